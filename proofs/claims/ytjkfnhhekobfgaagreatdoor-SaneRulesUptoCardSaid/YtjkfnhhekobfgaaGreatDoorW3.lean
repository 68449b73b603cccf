/- Rules 3, 6 and 9. No condition. -/
import Derived.Test.YtjkfnhhekobfgaaGreatDoorW2
set_option maxRecDepth 10000
set_option maxHeartbeats 4000000
set_option linter.all false
noncomputable section W14s
namespace Go.Ab
open Go.Ab
theorem zI {α:Type} (q:α->Bool) (l:List α):∃m,m≤l.length∧(∀i (h:i<l.length),i<m->q l[i]=true)∧(∀h:m<l.length,q l[m]=false)∧l.all q=decide (m=l.length):=by
 refine⟨l.findIdx (λx=> !q x),List.findIdx_le_length,λi h hi=> ?_,λh=> ?_,?_⟩
 ·have:=List.not_of_lt_findIdx hi;simpa using this
 ·have:=List.findIdx_getElem (w:=h);simpa using this
 ·by_cases h:l.findIdx (λx=> !q x)<l.length
  ·have h2:=List.findIdx_getElem (w:=h)
   have h3:l.all q=false:=by
    rw[List.all_eq_false]
    exact⟨_,List.getElem_mem h,by simpa using h2⟩
   rw[h3]
   have:¬l.findIdx (λx=> !q x)=l.length:=by omega
   simp[this]
  ·have hle:l.findIdx (λx=> !q x)≤l.length:=List.findIdx_le_length
   have he:l.findIdx (λx=> !q x)=l.length:=by omega
   rw[he]
   simp only[decide_true,List.all_eq_true]
   intro x hx
   obtain⟨i,hi,rfl⟩:=List.mem_iff_getElem.1 hx
   have:=List.not_of_lt_findIdx (show i<l.findIdx (λx=> !q x) by omega)
   simpa using this
def mP:dT->List Nat->dT
 | .seq x y,[]=> .seqm x y
 | .seq x y,0::p=> .seq (mP x p) y
 | .seq x y,_::p=> .seq x (mP y p)
 | .seqm x y,0::p=> .seqm (mP x p) y
 | .seqm x y,_::p=> .seqm x (mP y p)
 | .block i x,p=> .block i (mP x p)
 | .cond c x y,0::p=> .cond c (mP x p) y
 | .cond c x y,_::p=> .cond c x (mP y p)
 |c,_=>c
theorem ab1:∀(c:dT) (p:List Nat),erase (mP c p)=erase c:=by
 intro c
 induction c with
 |seq x y hx hy=>intro p;match p with|[]=>rfl|0::p=>simp[mP,erase,hx]|(n+1)::p=>simp[mP,erase,hy]
 |seqm x y hx hy=>intro p;match p with|[]=>rfl|0::p=>simp[mP,erase,hx]|(n+1)::p=>simp[mP,erase,hy]
 |block i x hx=>intro p;simp[mP,erase,hx]
 |cond c x y hx hy=>intro p;match p with|[]=>rfl|0::p=>simp[mP,erase,hx]|(n+1)::p=>simp[mP,erase,hy]
 |_=>intro p;rfl
theorem AL {own sp:List Nat} {f:FuncId} {A:fU} (p:List Nat) (h:jI Pg own sp f=some A.er):jI Pg own sp f=some (fU.er ⟨A.nt,A.res,mP A.code p⟩):=by
 rw[h];simp only[fU.er,ab1]
theorem NG.of {P:Program} {s:St} {x y:dT} {Q:Exit->St->Prop} {t:Tg (x,y,Q)} (M:St->Prop) (h1:aw P x (xV Q λs'=>∃c:List Cut,jq c s' M) s) (h2:∀s',M s'->aw P y Q s'):NG P x y Q t s:=⟨M,h1,h2⟩
def sP (b:List UInt8):Bool:=by classical exact decide (DG b)
theorem Lc {b:List UInt8}:sP b=true↔DG b:=by unfold sP;simp
theorem kM.pure {b:List UInt8} {r:PV} (h:kM b r):Pure r:=by
 obtain⟨x,y,L,e,rfl,_⟩:=h;simp
theorem kM.get {b:List UInt8} {r:PV} (h:kM b r):∃(x y:im) (L e:Int),r= .tup [.st 35 [dN x,dN y,.int .i64 L],.int .i64 e]∧sP b=(decide (e=0)&&decide (L=b.length)):=by
 obtain⟨x,y,L,e,h1,h2⟩:=h
 refine⟨x,y,L,e,h1,?_⟩
 cases h3:sP b
 ·have h4:¬(e=0∧L=b.length):=λg=>by rw[Lc.2 (h2.1 g)]at h3;cases h3
  symm;simpa using h4
 ·have h4:=h2.2 (Lc.1 h3)
  simp[h4.1,h4.2]
theorem O6 {b:List UInt8} (hb:b.length≤1048576):bg Pg I.gP [fV b] (.bl (sP b)):=by
 refine ai.intro T.gP (by simp[F.gP]) ?_
 simp[F.gP,aj,aF]
 refine an.Ux (O5 hb) (by simp) (by simp) (λr h=>h.pure) ?_
 intro r hr
 obtain⟨x,y,L,e,rfl,h⟩:=hr.get
 by_cases he:e=0
 ·simp[he,av]
  refine al.plain [] ?_
  simp[h,he]
 ·simp[he,av]
  refine al.plain [] ?_
  simp[h,he]
theorem Ld {b:List UInt8} (hb:b.length≤1048576):bg Pg I.dX [fV b] (.bl (!sP b)):=by
 refine ai.intro T.dX (by simp[F.dX]) ?_
 simp[F.dX,aj,aF]
 refine an.ret (O6 hb) (by simp) (by simp) (by simp) ?_
 simp
 refine al.plain [] ?_
 simp
theorem Is {l:List (List UInt8)} (h:l.length≤1048576):Il 1 false fV l:=⟨h,λx=>⟨⟨rfl,rfl⟩,by simp,by simp,λK=>by simp⟩⟩
theorem O7 {l:List (List UInt8)} (hl:l.length≤1048576) (hb:∀b∈l,b.length≤1048576):bg Pg I.cg [jv l,.fn (.func I.dX) [] []] (.bl (!l.all sP)):=by
 have h:=ahO (f:=I.cg) (ix:=I.dL) (p:=λb=> !sP b) T.cg T.dL (Is hl) (g:=I.dX) (λb hx=>Ld (hb b hx))
 have e:l.any (λb=> !sP b)= !l.all sP:=by rw[List.all_eq_not_any_not];simp
 rw[e]at h
 exact h
def vu (n:Int):Bool:=decide (n=0)||gp n 1000 1073741824
theorem Lf (n:Int):bg Pg I.b9 [.int .i64 n] (.bl (vu n)):=by
 refine ai.intro T.b9 (by simp[F.b9]) ?_
 by_cases h0:n=0
 ·simp[F.b9,aj,aF,h0]
  refine al.plain [] ?_
  simp[vu,h0]
 ·by_cases h1:1000≤n
  ·simp[F.b9,aj,aF,h0,h1]
   refine al.plain [] ?_
   simp[vu,h0,gp,h1]
  ·simp[F.b9,aj,aF,h0,h1]
   refine al.plain [] ?_
   simp[vu,h0,gp,h1]
def sQ (p:fg):Bool:=if p.jL=true then Ir p.ep else PV.beq (gZ p.ep) (gZ tZ)
def yK (d:cK) (p:fg):Bool:=gp p.oU 0 d.now&&(p.oT||decide (p.oU=0))
def yL (d:cK) (p:fg):Bool:=gp p.nS 0 d.now&&(p.n9||(decide (p.nS=0)&&PV.beq p.pN.p Gv.p))
def sR (d:cK) (p:fg):Bool:=sQ p&&vu p.oS&&yK d p&&yL d p&&decide ((p.bD.length:Int)≤d.rules.gC)&&p.bD.all sP
noncomputable def F.Lg:fU:=⟨F.eG.nt,F.eG.res,mP (mP (mP (mP (F.eG.code) [1,0]) [1,0,1,1]) [1,0,1,1,1,1]) [1,0,1,1,1,1,1,1]⟩
theorem T.Lg:jI Pg [] [8,9,10,11,18,19,20,21,22,29,30,31,32,46,47,48,49,67,68,69,70,71,72,82,83,84,85] I.eG=some F.Lg.er:=AL [1,0,1,1,1,1,1,1] (AL [1,0,1,1,1,1] (AL [1,0,1,1] (AL [1,0] (T.eG))))
theorem Lh {d:cK} {p:fg} (hs:p.bD.length≤1048576) (hb:∀b∈p.bD,b.length≤1048576):ai Pg I.eG [br p,.pt KB [] 0] [.box (bE d)] (λr fp=>r= .bl (sR d p)∧fp=[.box (bE d)]):=by
 refine ai.intro T.Lg (by simp[F.Lg,F.eG]) ?_
 have hr:sR d p=(sQ p&&vu p.oS&&yK d p&&yL d p&&decide ((p.bD.length:Int)≤d.rules.gC)&&p.bD.all sP):=rfl
 have f1:=Kw
 have f2:=rm p.ep
 have f3:fits (Sh.ar 16 (Sh.i IntKind.u8)) (PV.ar 1 16 (zr 16 (PV.int IntKind.u8 0)))=true:=by rw[fC];rfl
 have f4:fits (Sh.ar 16 (Sh.i IntKind.u8)) p.pN.p=true:=p.pN.ok
 have e1:=yC
 have e2:=Dp
 have hp:(p.jL=true∧Ir p.ep=true)∨(p.jL=true∧Ir p.ep=false)∨(p.jL=false∧PV.beq (gZ p.ep) (gZ tZ)=true)∨(p.jL=false∧PV.beq (gZ p.ep) (gZ tZ)=false):=by
  cases p.jL<;>cases Ir p.ep<;>cases PV.beq (gZ p.ep) (gZ tZ)<;>simp
 simp[F.Lg,F.eG,mP,aj,aF]
 obtain⟨l,xg,hlA⟩:=wI p.ep
 rw[e1]at hp
 refine NG.of (λs'=>s'=⟨[(1,.pt KB [] 0),(2,.pt 2 [] 0),(3,.bl false),(4,.bl (!sQ p))],[(2,.box (br p)),(KB,.box (bE d))]⟩) ?_ ?_
 ·rcases hp with⟨a1,a2⟩|⟨a1,a2⟩|⟨a1,a2⟩|⟨a1,a2⟩
  ·have a3:¬l=[]:=λh=>by rw[xg.1 h]at a2;cases a2
   simp[a1]
   refine an.ret hlA (by simp) (by simp) (by simp) ?_
   simp[a3,a1]
   refine⟨[.keep [1,2,3,4]],?_⟩
   simp[sQ,a1,a2]
  ·have a3:l=[]:=xg.2 a2
   simp[a1]
   refine an.ret hlA (by simp) (by simp) (by simp) ?_
   simp[a3]
   refine⟨[.keep [1,2,3,4]],?_⟩
   simp[sQ,a1,a2]
  ·simp[a1,a2,f1]
   refine⟨[.keep [1,2,3,4]],?_⟩
   simp[sQ,a1,a2,e1]
  ·simp[a1,a2,f1]
   refine⟨[.keep [1,2,3,4]],?_⟩
   simp[sQ,a1,a2,e1]
 rintro s' rfl
 cases q1:sQ p
 ·simp
  refine al.with [] [KB] ?_
  simp[hr,q1,af,(aK d).refs,aE,(aK d).aB]
 simp
 refine NG.of (λs'=>s'=⟨[(1,.pt KB [] 0),(2,.pt 2 [] 0),(3,.bl false),(24,.bl (!vu p.oS))],[(2,.box (br p)),(KB,.box (bE d))]⟩) ?_ ?_
 ·by_cases k0:p.oS=0
  ·simp[k0]
   refine⟨[.keep [1,2,3,24]],?_⟩
   simp[vu]
  ·simp[k0]
   refine Dv ?_
   simp
   refine⟨[.keep [1,2,3,24]],?_⟩
   simp[vu,k0]
 rintro s' rfl
 cases q2:vu p.oS
 ·simp
  refine al.with [] [KB] ?_
  simp[hr,q2,af,(aK d).refs,aE,(aK d).aB]
 simp
 refine NG.of (λs'=>s'=⟨[(1,.pt KB [] 0),(2,.pt 2 [] 0),(3,.bl false),(34,.bl (!yK d p))],[(2,.box (br p)),(KB,.box (bE d))]⟩) ?_ ?_
 ·simp
  refine Dv ?_
  have hi:yK d p=(gp p.oU 0 d.now&&(p.oT||decide (p.oU=0))):=rfl
  generalize gp p.oU 0 d.now=g1 at*
  cases g1
  ·simp
   refine⟨[.keep [1,2,3,34]],?_⟩
   simp[hi]
  by_cases k1:p.oT=true
  ·simp[k1]
   refine⟨[.keep [1,2,3,34]],?_⟩
   simp[hi,k1]
  by_cases k2:p.oU=0
  ·simp[k1,k2]
   refine⟨[.keep [1,2,3,34]],?_⟩
   simp[hi,k1,k2]
  ·simp[k1,k2]
   refine⟨[.keep [1,2,3,34]],?_⟩
   simp[hi,k1,k2]
 rintro s' rfl
 cases q3:yK d p
 ·simp
  refine al.with [] [KB] ?_
  simp[hr,q3,af,(aK d).refs,aE,(aK d).aB]
 simp
 refine NG.of (λs'=>s'=⟨[(1,.pt KB [] 0),(2,.pt 2 [] 0),(3,.bl false),(51,.bl (!yL d p))],[(2,.box (br p)),(KB,.box (bE d))]⟩) ?_ ?_
 ·simp
  refine Dv ?_
  have hi:yL d p=(gp p.nS 0 d.now&&(p.n9||(decide (p.nS=0)&&PV.beq p.pN.p Gv.p))):=rfl
  rw[e2]at hi
  generalize gp p.nS 0 d.now=g1 at*
  cases g1
  ·simp
   refine⟨[.keep [1,2,3,51]],?_⟩
   simp[hi]
  by_cases k1:p.n9=true
  ·simp[k1]
   refine⟨[.keep [1,2,3,51]],?_⟩
   simp[hi,k1]
  by_cases k2:p.nS=0
  ·simp[k1,k2,f3,f4]
   refine⟨[.keep [1,2,3,51]],?_⟩
   simp[hi,k1,k2]
  ·simp[k1,k2]
   refine⟨[.keep [1,2,3,51]],?_⟩
   simp[hi,k1,k2]
 rintro s' rfl
 cases q4:yL d p
 ·simp
  refine al.with [] [KB] ?_
  simp[hr,q4,af,(aK d).refs,aE,(aK d).aB]
 by_cases k6:(p.bD.length:Int)≤d.rules.gC
 ·simp[k6]
  refine an.ret (O7 hs hb) (by simp) (by simp) (by simp) ?_
  simp
  refine al.with [] [KB] ?_
  simp[hr,q1,q2,q3,q4,k6,af,(aK d).refs,aE,(aK d).aB]
 ·simp[k6]
  refine al.with [] [KB] ?_
  simp[hr,k6,af,(aK d).refs,aE,(aK d).aB]
noncomputable def F.DH:fU:=⟨F.bI.nt,F.bI.res,mP (mP (F.bI.code) [1,0]) [1,1,0]⟩
theorem T.DH:jI Pg [] [12,13,14,15,22,23,24,25,26,29,30,31,32,44,45,46,47,50,51,52,53,54,65,66,67,68,69,70,73,74,75,76,77,78,79,96,97,98,99,100] I.bI=some F.DH.er:=AL [1,1,0] (AL [1,0] (T.bI))
theorem GL {d:cK} {p:fg} (hs:p.bD.length≤1048576) (hb:∀b∈p.bD,b.length≤1048576):bg Pg I.bI [bE d,br p] (.bl (sR d p)):=by
 refine ai.intro T.DH (by simp[F.DH,F.bI]) ?_
 have hr:sR d p=(sQ p&&vu p.oS&&yK d p&&yL d p&&decide ((p.bD.length:Int)≤d.rules.gC)&&p.bD.all sP):=rfl
 have f1:=Kw
 have f2:=rm p.ep
 have f3:fits (Sh.ar 16 (Sh.i IntKind.u8)) (PV.ar 1 16 (zr 16 (PV.int IntKind.u8 0)))=true:=by rw[fC];rfl
 have f4:fits (Sh.ar 16 (Sh.i IntKind.u8)) p.pN.p=true:=p.pN.ok
 have e1:=yC
 have e2:=Dp
 have hp:(p.jL=true∧Ir p.ep=true)∨(p.jL=true∧Ir p.ep=false)∨(p.jL=false∧PV.beq (gZ p.ep) (gZ tZ)=true)∨(p.jL=false∧PV.beq (gZ p.ep) (gZ tZ)=false):=by
  cases p.jL<;>cases Ir p.ep<;>cases PV.beq (gZ p.ep) (gZ tZ)<;>simp
 simp[F.DH,F.bI,mP,aj,aF]
 obtain⟨l,xg,hlA⟩:=wJ p.ep
 rw[e1]at hp
 refine NG.of (λs'=>s'=⟨[(2,.pt 2 [] 0),(3,.pt 3 [] 0),(4,.bl false),(33,.bl (!(sQ p&&vu p.oS)))],[(2,.box (bE d)),(3,.box (br p))]⟩) ?_ ?_
 ·rcases hp with⟨a1,a2⟩|⟨a1,a2⟩|⟨a1,a2⟩|⟨a1,a2⟩
  ·have a3:¬l=[]:=λh=>by rw[xg.1 h]at a2;cases a2
   simp[a1]
   refine an.ret hlA (by simp) (by simp) (by simp) ?_
   simp[a3,a1]
   refine an.ret (Lf p.oS) (by simp) (by simp) (by simp) ?_
   simp
   refine⟨[.keep [2,3,4,33]],?_⟩
   simp[sQ,a1,a2]
  ·have a3:l=[]:=xg.2 a2
   simp[a1]
   refine an.ret hlA (by simp) (by simp) (by simp) ?_
   simp[a3]
   refine⟨[.keep [2,3,4,33]],?_⟩
   simp[sQ,a1,a2]
  ·simp[a1,a2,f1]
   refine an.ret (Lf p.oS) (by simp) (by simp) (by simp) ?_
   simp
   refine⟨[.keep [2,3,4,33]],?_⟩
   simp[sQ,a1,a2,e1]
  ·simp[a1,a2,f1]
   refine⟨[.keep [2,3,4,33]],?_⟩
   simp[sQ,a1,a2,e1]
 rintro s' rfl
 cases q1:(sQ p&&vu p.oS)
 ·simp
  refine al.plain [] ?_
  simp[hr,q1]
 simp
 refine NG.of (λs'=>s'=⟨[(2,.pt 2 [] 0),(3,.pt 3 [] 0),(4,.bl false),(80,.bl (!(yK d p&&yL d p&&decide ((p.bD.length:Int)≤d.rules.gC))))],[(2,.box (bE d)),(3,.box (br p))]⟩) ?_ ?_
 ·simp
  refine MP ?_
  have hi:yK d p=(gp p.oU 0 d.now&&(p.oT||decide (p.oU=0))):=rfl
  have hc:yL d p=(gp p.nS 0 d.now&&(p.n9||(decide (p.nS=0)&&PV.beq p.pN.p Gv.p))):=rfl
  rw[e2]at hc
  cases g1:gp p.oU 0 d.now
  ·simp
   refine⟨[.keep [2,3,4,80]],?_⟩
   simp[hi,g1]
  by_cases k1:p.oT=true
  ·have qi:yK d p=true:=by rw[hi,g1];simp[k1]
   simp[k1]
   refine MP ?_
   cases g2:gp p.nS 0 d.now
   ·simp
    refine⟨[.keep [2,3,4,80]],?_⟩
    simp[hc,g2]
   by_cases k3:p.n9=true
   ·by_cases k6:d.rules.gC<p.bD.length
    ·simp[k3,k6]
     refine⟨[.keep [2,3,4,80]],?_⟩
     simp[qi,hc,g2,k3,show¬(p.bD.length:Int)≤d.rules.gC by omega]
    ·simp[k3,k6]
     refine⟨[.keep [2,3,4,80]],?_⟩
     simp[qi,hc,g2,k3,show(p.bD.length:Int)≤d.rules.gC by omega]
   by_cases k4:p.nS=0
   ·cases k5:PV.beq p.pN.p (PV.ar 1 16 (zr 16 (PV.int IntKind.u8 0)))
    ·rw[k4]at g2
     simp[k3,k4,k5,f3,f4]
     refine⟨[.keep [2,3,4,80]],?_⟩
     simp[hc,k3,k4,k5]
    ·have qc:yL d p=true:=by rw[hc,g2,k5];simp[k4]
     by_cases k6:d.rules.gC<p.bD.length
     ·simp[k3,k4,k5,f3,f4,k6]
      refine⟨[.keep [2,3,4,80]],?_⟩
      simp[qi,qc,show¬(p.bD.length:Int)≤d.rules.gC by omega]
     ·simp[k3,k4,k5,f3,f4,k6]
      refine⟨[.keep [2,3,4,80]],?_⟩
      simp[qi,qc,show(p.bD.length:Int)≤d.rules.gC by omega]
   ·simp[k3,k4]
    refine⟨[.keep [2,3,4,80]],?_⟩
    simp[hc,k3,k4]
  by_cases k2:p.oU=0
  ·have qi:yK d p=true:=by rw[hi,g1];simp[k2]
   simp[k1,k2]
   refine MP ?_
   cases g2:gp p.nS 0 d.now
   ·simp
    refine⟨[.keep [2,3,4,80]],?_⟩
    simp[hc,g2]
   by_cases k3:p.n9=true
   ·by_cases k6:d.rules.gC<p.bD.length
    ·simp[k3,k6]
     refine⟨[.keep [2,3,4,80]],?_⟩
     simp[qi,hc,g2,k3,show¬(p.bD.length:Int)≤d.rules.gC by omega]
    ·simp[k3,k6]
     refine⟨[.keep [2,3,4,80]],?_⟩
     simp[qi,hc,g2,k3,show(p.bD.length:Int)≤d.rules.gC by omega]
   by_cases k4:p.nS=0
   ·cases k5:PV.beq p.pN.p (PV.ar 1 16 (zr 16 (PV.int IntKind.u8 0)))
    ·rw[k4]at g2
     simp[k3,k4,k5,f3,f4]
     refine⟨[.keep [2,3,4,80]],?_⟩
     simp[hc,k3,k4,k5]
    ·have qc:yL d p=true:=by rw[hc,g2,k5];simp[k4]
     by_cases k6:d.rules.gC<p.bD.length
     ·simp[k3,k4,k5,f3,f4,k6]
      refine⟨[.keep [2,3,4,80]],?_⟩
      simp[qi,qc,show¬(p.bD.length:Int)≤d.rules.gC by omega]
     ·simp[k3,k4,k5,f3,f4,k6]
      refine⟨[.keep [2,3,4,80]],?_⟩
      simp[qi,qc,show(p.bD.length:Int)≤d.rules.gC by omega]
   ·simp[k3,k4]
    refine⟨[.keep [2,3,4,80]],?_⟩
    simp[hc,k3,k4]
  ·simp[k1,k2]
   refine⟨[.keep [2,3,4,80]],?_⟩
   simp[hi,k1,k2]
 rintro s' rfl
 cases q2:(yK d p&&yL d p&&decide ((p.bD.length:Int)≤d.rules.gC))
 ·simp
  refine al.plain [] ?_
  simp only[Bool.and_eq_false_iff]at q2
  rcases q2 with(q2|q2)|q2<;>simp[hr,q2]
 simp
 have mQ:sR d p=p.bD.all sP:=by
  simp only[aJ]at q1 q2
  simp[hr,q1.1,q1.2,q2.1.1,q2.1.2,q2.2]
 obtain⟨n,hle,jP,jQ,dM⟩:=zI sP p.bD
 rw[dM]at mQ
 refine fb.fG n (λ_=>True) [2,3,4,82,83,84] (λi=>[(84,.int .i64 i)]) (λi=>[]) [.keep [2,3,4,82,83,84]] ?_
 simp
 refine⟨λi hi K hK=> ?_,λK=> ?_⟩
 ·have eS:i<p.bD.length:=by omega
  have hx:p.bD[i]? =some p.bD[i]:=gJ eS
  have hq:=jP i eS hi
  have hbi:=hb _ (List.getElem_mem eS)
  have hw:IntKind.i64.wrap ((i:Int)+1)=(i:Int)+1:=wrap_i64 (by omega)
  generalize p.bD[i]=b at*
  simp[↓ah,hx,eS,-getElem?_pos]
  refine an.Ux (GK hbi) (by simp) (by simp) (λr h=>h.pure) ?_
  intro r hrr
  obtain⟨x,y,L,e,rfl,h⟩:=hrr.get
  rw[hq]at h
  have he:e=0:=by by_cases g:e=0;exact g;simp[g]at h
  have hL:L=b.length:=by by_cases g:L=b.length;exact g;simp[g]at h
  simp[he,hL,av,hw]
  refine⟨[.keep [2,3,4,82,83,84],.dr 7],?_⟩
  simp
  exact hK _ (by simp)
 ·by_cases hn:n<p.bD.length
  ·have hx:p.bD[n]? =some p.bD[n]:=gJ hn
   have hq:=jQ hn
   have hbi:=hb _ (List.getElem_mem hn)
   have bS:¬n=p.bD.length:=by omega
   generalize p.bD[n]=b at*
   simp[↓ah,hx,hn,-getElem?_pos]
   refine an.Ux (GK hbi) (by simp) (by simp) (λr h=>h.pure) ?_
   intro r hrr
   obtain⟨x,y,L,e,rfl,h⟩:=hrr.get
   rw[hq]at h
   by_cases he:e=0
   ·have hL:¬L=b.length:=by intro g;simp[he,g]at h
    simp[he,hL,av]
    refine al.plain [] ?_
    simp[mQ,bS]
   ·simp[he,av]
    refine al.plain [] ?_
    simp[mQ,bS]
  ·have bS:n=p.bD.length:=by omega
   have mC:¬((n:Int)<p.bD.length):=by omega
   simp[↓ah,mC,hn]
   refine al.plain [] ?_
   simp[mQ,bS]
def r3 (d:cK):Bool:=d.aa.all (sR d)
theorem O8 {d:cK} (hl:d.aa.length≤1048576) (hs:∀p∈d.aa,p.bD.length≤1048576∧∀b∈p.bD,b.length≤1048576):bg Pg I.gk [bE d] (.bl (r3 d)):=by
 refine ai.intro T.gk (by simp[F.gk]) ?_
 simp[F.gk,aj,aF]
 refine pS hl (by simp) (λx hx=>Lh (d:=d) (hs x hx).1 (hs x hx).2) ?_
 simp
 refine al.plain [] ?_
 simp[r3]
end Go.Ab
end W14s
noncomputable section W15s
namespace Go.Ab
open Go.Ab
theorem U3 {d:cK} (hl:d.aa.length≤1048576) (hs:∀p∈d.aa,p.bD.length≤1048576∧∀b∈p.bD,b.length≤1048576):bg Pg I.bn [bE d,.int .i64 3] (.bl (r3 d)):=by
 refine ai.intro T.bn (by simp[F.bn]) ?_
 obtain⟨n,hle,jP,jQ,dM⟩:=zI (sR d) d.aa
 have hr:r3 d=decide (n=d.aa.length):=dM
 simp[F.bn,aj,aF]
 refine fb.fG n (λ_=>True) [1,2,4,8,9,10] (λi=>[(10,.int .i64 i)]) (λi=>[]) [.keep [1,2,4,8,9,10]] ?_
 simp
 refine⟨λi hi K hK=> ?_,λK=> ?_⟩
 ·have eS:i<d.aa.length:=by omega
  have hx:d.aa[i]? =some d.aa[i]:=gJ eS
  have hq:=jP i eS hi
  have hm:=List.getElem_mem eS
  have hc:=GL (d:=d) (hs _ hm).1 (hs _ hm).2
  have hw:IntKind.i64.wrap ((i:Int)+1)=(i:Int)+1:=wrap_i64 (by omega)
  rw[hq]at hc
  generalize d.aa[i]=p at*
  simp[↓ah,hx,eS,-getElem?_pos]
  refine an.ret hc (by simp) (by simp) (by simp) ?_
  simp[hw]
  refine⟨[.keep [1,2,4,8,9,10],.dr 6],?_⟩
  simp
  exact hK _ (by simp)
 ·by_cases hn:n<d.aa.length
  ·have hx:d.aa[n]? =some d.aa[n]:=gJ hn
   have hq:=jQ hn
   have hm:=List.getElem_mem hn
   have hc:=GL (d:=d) (hs _ hm).1 (hs _ hm).2
   have bS:¬n=d.aa.length:=by omega
   rw[hq]at hc
   generalize d.aa[n]=p at*
   simp[↓ah,hx,hn,-getElem?_pos]
   refine an.ret hc (by simp) (by simp) (by simp) ?_
   simp
   refine al.plain [] ?_
   simp[hr,bS]
  ·have bS:n=d.aa.length:=by omega
   have mC:¬((n:Int)<d.aa.length):=by omega
   simp[↓ah,mC,hn]
   refine al.plain [] ?_
   simp[hr,bS]
theorem U4 {d:cK} (hl:d.aa.length≤1048576):bg Pg I.bn [bE d,.int .i64 4] (.bl (r4 d)):=by
 refine ai.intro T.bn (by simp[F.bn]) ?_
 obtain⟨n,hle,jP,jQ,dM⟩:=zI (AH d) d.aa
 have hr:r4 d=decide (n=d.aa.length):=dM
 simp[F.bn,aj,aF]
 refine fb.fG n (λ_=>True) [1,2,4,8,9,10] (λi=>[(10,.int .i64 i)]) (λi=>[]) [.keep [1,2,4,8,9,10]] ?_
 simp
 refine⟨λi hi K hK=> ?_,λK=> ?_⟩
 ·have eS:i<d.aa.length:=by omega
  have hx:d.aa[i]? =some d.aa[i]:=gJ eS
  have hq:=jP i eS hi
  have hm:=List.getElem_mem eS
  have hc:=RP d d.aa[i]
  have hw:IntKind.i64.wrap ((i:Int)+1)=(i:Int)+1:=wrap_i64 (by omega)
  rw[hq]at hc
  generalize d.aa[i]=p at*
  simp[↓ah,hx,eS,-getElem?_pos]
  refine an.ret hc (by simp) (by simp) (by simp) ?_
  simp[hw]
  refine⟨[.keep [1,2,4,8,9,10],.dr 6],?_⟩
  simp
  exact hK _ (by simp)
 ·by_cases hn:n<d.aa.length
  ·have hx:d.aa[n]? =some d.aa[n]:=gJ hn
   have hq:=jQ hn
   have hm:=List.getElem_mem hn
   have hc:=RP d d.aa[n]
   have bS:¬n=d.aa.length:=by omega
   rw[hq]at hc
   generalize d.aa[n]=p at*
   simp[↓ah,hx,hn,-getElem?_pos]
   refine an.ret hc (by simp) (by simp) (by simp) ?_
   simp
   refine al.plain [] ?_
   simp[hr,bS]
  ·have bS:n=d.aa.length:=by omega
   have mC:¬((n:Int)<d.aa.length):=by omega
   simp[↓ah,mC,hn]
   refine al.plain [] ?_
   simp[hr,bS]
theorem U5 {d:cK} (hl:d.aa.length≤1048576) (hs:∀p∈d.aa,qd p):bg Pg I.bn [bE d,.int .i64 5] (.bl (r5 d)):=by
 refine ai.intro T.bn (by simp[F.bn]) ?_
 obtain⟨n,hle,jP,jQ,dM⟩:=zI (AI d) d.aa
 have hr:r5 d=decide (n=d.aa.length):=dM
 simp[F.bn,aj,aF]
 refine fb.fG n (λ_=>True) [1,2,4,8,9,10] (λi=>[(10,.int .i64 i)]) (λi=>[]) [.keep [1,2,4,8,9,10]] ?_
 simp
 refine⟨λi hi K hK=> ?_,λK=> ?_⟩
 ·have eS:i<d.aa.length:=by omega
  have hx:d.aa[i]? =some d.aa[i]:=gJ eS
  have hq:=jP i eS hi
  have hm:=List.getElem_mem eS
  have hc:=RQ (d:=d) (hs _ hm)
  have hw:IntKind.i64.wrap ((i:Int)+1)=(i:Int)+1:=wrap_i64 (by omega)
  rw[hq]at hc
  generalize d.aa[i]=p at*
  simp[↓ah,hx,eS,-getElem?_pos]
  refine an.ret hc (by simp) (by simp) (by simp) ?_
  simp[hw]
  refine⟨[.keep [1,2,4,8,9,10],.dr 6],?_⟩
  simp
  exact hK _ (by simp)
 ·by_cases hn:n<d.aa.length
  ·have hx:d.aa[n]? =some d.aa[n]:=gJ hn
   have hq:=jQ hn
   have hm:=List.getElem_mem hn
   have hc:=RQ (d:=d) (hs _ hm)
   have bS:¬n=d.aa.length:=by omega
   rw[hq]at hc
   generalize d.aa[n]=p at*
   simp[↓ah,hx,hn,-getElem?_pos]
   refine an.ret hc (by simp) (by simp) (by simp) ?_
   simp
   refine al.plain [] ?_
   simp[hr,bS]
  ·have bS:n=d.aa.length:=by omega
   have mC:¬((n:Int)<d.aa.length):=by omega
   simp[↓ah,mC,hn]
   refine al.plain [] ?_
   simp[hr,bS]
end Go.Ab
end W15s
noncomputable section W16s
namespace Go.Ab
open Go.Ab
theorem GM {va vb:PV} {pa pb:List Step} {la lb:List UInt8} {n:Nat} (ha:bf va pa=some (.ar 1 n (la.map u8))) (hb:bf vb pb=some (.ar 1 n (lb.map u8))) (ea:la.length=n) (eb:lb.length=n):
  ai Pg I.rX [.rs KB pa 0 n 0 1 .clip,.rs (KB+1) pb 0 n 0 1 .clip] [.box va,.box vb] (λr fp=>r= .int .i64 (rH la lb)∧fp=[.box va,.box vb]):=by
 have ta:(la.map u8).take n=la.map u8:=tJ (by simp[ea])
 have tb:(lb.map u8).take n=lb.map u8:=tJ (by simp[eb])
 have h:=ai.view (args:=[.rs KB pa 0 n 0 1 .clip,.rs (KB+1) pb 0 n 0 1 .clip]) (fp:=[.box va,.box vb]) (Compare la lb false false)
  ⟨.inl (.inr ⟨KB,pa,0,n,0,1,.clip,la.map u8,rfl,by simp[content,get,aF,ha,ta],(dQ (λx=>by simp[u8]) la).refs _,by omega,rfl⟩),
   .inl (.inr ⟨KB+1,pb,0,n,0,1,.clip,lb.map u8,rfl,by simp[content,get,aF,hb,tb],(dQ (λx=>by simp[u8]) lb).refs _,by omega,rfl⟩),trivial⟩ (λr new e=>by
  obtain⟨rfl,rfl⟩:=e
  exact⟨rfl,rfl⟩)
 refine h.mono ?_
 rintro r pV ⟨r0,new,⟨rfl,rfl⟩,rfl,rfl⟩
 exact⟨by simp[aB],by simp⟩
def nM (a b:im):Bool:=if a.jJ=b.jJ then Op.bytesLess a.ip b.ip else b.jJ
theorem Li (a b:im):bg Pg I.ig [dN a,dN b] (.bl (nM a b)):=by
 refine ai.intro T.ig (by simp[F.ig]) ?_
 have hv:=GM (va:=dN a) (vb:=dN b) (pa:=[.f 1 1]) (pb:=[.f 1 1]) (la:=a.ip) (lb:=b.ip) (n:=16) (by simp) (by simp) a.h b.h
 by_cases h:a.jJ=b.jJ
 ·simp[F.ig,aj,aF,h]
  refine an.gen [2,3] [] [.box (dN a),.box (dN b)] hv (by simp[getAll]) (by simp) (by simp) (by simp[ab,ae,bM,idx]) (by simp[af,(kS a).refs,(kS b).refs]) (by simp[aD,aB,bp,idx]) (by simp[aE,(kS a).aB,(kS b).aB]) (by simp[af,ae,(kS a).refs,(kS b).refs]) ?_
  simp[bb,aE,aB,dv,(kS a).aB,(kS b).aB]
  refine al.plain [] ?_
  simp[nM,h,rB]
 ·simp[F.ig,aj,aF,h]
  refine al.plain [] ?_
  simp[nM,h]
theorem Lj (a b:im):bg Pg I.cC [dN a,dN b] (.bl (nM a b)):=by
 refine ai.intro T.cC (by simp[F.cC]) ?_
 have t1:(a.ip.map u8).take 16=a.ip.map u8:=tJ (by simp[a.h])
 have t2:(b.ip.map u8).take 16=b.ip.map u8:=tJ (by simp[b.h])
 by_cases h:a.jJ=b.jJ
 ·simp[F.cC,aj,aF,h,t1,t2]
  refine al.plain [] ?_
  simp[nM,h]
 ·simp[F.cC,aj,aF,h]
  refine al.plain [] ?_
  simp[nM,h]
  cases h1:a.jJ<;>cases h2:b.jJ<;>simp_all
def oc (p q:Aq):Bool:=if PV.beq (dN p.addr) (dN q.addr)=true then decide (p.bits<q.bits)else nM p.addr q.addr
theorem RT (p q:Aq):bg Pg I.gU [iE p,iE q] (.bl (oc p q)):=by
 refine ai.intro T.gU (by simp[F.gU]) ?_
 have f1:=oa p.addr
 have f2:=oa q.addr
 cases h:PV.beq (dN p.addr) (dN q.addr)
 ·simp[F.gU,aj,aF,h,f1,f2]
  refine an.ret (Li p.addr q.addr) (by simp) (by simp) (by simp) ?_
  simp
  refine al.plain [] ?_
  simp[oc,h]
 ·simp[F.gU,aj,aF,h,f1,f2]
  refine al.plain [] ?_
  simp[oc,h]
theorem GN (p q:Aq):bg Pg I.bu [iE p,iE q] (.bl (oc p q)):=by
 refine ai.intro T.bu (by simp[F.bu]) ?_
 have f1:=oa p.addr
 have f2:=oa q.addr
 cases h:PV.beq (dN p.addr) (dN q.addr)
 ·simp[F.bu,aj,aF,h,f1,f2]
  refine an.ret (Lj p.addr q.addr) (by simp) (by simp) (by simp) ?_
  simp
  refine al.plain [] ?_
  simp[oc,h]
 ·simp[F.bu,aj,aF,h,f1,f2]
  refine al.plain [] ?_
  simp[oc,h]
def oy (l:List pn) (i:Nat):Bool:=match l[i]?with
 |none=>false
 |
  some r=> !mY r.mA||(match i with
  |0=>false
  |
   j+1=>match l[j]?with
   |none=>false
   |some q=> !oc q.mA r.mA)
theorem BU {l:List pn} {r:pn} (h:l[0]? =some r):oy l 0= !mY r.mA:=by simp only[oy,h,Bool.or_false]
theorem BV {l:List pn} {j:Nat} {q r:pn} (hq:l[j]? =some q) (hr:l[j+1]? =some r):oy l (j+1)=(!mY r.mA|| !oc q.mA r.mA):=by simp only[oy,hr,hq]
def Fm (l:List pn):Bool:=decide (fst (oy l) l.length=l.length)&&decide ((l.length:Int)≤16)
theorem O9 {l:List pn} (hl:l.length≤1048576):bg Pg I.gO [ee l] (.bl (Fm l)):=by
 refine ai.intro T.gO (by simp[F.gO]) ?_
 have hle:=gu (oy l) l.length
 have jP:∀i,i<fst (oy l) l.length->oy l i=false:=λi h=>gD h
 have jQ:fst (oy l) l.length<l.length->oy l (fst (oy l) l.length)=true:=gN
 have hr:Fm l=(decide (fst (oy l) l.length=l.length)&&decide ((l.length:Int)≤16)):=rfl
 generalize fst (oy l) l.length=n at*
 simp[F.gO,aj,aF]
 refine fb.fG n (λ_=>True) [0,2,5,6,7] (λi=>[(7,.int .i64 i)]) (λi=>[]) [.keep [0,2,5,6,7]] ?_
 simp
 refine⟨λi hi K hK=> ?_,λK=> ?_⟩
 ·have eS:i<l.length:=by omega
  have hx:l[i]? =some l[i]:=gJ eS
  have w2:IntKind.i64.wrap ((i:Int)+1)=(i:Int)+1:=wrap_i64 (by omega)
  have hb:=jP i hi
  by_cases hz:i=0
  ·subst hz
   rw[BU hx]at hb
   have hb:mY l[0].mA=true:=by simpa using hb
   have hv:=sM l[0].mA
   rw[hb]at hv
   generalize l[0]=r at*
   simp[↓ah,hx,eS,-getElem?_pos]
   refine aU.ret hv (by simp) (by simp) (by simp) ?_
   simp
   refine⟨[.keep [0,2,5,6,7],.dr 4],?_⟩
   simp
   exact hK _ (by simp)
  ·obtain⟨j,rfl⟩:∃j,i=j+1:=⟨i-1,by omega⟩
   have hj:j<l.length:=by omega
   have hy:l[j]? =some l[j]:=gJ hj
   rw[BV hy hx]at hb
   have oA:mY l[j+1].mA=true:=by cases h:mY l[j+1].mA<;>simp[h]at hb⊢
   have pg:oc l[j].mA l[j+1].mA=true:=by cases h:oc l[j].mA l[j+1].mA<;>simp[h]at hb⊢
   have hv:=sM l[j+1].mA
   have kq:=RT l[j].mA l[j+1].mA
   rw[oA]at hv
   rw[pg]at kq
   have hw:IntKind.i64.wrap (((j+1:Nat):Int)-1)=j:=by rw[wrap_i64 (by omega)];omega
   have dG:((j+1:Nat):Int)<l.length:=by omega
   have qq:(0:Int)<((j+1:Nat):Int):=by omega
   have mR:(0:Int)≤((j+1:Nat):Int):=by omega
   have oi:(((j+1:Nat):Int)).toNat=j+1:=by omega
   generalize l[j]=q at*
   generalize l[j+1]=r at*
   generalize Hh:((j+1:Nat):Int)=z at*
   simp[↓ah,hx,dG,qq,mR,oi,-getElem?_pos]
   refine aU.ret hv (by simp) (by simp) (by simp) ?_
   simp[hx,hy,dG,hj,hw,qq,mR,oi,-getElem?_pos]
   refine aU.ret kq (by simp) (by simp) (by simp) ?_
   simp[w2]
   refine⟨[.keep [0,2,5,6,7],.dr 4],?_⟩
   simp
   exact hK _ (by simp[←Hh])
 ·by_cases hn:n<l.length
  ·have hx:l[n]? =some l[n]:=gJ hn
   have hb:=jQ hn
   have bS:¬n=l.length:=by omega
   by_cases hz:n=0
   ·subst hz
    rw[BU hx]at hb
    have hb:mY l[0].mA=false:=by simpa using hb
    have hv:=sM l[0].mA
    rw[hb]at hv
    generalize l[0]=r at*
    simp[↓ah,hx,hn,-getElem?_pos]
    refine aU.ret hv (by simp) (by simp) (by simp) ?_
    simp
    refine al.plain [] ?_
    simp[hr,bS]
   ·obtain⟨j,rfl⟩:∃j,n=j+1:=⟨n-1,by omega⟩
    have hj:j<l.length:=by omega
    have hy:l[j]? =some l[j]:=gJ hj
    rw[BV hy hx]at hb
    have hv:=sM l[j+1].mA
    have kq:=RT l[j].mA l[j+1].mA
    have hw:IntKind.i64.wrap (((j+1:Nat):Int)-1)=j:=by rw[wrap_i64 (by omega)];omega
    have dG:((j+1:Nat):Int)<l.length:=by omega
    have qq:(0:Int)<((j+1:Nat):Int):=by omega
    have mR:(0:Int)≤((j+1:Nat):Int):=by omega
    have oi:(((j+1:Nat):Int)).toNat=j+1:=by omega
    generalize l[j]=q at*
    generalize l[j+1]=r at*
    generalize Hh:((j+1:Nat):Int)=z at*
    simp[↓ah,hx,dG,qq,mR,oi,-getElem?_pos]
    refine aU.ret hv (by simp) (by simp) (by simp) ?_
    cases g1:mY r.mA
    ·simp[hx,hy,dG,hj,hw,qq,mR,oi,-getElem?_pos]
     refine al.plain [] ?_
     simp[hr,bS]
    ·rw[g1]at hb
     have pg:oc q.mA r.mA=false:=by simpa using hb
     rw[pg]at kq
     simp[hx,hy,dG,hj,hw,qq,mR,oi,-getElem?_pos]
     refine aU.ret kq (by simp) (by simp) (by simp) ?_
     simp
     refine al.plain [] ?_
     simp[hr,bS]
  ·have hx:¬((n:Int)<l.length):=by omega
   have bS:n=l.length:=by omega
   simp[↓ah,hx,hn]
   refine al.plain [] ?_
   simp[hr,bS]
theorem BW {l:List pn} (hl:l.length≤1048576):bg Pg I.bZ [ee l] (.bl (Fm l)):=by
 refine ai.intro T.bZ (by simp[F.bZ]) ?_
 have hle:=gu (oy l) l.length
 have jP:∀i,i<fst (oy l) l.length->oy l i=false:=λi h=>gD h
 have jQ:fst (oy l) l.length<l.length->oy l (fst (oy l) l.length)=true:=gN
 have hr:Fm l=(decide (fst (oy l) l.length=l.length)&&decide ((l.length:Int)≤16)):=rfl
 generalize fst (oy l) l.length=n at*
 simp[F.bZ,aj,aF]
 refine fb.fG n (λ_=>True) [0,2,5,6,7] (λi=>[(7,.int .i64 i)]) (λi=>[]) [.keep [0,2,5,6,7]] ?_
 simp
 refine⟨λi hi K hK=> ?_,λK=> ?_⟩
 ·have eS:i<l.length:=by omega
  have hx:l[i]? =some l[i]:=gJ eS
  have w2:IntKind.i64.wrap ((i:Int)+1)=(i:Int)+1:=wrap_i64 (by omega)
  have hb:=jP i hi
  by_cases hz:i=0
  ·subst hz
   rw[BU hx]at hb
   have hb:mY l[0].mA=true:=by simpa using hb
   have hv:=BQ l[0].mA
   rw[hb]at hv
   generalize l[0]=r at*
   simp[↓ah,hx,eS,-getElem?_pos]
   refine aU.ret hv (by simp) (by simp) (by simp) ?_
   simp
   refine⟨[.keep [0,2,5,6,7],.dr 4],?_⟩
   simp
   exact hK _ (by simp)
  ·obtain⟨j,rfl⟩:∃j,i=j+1:=⟨i-1,by omega⟩
   have hj:j<l.length:=by omega
   have hy:l[j]? =some l[j]:=gJ hj
   rw[BV hy hx]at hb
   have oA:mY l[j+1].mA=true:=by cases h:mY l[j+1].mA<;>simp[h]at hb⊢
   have pg:oc l[j].mA l[j+1].mA=true:=by cases h:oc l[j].mA l[j+1].mA<;>simp[h]at hb⊢
   have hv:=BQ l[j+1].mA
   have kq:=GN l[j].mA l[j+1].mA
   rw[oA]at hv
   rw[pg]at kq
   have hw:IntKind.i64.wrap (((j+1:Nat):Int)-1)=j:=by rw[wrap_i64 (by omega)];omega
   have dG:((j+1:Nat):Int)<l.length:=by omega
   have qq:(0:Int)<((j+1:Nat):Int):=by omega
   have mR:(0:Int)≤((j+1:Nat):Int):=by omega
   have oi:(((j+1:Nat):Int)).toNat=j+1:=by omega
   generalize l[j]=q at*
   generalize l[j+1]=r at*
   generalize Hh:((j+1:Nat):Int)=z at*
   simp[↓ah,hx,dG,qq,mR,oi,-getElem?_pos]
   refine aU.ret hv (by simp) (by simp) (by simp) ?_
   simp[hx,hy,dG,hj,hw,qq,mR,oi,-getElem?_pos]
   refine aU.ret kq (by simp) (by simp) (by simp) ?_
   simp[w2]
   refine⟨[.keep [0,2,5,6,7],.dr 4],?_⟩
   simp
   exact hK _ (by simp[←Hh])
 ·by_cases hn:n<l.length
  ·have hx:l[n]? =some l[n]:=gJ hn
   have hb:=jQ hn
   have bS:¬n=l.length:=by omega
   by_cases hz:n=0
   ·subst hz
    rw[BU hx]at hb
    have hb:mY l[0].mA=false:=by simpa using hb
    have hv:=BQ l[0].mA
    rw[hb]at hv
    generalize l[0]=r at*
    simp[↓ah,hx,hn,-getElem?_pos]
    refine aU.ret hv (by simp) (by simp) (by simp) ?_
    simp
    refine al.plain [] ?_
    simp[hr,bS]
   ·obtain⟨j,rfl⟩:∃j,n=j+1:=⟨n-1,by omega⟩
    have hj:j<l.length:=by omega
    have hy:l[j]? =some l[j]:=gJ hj
    rw[BV hy hx]at hb
    have hv:=BQ l[j+1].mA
    have kq:=GN l[j].mA l[j+1].mA
    have hw:IntKind.i64.wrap (((j+1:Nat):Int)-1)=j:=by rw[wrap_i64 (by omega)];omega
    have dG:((j+1:Nat):Int)<l.length:=by omega
    have qq:(0:Int)<((j+1:Nat):Int):=by omega
    have mR:(0:Int)≤((j+1:Nat):Int):=by omega
    have oi:(((j+1:Nat):Int)).toNat=j+1:=by omega
    generalize l[j]=q at*
    generalize l[j+1]=r at*
    generalize Hh:((j+1:Nat):Int)=z at*
    simp[↓ah,hx,dG,qq,mR,oi,-getElem?_pos]
    refine aU.ret hv (by simp) (by simp) (by simp) ?_
    cases g1:mY r.mA
    ·simp[hx,hy,dG,hj,hw,qq,mR,oi,-getElem?_pos]
     refine al.plain [] ?_
     simp[hr,bS]
    ·rw[g1]at hb
     have pg:oc q.mA r.mA=false:=by simpa using hb
     rw[pg]at kq
     simp[hx,hy,dG,hj,hw,qq,mR,oi,-getElem?_pos]
     refine aU.ret kq (by simp) (by simp) (by simp) ?_
     simp
     refine al.plain [] ?_
     simp[hr,bS]
  ·have hx:¬((n:Int)<l.length):=by omega
   have bS:n=l.length:=by omega
   simp[↓ah,hx,hn]
   refine al.plain [] ?_
   simp[hr,bS]
end Go.Ab
end W16s
noncomputable section W17s
namespace Go.Ab
open Go.Ab
def xf (k:Key) (p:fg):Bool:=decide (p.fF=k)
def iw (d:cK) (k:Key):Bool:=d.aa.any (xf k)
theorem pT {α:Type} (p:α->Bool) (l:List α):∃m,m≤l.length∧(∀i (h:i<l.length),i<m->p l[i]=false)∧(∀h:m<l.length,p l[m]=true∧fi p l=m∧l.any p=true)∧(¬m<l.length->fi p l= -1∧l.any p=false):=by
 refine⟨l.findIdx p,List.findIdx_le_length,λi h h2=>List.not_of_lt_findIdx h2,λh=> ?_,λh=> ?_⟩
 ·have h2:p l[l.findIdx p]=true:=List.findIdx_getElem
  have h3:l.any p=true:=List.any_eq_true.2 ⟨_,List.getElem_mem h,h2⟩
  exact⟨h2,by unfold fi;rw[if_pos h3],h3⟩
 ·have h3:¬l.any p=true:=λh2=>h (List.findIdx_lt_length.2 (List.any_eq_true.1 h2))
  exact⟨by unfold fi;rw[if_neg h3],by simpa using h3⟩
theorem GO {d:cK} (hl:d.aa.length≤1048576) (k:Key):bg Pg I.cL [bE d,dU k] (.int .i64 (fi (xf k) d.aa)):=by
 refine ai.intro T.cL (by simp[F.cL]) ?_
 obtain⟨m,hle,jP,jQ,uo⟩:=pT (xf k) d.aa
 simp[F.cL,aj,aF]
 refine fb.fG m (λ_=>True) [2,3,4,8,9,10] (λi=>[(10,.int .i64 i)]) (λi=>[]) [.keep [2,3,4,8,9,10]] ?_
 simp
 refine⟨λi hi K hK=> ?_,λK=> ?_⟩
 ·have eS:i<d.aa.length:=by omega
  have hx:d.aa[i]? =some d.aa[i]:=gJ eS
  have he:¬d.aa[i].fF=k:=by simpa[xf]using jP i eS hi
  generalize d.aa[i]=p at*
  simp[↓ah,hx,eS,he,gr,cu eS hl,-getElem?_pos]
  refine⟨[.keep [2,3,4,8,9,10],.dr 6],?_⟩
  simp
  exact hK _ (by simp)
 ·by_cases hn:m<d.aa.length
  ·have hx:d.aa[m]? =some d.aa[m]:=gJ hn
   obtain⟨h1,h2,h3⟩:=jQ hn
   have he:d.aa[m].fF=k:=by simpa[xf]using h1
   generalize d.aa[m]=p at*
   simp[↓ah,hx,hn,he,gr,-getElem?_pos]
   refine al.plain [] ?_
   simp[h2]
  ·obtain⟨h2,h3⟩:=uo hn
   have mC:¬((m:Int)<d.aa.length):=by omega
   simp[↓ah,mC,hn]
   refine al.plain [] ?_
   simp[h2]
theorem U6 (p:fg) (k:Key):ai Pg I.fK [br p,.pt KB [] 0] [.box (dU k)] (λr fp=>r= .bl (xf k p)∧fp=[.box (dU k)]):=by
 refine ai.intro T.fK (by simp[F.fK]) ?_
 simp[F.fK,aj,aF,gr]
 refine al.with [] [KB] ?_
 simp[af,(ve k).refs,aE,(ve k).aB,xf]
theorem Lk {d:cK} (hl:d.aa.length≤1048576) (k:Key):bg Pg I.iH [bE d,dU k] (.bl (iw d k)):=by
 refine ai.intro T.iH (by simp[F.iH]) ?_
 have hc:=OZ (f:=I.bc) (ix:=I.bw) (p:=xf k) T.bc T.bw (AG hl) (g:=I.fK) (v:=dU k) (by simp) (λx _=>U6 x k)
 simp[F.iH,aj,aF]
 refine an.gen [3] [] [.box (dU k)] hc (by simp[getAll]) (by simp) (by simp) (by simp[ab,ae,bM,idx,fk,(dQ kL d.aa).refs]) (by simp[af]) (by simp[aD,aB,bp,idx,fk,(dQ kL d.aa).aB]) (by simp[aE]) (by simp[af,ae]) ?_
 simp[bb,aE,aB,dv]
 refine al.plain [] ?_
 simp[iw]
def r6 (d:cK):Bool:=Fm d.aV&&d.aV.all λr=>iw d r.peer
theorem Fo {l:List pn} (h:l.length≤1048576):Il 50 true iQ l:=⟨h,λx=>⟨⟨rfl,rfl⟩,by simp,by simp,λK=>by simp⟩⟩
theorem It {d:cK} (hl:d.aa.length≤1048576) (r:pn):ai Pg I.eR [iQ r,.pt KB [] 0] [.box (bE d)] (λx fp=>x= .bl (!iw d r.peer)∧fp=[.box (bE d)]):=by
 refine ai.intro T.eR (by simp[F.eR]) ?_
 simp[F.eR,aj,aF]
 refine an.ret (Lk hl r.peer) (by simp) (by simp) (by simp) ?_
 simp
 refine al.with [] [KB] ?_
 simp[af,(aK d).refs,aE,(aK d).aB]
theorem Ll {d:cK} (hl:d.aa.length≤1048576) (hr:d.aV.length≤1048576):bg Pg I.fI [bE d] (.bl (r6 d)):=by
 refine ai.intro T.fI (by simp[F.fI]) ?_
 have hc:=OZ (f:=I.bN) (ix:=I.b7) (p:=λr:pn=> !iw d r.peer) T.bN T.b7 (Fo hr) (g:=I.eR) (v:=bE d) (by simp) (λx _=>It hl x)
 have e:d.aV.any (λr:pn=> !iw d r.peer)= !(d.aV.all λr=>iw d r.peer):=by rw[List.all_eq_not_any_not];simp
 rw[e]at hc
 simp[F.fI,aj,aF]
 refine an.ret (O9 hr) (by simp) (by simp) (by simp) ?_
 cases g1:Fm d.aV
 ·simp
  refine al.plain [] ?_
  simp[r6,g1]
 simp
 refine an.gen [1] [] [.box (bE d)] hc (by simp[getAll]) (by simp) (by simp) (by simp[ab,ae,bM,idx,ee,(dQ sB d.aV).refs]) (by simp[af,(aK d).refs]) (by simp[aD,aB,bp,idx,ee,(dQ sB d.aV).aB]) (by simp[aE,(aK d).aB]) (by simp[af,ae,(aK d).refs]) ?_
 simp[bb,aE,aB,dv,(aK d).aB]
 refine al.plain [] ?_
 simp[r6,g1]
theorem Pa {d:cK} (hl:d.aa.length≤1048576) (hr:d.aV.length≤1048576):bg Pg I.cH [bE d] (.bl (r6 d)):=by
 refine ai.intro T.cH (by simp[F.cH]) ?_
 obtain⟨n,hle,jP,jQ,dM⟩:=zI (λr:pn=>iw d r.peer) d.aV
 have hr6:r6 d=(Fm d.aV&&decide (n=d.aV.length)):=by unfold r6;rw[dM]
 simp[F.cH,aj,aF]
 refine fb.fG n (λ_=>True) [1,2,6,7,8] (λi=>[(8,.int .i64 i)]) (λi=>[]) [.keep [1,2,6,7,8]] ?_
 simp
 refine⟨λi hi K hK=> ?_,λK=> ?_⟩
 ·have eS:i<d.aV.length:=by omega
  have hx:d.aV[i]? =some d.aV[i]:=gJ eS
  have hq:=jP i eS hi
  have hf:=GO hl d.aV[i].peer
  have sV:=sL (xf d.aV[i].peer) d.aa
  have hk:iw d d.aV[i].peer=d.aa.any (xf d.aV[i].peer):=rfl
  rw[←hk,hq]at sV
  have Sr:¬fi (xf d.aV[i].peer) d.aa<0:=by have:=of_decide_eq_true sV;omega
  generalize fi (xf d.aV[i].peer) d.aa=x at*
  generalize d.aV[i]=r at*
  simp[↓ah,hx,eS,-getElem?_pos]
  refine an.ret hf (by simp) (by simp) (by simp) ?_
  simp[Sr,cu eS hr]
  refine⟨[.keep [1,2,6,7,8],.dr 4],?_⟩
  simp
  exact hK _ (by simp)
 ·by_cases hn:n<d.aV.length
  ·have hx:d.aV[n]? =some d.aV[n]:=gJ hn
   have hq:=jQ hn
   have hf:=GO hl d.aV[n].peer
   have sV:=sL (xf d.aV[n].peer) d.aa
   have hk:iw d d.aV[n].peer=d.aa.any (xf d.aV[n].peer):=rfl
   rw[←hk,hq]at sV
   have Sr:fi (xf d.aV[n].peer) d.aa<0:=by have:=of_decide_eq_false sV;omega
   have bS:¬n=d.aV.length:=by omega
   generalize fi (xf d.aV[n].peer) d.aa=x at*
   generalize d.aV[n]=r at*
   simp[↓ah,hx,hn,-getElem?_pos]
   refine an.ret hf (by simp) (by simp) (by simp) ?_
   simp[Sr]
   refine al.plain [] ?_
   simp[hr6,bS]
  ·have bS:n=d.aV.length:=by omega
   have mC:¬((n:Int)<d.aV.length):=by omega
   simp[↓ah,mC,hn]
   refine an.ret (BW hr) (by simp) (by simp) (by simp) ?_
   simp
   refine al.plain [] ?_
   simp[hr6,bS]
end Go.Ab
end W17s
noncomputable section W18s
namespace Go.Ab
open Go.Ab
theorem U7 (x:Int):bg Pg I.fy [.int .i64 x] (.bl false):=by
 refine ai.intro T.fy (by simp[F.fy]) ?_
 simp[F.fy,aj,aF]
 refine al.plain [] ?_
 simp
theorem Lm (x y:Int):bg Pg I.fS [.int .i64 x,.int .i64 y] (.bl (decide (x<y))):=by
 refine ai.intro T.fS (by simp[F.fS]) ?_
 simp[F.fS,aj,aF]
 refine an.ret (U7 x) (by simp) (by simp) (by simp) ?_
 simp
 refine al.plain [] ?_
 simp
def ui (l:List Int):Nat->Bool
 |0=>false
 |
  j+1=>match l[j]?,l[j+1]?with
  |some a,some b=>decide (b<a)
  |_,_=>false
theorem BX {l:List Int} {j:Nat} {a b:Int} (ha:l[j]? =some a) (hb:l[j+1]? =some b):ui l (j+1)=decide (b<a):=by simp only[ui,ha,hb]
def DI (l:List Int):Bool:=decide (fst (ui l) l.length=l.length)
theorem Iu (l:List Int):DI l=decide (fst (λt=>ui l (l.length-1-t)) (l.length-1)=l.length-1):=by
 unfold DI
 congr 1
 apply propext
 rw[j5,j5]
 constructor
 ·intro h t ht;exact h _ (by omega)
 ·intro h i hi
  by_cases h0:i=0
  ·subst h0;rfl
  ·have:=h (l.length-1-i) (by omega)
   rwa [show l.length-1-(l.length-1-i)=i by omega]at this
theorem Iv {l:List Int} (hl:l.length≤1048576):bg Pg I.bY [fH l] (.bl (DI l)):=by
 refine ai.intro T.bY (by simp[F.bY]) ?_
 have hle:=gu (λt=>ui l (l.length-1-t)) (l.length-1)
 have jP:∀t,t<fst (λt=>ui l (l.length-1-t)) (l.length-1)->ui l (l.length-1-t)=false:=λt h=>by have:=gD h;simpa using this
 have jQ:fst (λt=>ui l (l.length-1-t)) (l.length-1)<l.length-1->ui l (l.length-1-fst (λt=>ui l (l.length-1-t)) (l.length-1))=true:=λh=>gN h
 have hr:=Iu l
 generalize fst (λt=>ui l (l.length-1-t)) (l.length-1)=n at*
 have w0:IntKind.i64.wrap ((l.length:Int)-1)=(l.length:Int)-1:=wrap_i64 (by omega)
 simp[F.bY,aj,aF,w0]
 refine fb.fG n (λ_=>True) [0,2,3] (λi=>[(3,.int .i64 ((l.length:Int)-1-i))]) (λi=>[]) [.keep [0,2,3]] ?_
 simp
 refine⟨λi hi K hK=> ?_,λK=> ?_⟩
 ·obtain⟨j,hj⟩:∃j,l.length-1-i=j+1:=⟨l.length-2-i,by omega⟩
  have hj1:j+1<l.length:=by omega
  have hj0:j<l.length:=by omega
  have hx:l[j+1]? =some l[j+1]:=gJ hj1
  have hy:l[j]? =some l[j]:=gJ hj0
  have hb:=jP i hi
  rw[hj,BX hy hx]at hb
  have e1:(l.length:Int)-1-i=(j:Int)+1:=by omega
  have e2:(l.length:Int)-1-((i:Int)+1)=(j:Int):=by omega
  rw[e1]
  rw[e2]at hK
  have hw:IntKind.i64.wrap (j:Int)=j:=wrap_i64 (by omega)
  have oi:((j:Int)+1).toNat=j+1:=by omega
  have dG:(j:Int)+1<l.length:=by omega
  have qq:(0:Int)<(j:Int)+1:=by omega
  have mR:(0:Int)≤(j:Int)+1:=by omega
  have hc:=Lm l[j+1] l[j]
  rw[hb]at hc
  generalize l[j+1]=x at*
  generalize l[j]=y at*
  simp[↓ah,hx,hy,hw,oi,dG,qq,mR,hj0,fH,-getElem?_pos]
  refine aU.ret hc (by simp) (by simp) (by simp) ?_
  simp[hw]
  refine⟨[.keep [0,2,3]],?_⟩
  simp
  exact hK _ (by simp[fH])
 ·by_cases hn:n<l.length-1
  ·obtain⟨j,hj⟩:∃j,l.length-1-n=j+1:=⟨l.length-2-n,by omega⟩
   have hj1:j+1<l.length:=by omega
   have hj0:j<l.length:=by omega
   have hx:l[j+1]? =some l[j+1]:=gJ hj1
   have hy:l[j]? =some l[j]:=gJ hj0
   have hb:=jQ hn
   rw[hj,BX hy hx]at hb
   have e1:(l.length:Int)-1-n=(j:Int)+1:=by omega
   rw[e1]
   have hw:IntKind.i64.wrap (j:Int)=j:=wrap_i64 (by omega)
   have oi:((j:Int)+1).toNat=j+1:=by omega
   have dG:(j:Int)+1<l.length:=by omega
   have qq:(0:Int)<(j:Int)+1:=by omega
   have mR:(0:Int)≤(j:Int)+1:=by omega
   have bS:¬n=l.length-1:=by omega
   have hc:=Lm l[j+1] l[j]
   rw[hb]at hc
   generalize l[j+1]=x at*
   generalize l[j]=y at*
   simp[↓ah,hx,hy,hw,oi,dG,qq,mR,hj0,fH,-getElem?_pos]
   refine aU.ret hc (by simp) (by simp) (by simp) ?_
   simp
   refine al.plain [] ?_
   simp[hr,bS]
  ·have bS:n=l.length-1:=by omega
   have mC:¬((0:Int)<(l.length:Int)-1-n):=by omega
   have Mk:¬((n:Int)<(l.length:Int)-1):=by omega
   simp[↓ah,mC,Mk]
   refine al.plain [] ?_
   simp[hr,bS]
theorem U8 (d:cK) (x:Int):ai Pg I.fR [.int .i64 x,.pt KB [] 0] [.box (bE d)] (λr fp=>r= .bl (!gp x 0 d.now)∧fp=[.box (bE d)]):=by
 refine ai.intro T.fR (by simp[F.fR]) ?_
 simp[F.fR,aj,aF]
 refine Dv ?_
 simp
 refine al.with [] [KB] ?_
 simp[af,(aK d).refs,aE,(aK d).aB]
theorem Ln {l:List Int} (h:l.length≤1048576):Il 1 false (λn:Int=>PV.int .i64 n) l:=⟨h,λx=>⟨⟨rfl,rfl⟩,by simp,by simp,λK=>by simp⟩⟩
def kD (b:Bool):im:=⟨b,List.replicate 16 0,rfl⟩
theorem DJ (b:Bool) (i:Nat):(kD b).j0 i=0:=by
 simp only[im.j0,kD,List.getD,List.getElem?_replicate];split<;>rfl
theorem cb0:∀b:Fin 256,cb 0 (UInt8.ofNat b.val)=0:=by decide+kernel
theorem Lq (a:im):(mu a 0).ip=(kD a.jJ).ip:=by
 refine im.Fj (mu a 0).h (kD a.jJ).h λj hj=> ?_
 show(mu a 0).j0 j=(kD a.jJ).j0 j
 have:=xe (qn a 0) a.ip 16 (j:=j) (by rw[a.h];exact hj)
 rw[if_pos hj]at this
 rw[DJ]
 have h2:(mu a 0).j0 j=qn a 0 j:=by simp only[im.j0,mu,List.getD,this];rfl
 rw[h2]
 unfold qn
 have hl:lf 0 j=0:=by unfold lf;omega
 rw[hl,if_neg (by omega)]
 have:=cb0 ⟨(a.j0 j).toNat,(a.j0 j).toNat_lt⟩
 simpa using this
theorem Lr (b:Bool):mY ⟨kD b,0⟩=true:=by
 have h1:jg (kD b)=true:=by
  unfold jg
  have:fst (λi=>(kD b).j0 (4+i) !=0) 12=12:=by rw[j5];intro i _;simp[DJ]
  rw[this];simp
 have h2:=Lq (kD b)
 have h3:(kD b).ip=(mu (kD b) 0).ip:=by rw[h2];rfl
 unfold mY
 simp only[h1,Int.toNat_zero,←h3]
 cases b<;>simp[kD]
theorem vv (a:im):bg Pg I.fu [iE ⟨kD a.jJ,0⟩,dN a] (.bl (jg a)):=by
 refine ai.intro T.fu (by simp[F.fu]) ?_
 have hv:=sM ⟨kD a.jJ,0⟩
 rw[Lr]at hv
 have hc:bg Pg I.jC [dN a,.int .i64 0] (dN (mu a 0)):=UY a (n:=0) (by omega)
 have f1:=oa (mu a 0)
 have f2:=oa (kD a.jJ)
 have hb:PV.beq (dN (mu a 0)) (dN (kD a.jJ))=true:=by
  rw[Fi];simp[Lq,show(mu a 0).jJ=a.jJ from rfl,show(kD a.jJ).jJ=a.jJ from rfl]
 have h6:(kD a.jJ).jJ=a.jJ:=rfl
 simp[F.fu,aj,aF]
 refine aU.ret hv (by simp) (by simp) (by simp) ?_
 simp
 refine aU.ret (Fk a) (by simp) (by simp) (by simp) ?_
 cases g1:jg a
 ·simp
  refine al.plain [] ?_
  simp
 simp[h6]
 refine aU.ret hc (by simp) (by simp) (by simp) ?_
 simp[f1,f2,hb]
 refine al.plain [] ?_
 simp
def Fp (d:cK) (b:tR):Bool:=jg b.addr&&gp b.tokens 0 5000&&gp b.at_ 0 d.now
def oz (d:cK) (l:List tR) (i:Nat):Bool:=match l[i]?with
 |none=>false
 |
  some b=> !Fp d b||(match i with
  |0=>false
  |
   j+1=>match l[j]?with
   |none=>false
   |some q=> !nM q.addr b.addr)
theorem BY {d:cK} {l:List tR} {b:tR} (h:l[0]? =some b):oz d l 0= !Fp d b:=by simp only[oz,h,Bool.or_false]
theorem BZ {d:cK} {l:List tR} {j:Nat} {q b:tR} (hq:l[j]? =some q) (hr:l[j+1]? =some b):oz d l (j+1)=(!Fp d b|| !nM q.addr b.addr):=by simp only[oz,hr,hq]
def ab2 (d:cK):Bool:=decide (fst (oz d d.buckets) d.buckets.length=d.buckets.length)
theorem GP {d:cK} {b:tR} (h:Fp d b=true):jg b.addr=true∧gp b.tokens 0 5000=true∧gp b.at_ 0 d.now=true:=by
 unfold Fp at h;simp only[aJ]at h;exact⟨h.1.1,h.1.2,h.2⟩
def r9 (d:cK):Bool:=gp d.kT 0 d.now&&decide ((d.aR.length:Int)≤64)&&decide ((d.buckets.length:Int)≤16)&&DI d.aR&&d.aR.all (λt=>gp t 0 d.now)&&ab2 d
theorem ab3 {d:cK} (FI:d.aR.length≤1048576) (s8:d.buckets.length≤1048576):bg Pg I.jr [bE d] (.bl (r9 d)):=by
 refine ai.intro T.jr (by simp[F.jr]) ?_
 have hle:=gu (oz d d.buckets) d.buckets.length
 have jP:∀i,i<fst (oz d d.buckets) d.buckets.length->oz d d.buckets i=false:=λi h=>gD h
 have jQ:fst (oz d d.buckets) d.buckets.length<d.buckets.length->oz d d.buckets (fst (oz d d.buckets) d.buckets.length)=true:=gN
 have IF:r9 d=(gp d.kT 0 d.now&&decide ((d.aR.length:Int)≤64)&&decide ((d.buckets.length:Int)≤16)&&DI d.aR&&d.aR.all (λt=>gp t 0 d.now)&&decide (fst (oz d d.buckets) d.buckets.length=d.buckets.length)):=rfl
 generalize fst (oz d d.buckets) d.buckets.length=n at*
 have hc:=OZ (f:=I.cm) (ix:=I.dq) (p:=λt=> !gp t 0 d.now) T.cm T.dq (Ln FI) (g:=I.fR) (v:=bE d) (by simp) (λx _=>U8 d x)
 have e:d.aR.any (λt=> !gp t 0 d.now)= !(d.aR.all λt=>gp t 0 d.now):=by rw[List.all_eq_not_any_not];simp
 rw[e]at hc
 simp[F.jr,aj,aF]
 refine Dv ?_
 cases a1:gp d.kT 0 d.now
 ·simp
  refine al.plain [] ?_
  simp[IF,a1]
 by_cases a2:(64:Int)<d.aR.length
 ·simp[a2,show 64<d.aR.length by omega]
  refine al.plain [] ?_
  simp[IF,show¬(d.aR.length:Int)≤64 by omega]
  try omega
 by_cases a3:(16:Int)<d.buckets.length
 ·simp[a2,a3,show¬64<d.aR.length by omega,show 16<d.buckets.length by omega]
  refine al.plain [] ?_
  simp[IF,show¬(d.buckets.length:Int)≤16 by omega]
  try omega
 simp[a2,a3,show¬64<d.aR.length by omega,show¬16<d.buckets.length by omega]
 refine an.ret (Iv FI) (by simp) (by simp) (by simp) ?_
 cases a4:DI d.aR
 ·simp
  refine al.plain [] ?_
  simp[IF,a4]
 simp
 refine an.gen [1] [] [.box (bE d)] hc (by simp[getAll]) (by simp) (by simp) (by simp[ab,ae,bM,idx,fH,(dQ (λn:Int=>(by simp:Pure (PV.int .i64 n))) d.aR).refs]) (by simp[af,(aK d).refs]) (by simp[aD,aB,bp,idx,fH,(dQ (λn:Int=>(by simp:Pure (PV.int .i64 n))) d.aR).aB]) (by simp[aE,(aK d).aB]) (by simp[af,ae,(aK d).refs]) ?_
 cases a5:d.aR.all (λt=>gp t 0 d.now)
 ·simp[bb,aE,aB,dv,(aK d).aB]
  refine al.plain [] ?_
  simp[IF,a5]
 simp[bb,aE,aB,dv,(aK d).aB]
 have hr:r9 d=decide (n=d.buckets.length):=by
  simp[IF,a1,a4,a5,show(d.aR.length:Int)≤64 by omega,show(d.buckets.length:Int)≤16 by omega,show d.aR.length≤64 by omega,show d.buckets.length≤16 by omega]
 refine fb.fG n (λ_=>True) [1,2,35,36,37] (λi=>[(37,.int .i64 i)]) (λi=>[]) [.keep [1,2,35,36,37]] ?_
 simp
 refine⟨λi hi K hK=> ?_,λK=> ?_⟩
 ·have eS:i<d.buckets.length:=by omega
  have hx:d.buckets[i]? =some d.buckets[i]:=gJ eS
  have w2:IntKind.i64.wrap ((i:Int)+1)=(i:Int)+1:=wrap_i64 (by omega)
  have hb:=jP i hi
  by_cases hz:i=0
  ·subst hz
   rw[BY hx]at hb
   have hb:Fp d d.buckets[0]=true:=by simpa using hb
   obtain⟨g1,g2,g3⟩:=GP hb
   generalize d.buckets[0]=b at*
   have PO:PV.st 18 [PV.st 17 [PV.bl b.addr.jJ,PV.ar 1 16 (zr 16 (PV.int IntKind.u8 0))],PV.int IntKind.i64 0]=iE ⟨kD b.addr.jJ,0⟩:=by rw[fC];rfl
   simp[↓ah,hx,eS,av,-getElem?_pos]
   rw[PO]
   refine aU.ret (vv b.addr) (by simp) (by simp) (by simp) ?_
   simp[g1]
   refine aU.ret (pw b.tokens 0 5000) (by simp) (by simp) (by simp) ?_
   simp[g2]
   refine aU.ret (pw b.at_ 0 d.now) (by simp) (by simp) (by simp) ?_
   simp[g3]
   refine⟨[.keep [1,2,35,36,37],.dr 4,.dr 5],?_⟩
   simp
   exact hK _ (by simp)
  ·obtain⟨j,rfl⟩:∃j,i=j+1:=⟨i-1,by omega⟩
   have hj:j<d.buckets.length:=by omega
   have hy:d.buckets[j]? =some d.buckets[j]:=gJ hj
   rw[BZ hy hx]at hb
   have oA:Fp d d.buckets[j+1]=true:=by cases h:Fp d d.buckets[j+1]<;>simp[h]at hb⊢
   have pg:nM d.buckets[j].addr d.buckets[j+1].addr=true:=by cases h:nM d.buckets[j].addr d.buckets[j+1].addr<;>simp[h]at hb⊢
   obtain⟨g1,g2,g3⟩:=GP oA
   have kq:=Li d.buckets[j].addr d.buckets[j+1].addr
   rw[pg]at kq
   have hw:IntKind.i64.wrap (((j+1:Nat):Int)-1)=j:=by rw[wrap_i64 (by omega)];omega
   have dG:((j+1:Nat):Int)<d.buckets.length:=by omega
   have qq:(0:Int)<((j+1:Nat):Int):=by omega
   have mR:(0:Int)≤((j+1:Nat):Int):=by omega
   have oi:(((j+1:Nat):Int)).toNat=j+1:=by omega
   generalize d.buckets[j]=q at*
   generalize d.buckets[j+1]=b at*
   generalize Hh:((j+1:Nat):Int)=z at*
   have PO:PV.st 18 [PV.st 17 [PV.bl b.addr.jJ,PV.ar 1 16 (zr 16 (PV.int IntKind.u8 0))],PV.int IntKind.i64 0]=iE ⟨kD b.addr.jJ,0⟩:=by rw[fC];rfl
   simp[↓ah,hx,dG,qq,mR,oi,av,-getElem?_pos]
   rw[PO]
   refine aU.ret (vv b.addr) (by simp) (by simp) (by simp) ?_
   simp[g1]
   refine aU.ret (pw b.tokens 0 5000) (by simp) (by simp) (by simp) ?_
   simp[g2]
   refine aU.ret (pw b.at_ 0 d.now) (by simp) (by simp) (by simp) ?_
   simp[g3,hx,hy,dG,hj,hw,qq,mR,oi,-getElem?_pos]
   refine aU.ret kq (by simp) (by simp) (by simp) ?_
   simp[w2]
   refine⟨[.keep [1,2,35,36,37],.dr 4,.dr 5],?_⟩
   simp
   exact hK _ (by simp[←Hh])
 ·by_cases hn:n<d.buckets.length
  ·have hx:d.buckets[n]? =some d.buckets[n]:=gJ hn
   have hb:=jQ hn
   have bS:¬n=d.buckets.length:=by omega
   have dG:(n:Int)<d.buckets.length:=by omega
   generalize hbe:d.buckets[n]=b at*
   have PO:PV.st 18 [PV.st 17 [PV.bl b.addr.jJ,PV.ar 1 16 (zr 16 (PV.int IntKind.u8 0))],PV.int IntKind.i64 0]=iE ⟨kD b.addr.jJ,0⟩:=by rw[fC];rfl
   simp[↓ah,hx,hn,av,-getElem?_pos]
   rw[PO]
   refine aU.ret (vv b.addr) (by simp) (by simp) (by simp) ?_
   cases g1:jg b.addr
   ·simp
    refine al.plain [] ?_
    simp[hr,bS]
   simp
   refine aU.ret (pw b.tokens 0 5000) (by simp) (by simp) (by simp) ?_
   cases g2:gp b.tokens 0 5000
   ·simp
    refine al.plain [] ?_
    simp[hr,bS]
   simp
   refine aU.ret (pw b.at_ 0 d.now) (by simp) (by simp) (by simp) ?_
   cases g3:gp b.at_ 0 d.now
   ·simp
    refine al.plain [] ?_
    simp[hr,bS]
   have IC:Fp d b=true:=by simp[Fp,g1,g2,g3]
   obtain⟨j,rfl⟩:∃j,n=j+1:=by
    cases n with
    |zero=>rw[BY hx,IC]at hb;simp at hb
    |succ j=>exact⟨j,rfl⟩
   have hj:j<d.buckets.length:=by omega
   have hy:d.buckets[j]? =some d.buckets[j]:=gJ hj
   rw[BZ hy hx,IC]at hb
   have pg:nM d.buckets[j].addr b.addr=false:=by simpa using hb
   have kq:=Li d.buckets[j].addr b.addr
   rw[pg]at kq
   have hw:IntKind.i64.wrap (((j+1:Nat):Int)-1)=j:=by rw[wrap_i64 (by omega)];omega
   have qq:(0:Int)<((j+1:Nat):Int):=by omega
   generalize d.buckets[j]=q at*
   generalize ((j+1:Nat):Int)=z at*
   simp[hy,hj,hw,qq,-getElem?_pos]
   refine aU.ret kq (by simp) (by simp) (by simp) ?_
   simp
   refine al.plain [] ?_
   simp[hr,bS]
  ·have bS:n=d.buckets.length:=by omega
   have mC:¬((n:Int)<d.buckets.length):=by omega
   simp[↓ah,mC,hn]
   refine al.plain [] ?_
   simp[hr,bS]
end Go.Ab
end W18s
noncomputable section W19s
namespace Go.Ab
open Go.Ab
def sS (d:cK) (l:List Int) (i:Nat):Bool:=match l[i]?with
 |none=>false
 |
  some t=> !gp t 0 d.now||(match i with
  |0=>false
  |
   j+1=>match l[j]?with
   |none=>false
   |some q=>decide (t<q))
theorem B0 {d:cK} {l:List Int} {t:Int} (h:l[0]? =some t):sS d l 0= !gp t 0 d.now:=by simp only[sS,h,Bool.or_false]
theorem yM {d:cK} {l:List Int} {j:Nat} {q t:Int} (hq:l[j]? =some q) (hr:l[j+1]? =some t):sS d l (j+1)=(!gp t 0 d.now||decide (t<q)):=by simp only[sS,hr,hq]
theorem Ls (d:cK) (l:List Int):decide (fst (sS d l) l.length=l.length)=(DI l&&l.all (λt=>gp t 0 d.now)):=by
 unfold DI
 have h1:(fst (sS d l) l.length=l.length)↔(fst (ui l) l.length=l.length∧l.all (λt=>gp t 0 d.now)=true):=by
  rw[j5,j5,List.all_eq_true]
  constructor
  ·intro h
   constructor
   ·intro i hi
    cases i with
    |zero=>rfl
    |
     succ j=>
     have hx:l[j+1]? =some l[j+1]:=gJ hi
     have hy:l[j]? =some l[j]:=gJ (by omega)
     have:=h _ hi
     rw[yM hy hx]at this
     rw[BX hy hx]
     cases g:decide (l[j+1]<l[j])
     ·rfl
     ·rw[g]at this;simp at this
   ·intro x hx
    obtain⟨i,hi,rfl⟩:=List.mem_iff_getElem.1 hx
    have hx:l[i]? =some l[i]:=gJ hi
    have:=h _ hi
    cases i with
    |zero=>rw[B0 hx]at this;simpa using this
    |
     succ j=>
     have hy:l[j]? =some l[j]:=gJ (by omega)
     rw[yM hy hx]at this
     cases g:gp l[j+1] 0 d.now
     ·rw[g]at this;simp at this
     ·rfl
  ·rintro⟨h1,h2⟩ i hi
   have hx:l[i]? =some l[i]:=gJ hi
   have g:=h2 _ (List.getElem_mem hi)
   cases i with
   |zero=>rw[B0 hx,g];rfl
   |
    succ j=>
    have hy:l[j]? =some l[j]:=gJ (by omega)
    have:=h1 _ hi
    rw[BX hy hx]at this
    rw[yM hy hx,g,this];rfl
 by_cases h2:fst (sS d l) l.length=l.length
 ·have:=h1.1 h2;simp[h2,this.1,this.2]
 ·have h3:¬(fst (ui l) l.length=l.length∧l.all (λt=>gp t 0 d.now)=true):=λg=>h2 (h1.2 g)
  rw[decide_eq_false h2]
  symm
  rw[Bool.and_eq_false_iff]
  by_cases h4:fst (ui l) l.length=l.length
  ·right
   cases h5:l.all (λt=>gp t 0 d.now)
   ·rfl
   ·exact absurd ⟨h4,h5⟩ h3
  ·left;exact decide_eq_false h4
theorem ab4 {d:cK} (FI:d.aR.length≤1048576) (s8:d.buckets.length≤1048576):bg Pg I.dA [bE d] (.bl (r9 d)):=by
 refine ai.intro T.dA (by simp[F.dA]) ?_
 have hle:=gu (oz d d.buckets) d.buckets.length
 have jP:∀i,i<fst (oz d d.buckets) d.buckets.length->oz d d.buckets i=false:=λi h=>gD h
 have jQ:fst (oz d d.buckets) d.buckets.length<d.buckets.length->oz d d.buckets (fst (oz d d.buckets) d.buckets.length)=true:=gN
 have mle:=gu (sS d d.aR) d.aR.length
 have mno:∀i,i<fst (sS d d.aR) d.aR.length->sS d d.aR i=false:=λi h=>gD h
 have mat:fst (sS d d.aR) d.aR.length<d.aR.length->sS d d.aR (fst (sS d d.aR) d.aR.length)=true:=gN
 have IF:r9 d=(gp d.kT 0 d.now&&decide ((d.aR.length:Int)≤64)&&decide ((d.buckets.length:Int)≤16)&&decide (fst (sS d d.aR) d.aR.length=d.aR.length)&&decide (fst (oz d d.buckets) d.buckets.length=d.buckets.length)):=by
  rw[Ls];unfold r9 ab2;simp only[Bool.and_assoc]
 generalize fst (oz d d.buckets) d.buckets.length=n at*
 generalize fst (sS d d.aR) d.aR.length=m at*
 simp[F.dA,aj,aF]
 refine MP ?_
 cases a1:gp d.kT 0 d.now
 ·simp
  refine al.plain [] ?_
  simp[IF,a1]
 by_cases a2:(64:Int)<d.aR.length
 ·simp[a2,show 64<d.aR.length by omega]
  refine al.plain [] ?_
  simp[IF,show¬(d.aR.length:Int)≤64 by omega]
  try omega
 by_cases a3:(16:Int)<d.buckets.length
 ·simp[a2,a3,show¬64<d.aR.length by omega,show 16<d.buckets.length by omega]
  refine al.plain [] ?_
  simp[IF,show¬(d.buckets.length:Int)≤16 by omega]
  try omega
 simp[a2,a3,show¬64<d.aR.length by omega,show¬16<d.buckets.length by omega]
 refine fb.fG m (λ_=>True) [1,2,25,26,27] (λi=>[(27,.int .i64 i)]) (λi=>[]) [.keep [1,2,25,26,27]] ?_
 simp
 refine⟨λi hi K hK=> ?_,λK=> ?_⟩
 ·have eS:i<d.aR.length:=by omega
  have hx:d.aR[i]? =some d.aR[i]:=gJ eS
  have w2:IntKind.i64.wrap ((i:Int)+1)=(i:Int)+1:=wrap_i64 (by omega)
  have hb:=mno i hi
  by_cases hz:i=0
  ·subst hz
   rw[B0 hx]at hb
   have g1:gp d.aR[0] 0 d.now=true:=by simpa using hb
   generalize d.aR[0]=t at*
   simp[↓ah,hx,eS,-getElem?_pos]
   refine MP ?_
   simp[g1]
   refine⟨[.keep [1,2,25,26,27]],?_⟩
   simp
   exact hK _ (by simp)
  ·obtain⟨j,rfl⟩:∃j,i=j+1:=⟨i-1,by omega⟩
   have hj:j<d.aR.length:=by omega
   have hy:d.aR[j]? =some d.aR[j]:=gJ hj
   rw[yM hy hx]at hb
   have g1:gp d.aR[j+1] 0 d.now=true:=by cases h:gp d.aR[j+1] 0 d.now<;>simp[h]at hb⊢
   have g2:¬d.aR[j+1]<d.aR[j]:=by intro h;simp[h]at hb
   have hw:IntKind.i64.wrap (((j+1:Nat):Int)-1)=j:=by rw[wrap_i64 (by omega)];omega
   have dG:((j+1:Nat):Int)<d.aR.length:=by omega
   have qq:(0:Int)<((j+1:Nat):Int):=by omega
   have mR:(0:Int)≤((j+1:Nat):Int):=by omega
   have oi:(((j+1:Nat):Int)).toNat=j+1:=by omega
   generalize d.aR[j]=q at*
   generalize d.aR[j+1]=t at*
   generalize Hh:((j+1:Nat):Int)=z at*
   simp[↓ah,hx,dG,qq,mR,oi,-getElem?_pos]
   refine MP ?_
   simp[g1,g2,hx,hy,dG,hj,hw,qq,mR,oi,w2,-getElem?_pos]
   refine⟨[.keep [1,2,25,26,27]],?_⟩
   simp
   exact hK _ (by simp[←Hh])
 by_cases hn:m<d.aR.length
 ·have hx:d.aR[m]? =some d.aR[m]:=gJ hn
  have hb:=mat hn
  have bS:¬m=d.aR.length:=by omega
  generalize hbe:d.aR[m]=t at*
  simp[↓ah,hx,hn,-getElem?_pos]
  refine MP ?_
  cases g1:gp t 0 d.now
  ·simp
   refine al.plain [] ?_
   simp[IF,bS]
  obtain⟨j,rfl⟩:∃j,m=j+1:=by
   cases m with
   |zero=>rw[B0 hx,g1]at hb;simp at hb
   |succ j=>exact⟨j,rfl⟩
  have hj:j<d.aR.length:=by omega
  have hy:d.aR[j]? =some d.aR[j]:=gJ hj
  rw[yM hy hx,g1]at hb
  have g2:t<d.aR[j]:=by simpa using hb
  have hw:IntKind.i64.wrap (((j+1:Nat):Int)-1)=j:=by rw[wrap_i64 (by omega)];omega
  have qq:(0:Int)<((j+1:Nat):Int):=by omega
  generalize d.aR[j]=q at*
  generalize ((j+1:Nat):Int)=z at*
  simp[hy,hj,hw,qq,g2,-getElem?_pos]
  refine al.plain [] ?_
  simp[IF,bS]
 have hme:m=d.aR.length:=by omega
 have mC:¬((m:Int)<d.aR.length):=by omega
 simp[↓ah,mC,hn]
 have hr:r9 d=decide (n=d.buckets.length):=by
  simp[IF,a1,hme,show(d.aR.length:Int)≤64 by omega,show(d.buckets.length:Int)≤16 by omega,show d.aR.length≤64 by omega,show d.buckets.length≤16 by omega]
 refine fb.fG n (λ_=>True) [1,2,52,53,54] (λi=>[(54,.int .i64 i)]) (λi=>[]) [.keep [1,2,52,53,54]] ?_
 simp
 refine⟨λi hi K hK=> ?_,λK=> ?_⟩
 ·have eS:i<d.buckets.length:=by omega
  have hx:d.buckets[i]? =some d.buckets[i]:=gJ eS
  have w2:IntKind.i64.wrap ((i:Int)+1)=(i:Int)+1:=wrap_i64 (by omega)
  have hb:=jP i hi
  by_cases hz:i=0
  ·subst hz
   rw[BY hx]at hb
   have hb:Fp d d.buckets[0]=true:=by simpa using hb
   obtain⟨g1,g2,g3⟩:=GP hb
   generalize d.buckets[0]=b at*
   simp[↓ah,hx,eS,av,-getElem?_pos]
   refine aU.ret (yI b.addr) (by simp) (by simp) (by simp) ?_
   simp[g1]
   refine aU.ret (rw_ b.tokens 0 5000) (by simp) (by simp) (by simp) ?_
   simp[g2]
   refine aU.ret (GC d b.at_) (by simp) (by simp) (by simp) ?_
   simp[g3]
   refine⟨[.keep [1,2,52,53,54],.dr 6],?_⟩
   simp
   exact hK _ (by simp)
  ·obtain⟨j,rfl⟩:∃j,i=j+1:=⟨i-1,by omega⟩
   have hj:j<d.buckets.length:=by omega
   have hy:d.buckets[j]? =some d.buckets[j]:=gJ hj
   rw[BZ hy hx]at hb
   have oA:Fp d d.buckets[j+1]=true:=by cases h:Fp d d.buckets[j+1]<;>simp[h]at hb⊢
   have pg:nM d.buckets[j].addr d.buckets[j+1].addr=true:=by cases h:nM d.buckets[j].addr d.buckets[j+1].addr<;>simp[h]at hb⊢
   obtain⟨g1,g2,g3⟩:=GP oA
   have kq:=Lj d.buckets[j].addr d.buckets[j+1].addr
   rw[pg]at kq
   have hw:IntKind.i64.wrap (((j+1:Nat):Int)-1)=j:=by rw[wrap_i64 (by omega)];omega
   have dG:((j+1:Nat):Int)<d.buckets.length:=by omega
   have qq:(0:Int)<((j+1:Nat):Int):=by omega
   have mR:(0:Int)≤((j+1:Nat):Int):=by omega
   have oi:(((j+1:Nat):Int)).toNat=j+1:=by omega
   generalize d.buckets[j]=q at*
   generalize d.buckets[j+1]=b at*
   generalize Hh:((j+1:Nat):Int)=z at*
   simp[↓ah,hx,dG,qq,mR,oi,av,-getElem?_pos]
   refine aU.ret (yI b.addr) (by simp) (by simp) (by simp) ?_
   simp[g1]
   refine aU.ret (rw_ b.tokens 0 5000) (by simp) (by simp) (by simp) ?_
   simp[g2]
   refine aU.ret (GC d b.at_) (by simp) (by simp) (by simp) ?_
   simp[g3,hx,hy,dG,hj,hw,qq,mR,oi,-getElem?_pos]
   refine aU.ret kq (by simp) (by simp) (by simp) ?_
   simp[w2]
   refine⟨[.keep [1,2,52,53,54],.dr 6],?_⟩
   simp
   exact hK _ (by simp[←Hh])
 ·by_cases hn:n<d.buckets.length
  ·have hx:d.buckets[n]? =some d.buckets[n]:=gJ hn
   have hb:=jQ hn
   have bS:¬n=d.buckets.length:=by omega
   have dG:(n:Int)<d.buckets.length:=by omega
   generalize hbe:d.buckets[n]=b at*
   simp[↓ah,hx,hn,av,-getElem?_pos]
   refine aU.ret (yI b.addr) (by simp) (by simp) (by simp) ?_
   cases g1:jg b.addr
   ·simp
    refine al.plain [] ?_
    simp[hr,bS]
   simp
   refine aU.ret (rw_ b.tokens 0 5000) (by simp) (by simp) (by simp) ?_
   cases g2:gp b.tokens 0 5000
   ·simp
    refine al.plain [] ?_
    simp[hr,bS]
   simp
   refine aU.ret (GC d b.at_) (by simp) (by simp) (by simp) ?_
   cases g3:gp b.at_ 0 d.now
   ·simp
    refine al.plain [] ?_
    simp[hr,bS]
   have IC:Fp d b=true:=by simp[Fp,g1,g2,g3]
   obtain⟨j,rfl⟩:∃j,n=j+1:=by
    cases n with
    |zero=>rw[BY hx,IC]at hb;simp at hb
    |succ j=>exact⟨j,rfl⟩
   have hj:j<d.buckets.length:=by omega
   have hy:d.buckets[j]? =some d.buckets[j]:=gJ hj
   rw[BZ hy hx,IC]at hb
   have pg:nM d.buckets[j].addr b.addr=false:=by simpa using hb
   have kq:=Lj d.buckets[j].addr b.addr
   rw[pg]at kq
   have hw:IntKind.i64.wrap (((j+1:Nat):Int)-1)=j:=by rw[wrap_i64 (by omega)];omega
   have qq:(0:Int)<((j+1:Nat):Int):=by omega
   generalize d.buckets[j]=q at*
   generalize ((j+1:Nat):Int)=z at*
   simp[hy,hj,hw,qq,-getElem?_pos]
   refine aU.ret kq (by simp) (by simp) (by simp) ?_
   simp
   refine al.plain [] ?_
   simp[hr,bS]
  ·have bS:n=d.buckets.length:=by omega
   have mC:¬((n:Int)<d.buckets.length):=by omega
   simp[↓ah,mC,hn]
   refine al.plain [] ?_
   simp[hr,bS]
end Go.Ab
end W19s
