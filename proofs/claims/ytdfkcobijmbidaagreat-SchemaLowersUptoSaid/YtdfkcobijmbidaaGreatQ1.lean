/- A machine with its outputs; drawing, wishing, forgetting. No condition. -/
import Derived.Test.YtdfkcobijmbidaaGreatU1
import Derived.Test.YtdfkcobijmbidaaGreatB7
import Derived.Test.YtdfkcobijmbidaaGreatSF1
import Derived.Test.YtdfkcobijmbidaaGreatSF2
import Derived.Test.YtdfkcobijmbidaaGreatSF3
import Derived.Test.YtdfkcobijmbidaaGreatSF4
import Derived.Test.YtdfkcobijmbidaaGreatSF5
import Derived.Test.YtdfkcobijmbidaaGreatC5
set_option maxRecDepth 10000
set_option maxHeartbeats 1000000
set_option linter.all false
noncomputable section Q5s
namespace Go.Ab
open Go.Ab
def wD (n:Nat):Nat:=(16-n%16)%16
theorem fo {l:List Int} (hl:l.length≤100000) (LQ:0<l.length):sk Pg I.fo [bS l] 1 (jb (l++List.replicate (wD l.length) 0)):=by
 refine af.intro T.fo (by simp[F.fo]) ?_
 have hp:=ik l
 simp[F.fo,an,aG,bS]
 refine⟨⟨by omega,by omega⟩,?_⟩
 refine jh.jY (wD l.length) (λ_=>True) [3,6] (λi=>[(3,.rs 6 [] 0 (l.length+i) (l.length+i) 1 .tip)]) (λi=>[(6,.arr 1 (jb (l++List.replicate i 0)))]) [.keep [3]] ?_
 simp
 refine⟨λi hi K hK=> ?_,λK=> ?_⟩
 ·have h1:((l.length:Int)+(i:Int)).tmod 16≠0:=by
   rw[Int.tmod_eq_emod_of_nonneg (by omega)]
   unfold wD at hi
   omega
  simp[↓av,h1]
  have aDg:wD l.length<16:=by unfold wD;omega
  refine⟨⟨by omega,by omega⟩,[.keep [3]],?_⟩
  simp
  refine hK _ ?_
  have e:jb (l++List.replicate i 0)++[PV.int .u8 0]=jb (l++List.replicate (i+1) 0):=by
   simp[jb,List.replicate_succ']
  simp[e,Nat.add_assoc]
 ·have h1:((l.length:Int)+(wD l.length:Int)).tmod 16=0:=by
   rw[Int.tmod_eq_emod_of_nonneg (by omega)]
   unfold wD
   omega
  simp[↓av,h1]
  have hq:=ik (l++List.replicate (wD l.length) 0)
  refine aM.with [.keep [2]] [6] ?_
  simp
end Go.Ab
end Q5s
noncomputable section Q1s
namespace Go.Ab
open Go.Ab
def zG (d:bK) (k1 n k2 m:Nat):PV:= .st 149 [br d (.rs k1 [] 0 n n 464 .tip),.rs k2 [] 0 m m 86 .tip]
@[simp↓] theorem adg (d:bK) (k1 n k2 m:Nat) (r:List Step):aQ (zG d k1 n k2 m) (.f 0 0::r)=aQ (br d (.rs k1 [] 0 n n 464 .tip)) r:=by simp[zG]
@[simp↓] theorem adh (d:bK) (k1 n k2 m:Nat) (r:List Step):aQ (zG d k1 n k2 m) (.f 1 148::r)=aQ (.rs k2 [] 0 m m 86 .tip) r:=by simp[zG,az]
def Io (c:PV) (k2 m:Nat):PV:= .st 149 [c,.rs k2 [] 0 m m 86 .tip]
def Ip (d:bK) (k1 n:Nat) (c:PV):PV:= .st 149 [br d (.rs k1 [] 0 n n 464 .tip),c]
@[simp↓] theorem adi (d:bK) (k1 n k2 m:Nat) (r:List Step) (x:PV):di (zG d k1 n k2 m) (.f 0 0::r) x=(di (br d (.rs k1 [] 0 n n 464 .tip)) r x).bind λc=>some (Io c k2 m):=by simp[zG,Io]
@[simp↓] theorem adj (d:bK) (k1 n k2 m:Nat) (r:List Step) (x:PV):di (zG d k1 n k2 m) (.f 1 148::r) x=(di (.rs k2 [] 0 m m 86 .tip) r x).bind λc=>some (Ip d k1 n c):=by simp[zG,Ip,az]
@[simp↓] theorem aiK (d:bK) (k1 n k2 m:Nat):Io (br d (.rs k1 [] 0 n n 464 .tip)) k2 m=zG d k1 n k2 m:=_root_.id rfl
@[simp↓] theorem aiL (d:bK) (k1 n k2 m:Nat):Ip d k1 n (.rs k2 [] 0 m m 86 .tip)=zG d k1 n k2 m:=_root_.id rfl
@[simp] theorem aiM (f:Nat->Bool) (d:bK) (k1 n k2 m:Nat):ab f (zG d k1 n k2 m)=(f k1&&f k2):=by simp[zG,ab,ae]
@[simp] theorem apz (ρ:Nat->Nat) (d:bK) (k1 n k2 m:Nat):aI ρ (zG d k1 n k2 m)=zG d (ρ k1) n (ρ k2) m:=by simp[zG,aI,aO]
def MB (d:bK) (ps:List dC) (L:List PV):List bh:=[.box (zG d (KB+1) ps.length (KB+2) L.length),.arr 464 (ps.map aC),.arr 86 L]
theorem al.mo {P:Program} {s:St} {dst:Option Nat} {f:FuncId} {args gy:List PV} {d:bK} {ps:List dC} {L:List PV} {R:PV->List bh->Prop} {K:St->Prop} {t:Tg K} (k0 k1 k2:Nat)
  (hA:af P f gy (MB d ps L) R) (h0:get s.bx k0=some (.box (zG d k1 ps.length k2 L.length))) (h1:get s.bx k1=some (.arr 464 (ps.map aC))) (h2:get s.bx k2=some (.arr 86 L))
  (hn:[k0,k1,k2].Nodup) (hL:aB L) (BT:ae (bj [k0,k1,k2]) args=true) (ha:jO (aO (aV [k0,k1,k2]) args)=gy)
  (h:∀r fp,R r fp->∃d' tO L',fp=MB d' tO L'∧Pure r∧aB L'∧K ({s with bx:=put (put (put s.bx k0 (.box (zG d' k1 tO.length k2 L'.length))) k1 (.arr 464 (tO.map aC))) k2 (.arr 86 L')}.put dst r)):al P s dst f args K t:=by
 subst ha
 have h01:k0≠k1:=by intro e;subst e;simp at hn
 have h02:k0≠k2:=by intro e;subst e;simp at hn
 have QE:k1≠k2:=by intro e;subst e;simp at hn
 have i1:idx [k0,k1,k2] k1=some 1:=by simp[idx,h01]
 have i2:idx [k0,k1,k2] k2=some 2:=by simp[idx,h02,QE]
 have G1:([.box (zG d k1 ps.length k2 L.length),.arr 464 (ps.map aC),.arr 86 L]:List bh).map (aZ (aV [k0,k1,k2]))=MB d ps L:=by
  simp[aZ,aV,i1,i2,hL.aI,MB]
 refine⟨[k0,k1,k2],[],[.box (zG d k1 ps.length k2 L.length),.arr 464 (ps.map aC),.arr 86 L],R,by simp[getAll,h0,h1,h2],by simpa using hn,by simp,BT,?_,af.Uy (by rw[G1];exact hA),?_⟩
 ·simp[ah,bj,i1,i2,hL.refs]
 ·intro r fp hR
  obtain⟨d',tO,L',rfl,hr,mK,hK⟩:=h r fp hR
  refine⟨⟨rfl,hr.refs _,by simp[MB,ah,fY,mK.refs]⟩,?_⟩
  simpa[bI,MB,aZ,eP,hr.aI,mK.aI,(bR eG tO).aI]using hK
theorem OK {d:bK} (ht:d.timers.length≤1048575) {ps:List dC} {i:Nat} (hi:i<ps.length) (k:Int) (n:Int) {L:List PV} (hL:aB L):
  af Pg I.ba [.pt KB [] 0,.int .i64 i,.int .i64 k,.int .i64 n] (MB d ps L)
   (λr fp=>r= .tup []∧fp=MB (yW d (kX d.timers ⟨IntKind.i64.wrap (d.now+n),ps[i].gC,k⟩)) ps L):=by
 refine af.intro T.ba (by simp[F.ba]) ?_
 have hx:ps[i]? =some ps[i]:=gJ hi
 have e:PV.st 34 [.int .i64 (IntKind.i64.wrap (d.now+n)),eF ps[i].gC,.int .i64 k]=bU ⟨IntKind.i64.wrap (d.now+n),ps[i].gC,k⟩:=rfl
 simp[F.ba,an,aG,MB,hi,e]
 refine a0.ret (cu (l:=d.timers) ht ⟨IntKind.i64.wrap (d.now+n),ps[i].gC,k⟩) (by simp) (by simp) (by simp) ?_
 simp
 refine aM.with [] [KB,KB+1,KB+2] ?_
 simp[fx,yW,hL.refs,hL.aI]
theorem xN {d:bK} (ht:d.timers.length≤1048576) {ps:List dC} {i:Nat} (hi:i<ps.length) (k:Int) {L:List PV} (hL:aB L):
  af Pg I.bQ [.pt KB [] 0,.int .i64 i,.int .i64 k] (MB d ps L)
   (λr fp=>r= .tup []∧fp=MB (yW d (dI d.timers ps[i].gC k)) ps L):=by
 refine af.intro T.bQ (by simp[F.bQ]) ?_
 have hx:ps[i]? =some ps[i]:=gJ hi
 simp[F.bQ,an,aG,MB,hi]
 refine a0.ret (cK (l:=d.timers) ht ps[i].gC k) (by simp) (by simp) (by simp) ?_
 simp
 refine aM.with [] [KB,KB+1,KB+2] ?_
 simp[fx,yW,hL.refs,hL.aI]
theorem Eu {d:bK} (hs:d.aD.length≤1048576) {l:List Int} (hl:l.length≤8) (ps:List dC) {L:List PV} (hL:aB L):
  af Pg I.bg [.pt KB [] 0,oq l] (MB d ps L)
   (λr fp=>r= .tup []∧fp=MB (qL d (fh d.aD l)) ps L):=by
 refine af.intro T.bg (by simp[F.bg]) ?_
 simp[F.bg,an,aG,MB]
 refine jh.jY l.length (λ_=>True) [0,6,7,8] (λi=>[(8,.int .i64 i)]) (λi=>[(KB,.box (zG (qL d (fh d.aD (l.take i))) (KB+1) ps.length (KB+2) L.length))]) [.keep [0,6,7,8]] ?_
 simp[show∀s,fh s []=s from λ_=>rfl,show qL d d.aD=d from rfl]
 refine⟨λi hi K hK=> ?_,λK=> ?_⟩
 ·have hx:l[i]? =some l[i]:=gJ hi
  rw[vY hi]at hK
  have hle:=lR (l.take i) d.aD
  generalize fh d.aD (l.take i)=S at*
  simp[↓av,hi]
  refine al.ret (Gs (l:=S) (by omega) l[i]) (by simp) (by simp) (by simp) ?_
  simp[fG hi (by omega)]
  refine⟨[.keep [0,6,7,8]],?_⟩
  simp
  exact hK _ (by simp[qL])
 ·simp[↓av]
  refine aM.with [] [KB,KB+1,KB+2] ?_
  simp[fx,hL.refs,hL.aI]
theorem Gz {d:bK} (ht:d.timers.length≤1048575) {ps:List dC} {i:Nat} (hi:i<ps.length) {L:List PV} (hL:aB L):
  af Pg I.bG [.pt KB [] 0,.int .i64 i] (MB d ps L)
   (λr fp=>r= .tup []∧fp=MB (if ps[i].nI=0 then d else yW d (kX d.timers ⟨IntKind.i64.wrap (d.now+ps[i].nI),ps[i].gC,4⟩)) ps L):=by
 refine af.intro T.bG (by simp[F.bG]) ?_
 have hx:ps[i]? =some ps[i]:=gJ hi
 simp[F.bG,an,aG,MB,hi]
 refine⟨λhk=> ?_,λhk=> ?_⟩
 ·refine al.mo KB (KB+1) (KB+2) (OK ht hi 4 ps[i].nI hL) (by simp) (by simp) (by simp) (by simp) hL (by simp[ae,ab,bj,idx]) (by simp[aO,aI,aV,idx]) ?_
  rintro r fp ⟨rfl,rfl⟩
  refine⟨_,_,_,rfl,by simp,hL,?_⟩
  simp
  refine aM.with [] [KB,KB+1,KB+2] ?_
  simp[fx,hk,hL.refs,hL.aI]
 ·refine aM.with [] [KB,KB+1,KB+2] ?_
  simp[fx,hk,hL.refs,hL.aI]
end Go.Ab
end Q1s
noncomputable section Q2s
namespace Go.Ab
open Go.Ab
def Lt (l:List fX) (k:Key) (n:Int):Bool:=l.any λt=>decide (t.peer=k)&&decide (t.kind=n)
theorem cG {l:List fX} (hl:l.length≤1048576) (k:Key) (n:Int):bB Pg I.cG [db l,eF k,.int .i64 n] (.bl (Lt l k n)):=by
 refine af.intro T.cG (by simp[F.cG]) ?_
 simp[F.cG,an,aG]
 refine jh.jY l.length (λi=>Lt (l.take i) k n=false) [2,4,6,9,10,11] (λi=>[(11,.int .i64 i)]) (λi=>[]) [.keep [2,4,6,9,10,11]] ?_
 simp
 refine⟨rfl,λi hi hI K hK=> ?_,λhI K=> ?_⟩
 ·have hx:l[i]? =some l[i]:=gJ hi
  have hs:Lt (l.take (i+1)) k n=(decide (l[i].peer=k)&&decide (l[i].kind=n)):=by
   unfold Lt at hI⊢
   rw[List.take_succ_eq_append_getElem hi,List.any_append,hI]
   simp
  have jz:l[i]∈l:=List.getElem_mem hi
  by_cases h1:l[i].peer=k
  ·by_cases he:l[i].kind=n
   ·simp[↓av,hi,he,h1]
    refine aM.plain [] ?_
    simp
    unfold Lt
    rw[List.any_eq_true]
    exact⟨l[i],jz,by simp[h1,he]⟩
   ·simp[↓av,hi,he,h1,fG hi (by omega)]
    refine⟨[.keep [2,4,6,9,10,11],.dr 8],?_⟩
    simp
    exact hK _ (by simp) (by rw[hs];simp[he])
  ·simp[↓av,hi,yA,h1,fG hi (by omega)]
   refine⟨[.keep [2,4,6,9,10,11],.dr 8],?_⟩
   simp
   exact hK _ (by simp) (by rw[hs];simp[h1])
 ·simp[↓av,↓av]
  refine aM.plain [] ?_
  simp
  exact hI
def OL (s:j9) (now:Int):Int:=if now<s.born then 0 else IntKind.i64.wrap (min (IntKind.u64.wrap (IntKind.u64.wrap now-IntKind.u64.wrap s.born)) 1099511627776)
theorem dA (s:j9) (now:Int):bB Pg I.dA [fO s,.int .i64 now] (.int .i64 (OL s now)):=by
 refine af.intro T.dA (by simp[F.dA]) ?_
 by_cases h:now<s.born
 ·simp[F.dA,an,aG,h]
  refine aM.plain [] ?_
  simp[OL,h]
 ·have h':¬s.born>now:=h
  simp[F.dA,an,aG,h]
  refine aM.plain [] ?_
  simp[OL,h]
def wE (s:j9) (r:xv) (now:Int):Bool:=decide (OL s now<r.lQ)&&decide (s.next<min (min s.iI r.uj) 18446744073709543423)
theorem dX (s:j9) (r:xv) (now:Int):bB Pg I.dX [fO s,dU r,.int .i64 now] (.bl (wE s r now)):=by
 refine af.intro T.dX (by simp[F.dX]) ?_
 simp[F.dX,an,aG]
 refine a0.ret (dA s now) (by simp) (by simp) (by simp) ?_
 by_cases h:OL s now<r.lQ
 ·simp[h]
  refine aM.plain [] ?_
  simp[wE,h]
 ·simp[h]
  refine aM.plain [] ?_
  simp[wE,h]
end Go.Ab
end Q2s
noncomputable section Q3s
namespace Go.Ab
open Go.Ab
theorem Zj {d:bK} (ht:d.timers.length≤1048576) {ps:List dC} {i:Nat} (hi:i<ps.length) (k:Int) {L:List PV} (hL:aB L):
  af Pg I.du [.pt KB [] 0,.int .i64 i,.int .i64 k] (MB d ps L) (λr fp=>r= .bl (Lt d.timers ps[i].gC k)∧fp=MB d ps L):=by
 refine af.intro T.du (by simp[F.du]) ?_
 have hx:ps[i]? =some ps[i]:=gJ hi
 simp[F.du,an,aG,MB,hi]
 refine a0.ret (cG (l:=d.timers) ht ps[i].gC k) (by simp) (by simp) (by simp) ?_
 simp
 refine aM.with [] [KB,KB+1,KB+2] ?_
 simp[hL.refs,hL.aI]
def Lu (d:bK) (p:dC):Bool:=p.ring.c.has&&wE p.ring.c.iO d.rules d.now
theorem C9 (d:bK) {ps:List dC} {i:Nat} (hi:i<ps.length) {L:List PV} (hL:aB L):
  af Pg I.cq [.pt KB [] 0,.int .i64 i] (MB d ps L) (λr fp=>r= .bl (Lu d ps[i])∧fp=MB d ps L):=by
 refine af.intro T.cq (by simp[F.cq]) ?_
 have hx:ps[i]? =some ps[i]:=gJ hi
 simp[F.cq,an,aG,MB,hi]
 refine⟨λh=>⟨h,?_⟩,λh=>⟨h,?_⟩⟩
 ·refine a0.ret (dX ps[i].ring.c.iO d.rules d.now) (by simp) (by simp) (by simp) ?_
  simp[h]
  refine aM.with [.keep [4],.dr 5] [KB,KB+1,KB+2] ?_
  simp[hL.refs,hL.aI,cr,dx,ab,ah,Lu,h]
 ·refine aM.with [.keep [4],.dr 5] [KB,KB+1,KB+2] ?_
  simp[hL.refs,hL.aI,cr,dx,ab,ah,Lu,h]
theorem Da (d:bK) {ps:List dC} {i:Nat} (hi:i<ps.length) {L:List PV} (hL:aB L):
  ∃b:Bool,af Pg I.bH [.pt KB [] 0,.int .i64 i] (MB d ps L) (λr fp=>r= .bl b∧fp=MB d ps L):=by
 have hx:ps[i]? =some ps[i]:=gJ hi
 by_cases hc:ps[i].mP=true
 ·refine⟨decide (IntKind.i64.wrap (d.now-ps[i].qB)<d.rules.cot),?_⟩
  refine af.intro T.bH (by simp[F.bH]) ?_
  simp[F.bH,an,aG,MB,hi,hc]
  refine aM.with [.keep [4],.dr 5] [KB,KB+1,KB+2] ?_
  simp[hL.refs,hL.aI,cr,dx,ab,ah]
 ·refine⟨false,?_⟩
  refine af.intro T.bH (by simp[F.bH]) ?_
  simp[F.bH,an,aG,MB,hi,hc]
  refine aM.with [.keep [4],.dr 5] [KB,KB+1,KB+2] ?_
  simp[hL.refs,hL.aI,cr,dx,ab,ah]
theorem JE (d:bK) {ps:List dC} {i:Nat} (hi:i<ps.length) {L:List PV} (hL:aB L) (hl:L.length≤1000) (b:List Int) (c:Bool):
  af Pg I.c9 [.pt KB [] 0,.int .i64 i,.sl 1 (jb b) c] (MB d ps L) (λr fp=>∃x,Pure x∧r= .tup []∧fp=MB d ps (L++[x])):=by
 have hx:ps[i]? =some ps[i]:=gJ hi
 refine af.intro T.c9 (by simp[F.c9]) ?_
 simp[F.c9,an,aG,MB,hi]
 refine ny.run [] rfl ?_
 simp
 refine⟨⟨by omega,by omega⟩,?_⟩
 refine aM.with [.keep [0],.dr 6] [KB,KB+1,KB+2] ?_
 simp[fx,hL.refs,cr,dx,ab,ah,ae]
 have hx:Pure (PV.st 86 [.int .i64 1,ji ps[i].ep,eF ps[i].gC,.ar 1 32 (zr 32 (.int .u8 0)),.int .u64 0,.sl 1 (jb b) false,.str []]):=by simp
 refine⟨_,hx,?_⟩
 have hLx:aB (L++[PV.st 86 [.int .i64 1,ji ps[i].ep,eF ps[i].gC,.ar 1 32 (zr 32 (.int .u8 0)),.int .u64 0,.sl 1 (jb b) false,.str []]]):=(oh _ _).2 ⟨hL,(rv _ _).2 ⟨hx,mb⟩⟩
 exact hLx.aI _
end Go.Ab
end Q3s
noncomputable section Q6s
namespace Go.Ab
open Go.Ab
structure uC (p q:pq):Prop where
 has:q.has=p.has
 py:q.iO.py=p.iO.py
theorem uC.refl (p:pq):uC p p:=⟨rfl,rfl⟩
theorem uC.trans {p q r:pq} (h:uC p q) (k:uC q r):uC p r:=⟨k.has.trans h.has,k.py.trans h.py⟩
structure xO (p q:dC):Prop where
 gC:q.gC=p.gC
 nI:q.nI=p.nI
 lF:q.lF=p.lF
 rp:uC p.ring.p q.ring.p
 rc:uC p.ring.c q.ring.c
 rn:uC p.ring.n q.ring.n
 aW:q.aW<:+p.aW
theorem xO.refl (p:dC):xO p p:=⟨rfl,rfl,rfl,.refl _,.refl _,.refl _,List.suffix_refl _⟩
theorem xO.trans {p q r:dC} (h:xO p q) (k:xO q r):xO p r:=
 ⟨k.gC.trans h.gC,k.nI.trans h.nI,k.lF.trans h.lF,h.rp.trans k.rp,h.rc.trans k.rc,h.rn.trans k.rn,k.aW.trans h.aW⟩
def n5 (ps qs:List dC):Prop:=qs.length=ps.length∧∀(i:Nat) (p:dC),ps[i]? =some p->∃q:dC,qs[i]? =some q∧xO p q
theorem n5.refl (ps:List dC):n5 ps ps:=⟨rfl,λ_ p h=>⟨p,h,.refl p⟩⟩
theorem n5.trans {ps qs rs:List dC} (h:n5 ps qs) (k:n5 qs rs):n5 ps rs:=by
 refine⟨k.1.trans h.1,λi p hp=> ?_⟩
 obtain⟨q,hq,h1⟩:=h.2 i p hp
 obtain⟨r,hr,h2⟩:=k.2 i q hq
 exact⟨r,hr,h1.trans h2⟩
theorem n5.set {ps:List dC} {i:Nat} (hi:i<ps.length) {q:dC} (h:xO ps[i] q):n5 ps (ps.set i q):=by
 refine⟨by simp,λj p hp=> ?_⟩
 by_cases hj:i=j
 ·subst hj
  rw[gJ hi]at hp
  cases hp
  exact⟨q,by simp[hi],h⟩
 ·exact⟨p,by rw[List.getElem?_set_ne hj];exact hp,.refl p⟩
structure tH (n:Nat) (d:bK) (ps:List dC) (d':bK) (tO:List dC):Prop where
 timers:d'.timers.length≤d.timers.length+n
 aD:d'.aD.length≤d.aD.length+n
 bn:d'.bn=d.bn
 bD:d'.bD=d.bD
 buckets:d'.buckets=d.buckets
 yV:n5 ps tO
theorem tH.refl (n:Nat) (d:bK) (ps:List dC):tH n d ps d ps:=⟨by omega,by omega,rfl,rfl,rfl,.refl _⟩
theorem tH.trans {n m:Nat} {d e f:bK} {ps qs rs:List dC} (h:tH n d ps e qs) (k:tH m e qs f rs):tH (n+m) d ps f rs:=
 ⟨by have:=h.timers;have:=k.timers;omega,by have:=h.aD;have:=k.aD;omega,k.bn.trans h.bn,k.bD.trans h.bD,k.buckets.trans h.buckets,h.yV.trans k.yV⟩
theorem tH.mono {n m:Nat} {d e:bK} {ps qs:List dC} (h:tH n d ps e qs) (hn:n≤m):tH m d ps e qs:=
 ⟨by have:=h.timers;omega,by have:=h.aD;omega,h.bn,h.bD,h.buckets,h.yV⟩
end Go.Ab
end Q6s
noncomputable section Q7s
namespace Go.Ab
open Go.Ab
theorem GB {l:List iK} {x:Int} (h:∃s∈l,s.index=x):∃f,∃hf:f<l.length,l[f].index=x∧∀j (hj:j<l.length),j<f->l[j].index≠x:=by
 obtain⟨s,hs,hx⟩:=h
 obtain⟨i,hi,rfl⟩:=List.getElem_of_mem hs
 obtain⟨f,⟨hf,h1⟩,h2⟩:=og (p:=λi=>∃h:i<l.length,l[i].index=x) ⟨i,hi,hx⟩
 exact⟨f,hf,h1,λj hj hjf e=>h2 j hjf ⟨hj,e⟩⟩
theorem Iq {l:List iK} (hb:∀s∈l,s.index≤1000) (x:Int):∃j:Nat,(∀s∈l,s.index≠x+j)∧(∀i:Nat,i<j->∃s∈l,s.index=x+i):=by
 obtain⟨j,h1,h2⟩:=og (p:=λj:Nat=>∀s∈l,s.index≠x+j) ⟨(1001-x).toNat,λs hs e=>by have:=hb s hs;omega⟩
 refine⟨j,h1,λi hi=> ?_⟩
 have:=h2 i hi
 simpa using this
theorem Wc {l:List iK} (hl:l.length<32) (hb:∀s∈l,s.index≤1000) {x:Int} (hx0:0≤x) (TR:x<4294967296) (k:Key) (b:Bool):∃y:Int,bB Pg I.cV [cZ l,.int .u32 x,eF k,.bl b] (.tup [cZ (rR l ⟨y,k,b⟩),.int .u32 y,.int .i64 0]):=by
 obtain⟨j0,GW,ann⟩:=Iq hb (max x 1)
 have hjb:∀i:Nat,i<j0->max x 1+i≤1000:=λi hi=>by obtain⟨s,hs,e⟩:=ann i hi;have:=hb s hs;omega
 refine⟨max x 1+j0,?_⟩
 generalize hy:max x 1+(j0:Int)=y at*
 refine af.intro T.cV (by simp[F.cV]) ?_
 have rT:¬(32:Int)≤l.length:=by omega
 simp[F.cV,an,aG,rT]
 refine jh.jY j0 (λ_=>True) [0,1,2,3,6,8,9,10,11] (λi=>[(11,.int .u32 (max x 1+(i:Int)))]) (λi=>[]) [.keep [0,1,2,3,6,8,9,10,11]] ?_
 simp
 refine⟨λi hi K hK=> ?_,λK=> ?_⟩
 ·obtain⟨f,hf,h1,h2⟩:=GB (ann i hi)
  have EN:=hjb i hi
  have hw:IntKind.u32.wrap (max x 1+(i:Int)+1)=max x 1+(i:Int)+1:=wrap_u32 (by omega)
  have hm:max (max x 1+(i:Int)+1) 1=max x 1+((i+1:Nat):Int):=by omega
  simp[↓av]
  refine al.ret (vU (by omega) hf h1 h2) (by simp) (by simp) (by simp) ?_
  simp[hw,hm]
  refine⟨[.keep [0,1,2,3,6,8,9,10,11],.dr 12],?_⟩
  simp
  exact hK _ (by simp)
 rw[hy]
 simp[↓av]
 refine al.ret (sx (by omega) GW) (by simp) (by simp) (by simp) ?_
 simp[↓av]
 have hp:=zF y l
 have hr:rR l ⟨y,k,b⟩=l.take (iP y l)++[⟨y,k,b⟩]++l.drop (iP y l):=rfl
 refine jh.jY (iP y l) (λ_=>True) [0,3,6,8,9,10,11,14] (λi=>[(14,.int .i64 i)]) (λi=>[]) [.keep [0,3,6,8,9,10,11,14],.dr 12] ?_
 simp
 refine⟨λi hi K hK=> ?_,λK=> ?_⟩
 ·have uP:i<l.length:=by omega
  have hx:l[i]? =some l[i]:=gJ uP
  have he:=Em y l i uP hi
  simp[↓av,uP,he,fG uP (by omega)]
  refine⟨[.keep [0,3,6,8,9,10,11,14]],?_⟩
  simp
  exact hK _ (by simp)
 ·by_cases hq:iP y l<l.length
  ·have hx:l[iP y l]? =some l[iP y l]:=gJ hq
   have he:=En y l hq
   simp[↓av,↓av,hq,he,cZ,hp]
   refine⟨⟨by omega,by omega⟩,⟨by omega,by omega⟩,⟨by omega,by omega⟩,?_⟩
   refine aM.plain [.keep [8,9,10],.fz 50,.wk 8] ?_
   have h1:min (iP y l) l.length=iP y l:=by omega
   have h2:iP y l+(l.length-iP y l+1)=iP y l+1+(l.length-iP y l):=by omega
   simp[h1,h2,tJ,hr,cy]
  ·simp[↓av,↓av,hq,cZ,hp]
   refine⟨⟨by omega,by omega⟩,⟨by omega,by omega⟩,⟨by omega,by omega⟩,?_⟩
   refine aM.plain [.keep [8,9,10],.fz 50,.wk 8] ?_
   have h1:min (iP y l) l.length=iP y l:=by omega
   have h2:iP y l+(l.length-iP y l+1)=iP y l+1+(l.length-iP y l):=by omega
   simp[h1,h2,tJ,hr,cy]
theorem OfE (hB8:∀n,∃l:List Int,l.length=8∧sk Pg I.js [.int .u64 n,.int .i64 8] 1 (jb l)) (hB4:∀n,∃l:List Int,l.length=4∧sk Pg I.js [.int .u64 n,.int .i64 4] 1 (jb l)) (n:Int):
  ∃l:List Int,l.length=12∧bB Pg I.ez [.int .i64 n] (.ar 1 12 (jb l)):=by
 by_cases h:n<0∨1099511627776<n
 ·refine⟨List.replicate 12 0,by simp,?_⟩
  refine af.intro T.ez (by simp[F.ez]) ?_
  by_cases h0:n<0
  ·simp[F.ez,an,aG,h0]
   refine aM.plain [] ?_
   simp[gX,jb]
  ·have h1:1099511627776<n:=by omega
   simp[F.ez,an,aG,h0,h1]
   refine aM.plain [] ?_
   simp[gX,jb]
 ·have h0:¬n<0:=by omega
  have h1:¬1099511627776<n:=by omega
  obtain⟨a,ha,hA⟩:=hB8 (IntKind.u64.wrap (4611686018427387914+IntKind.u64.wrap (IntKind.i64.wrap (n.tdiv 1000))))
  obtain⟨b,hb,hB⟩:=hB4 (IntKind.u64.wrap (IntKind.u64.wrap (n.tmod 1000)*1000000))
  refine⟨a++b,by simp[ha,hb],?_⟩
  refine af.intro T.ez (by simp[F.ez]) ?_
  simp[F.ez,an,aG,h0,h1]
  refine a0.ret (hA.gq (ik a)) (by simp) (by simp) (by simp) ?_
  have e1:(jb a).take 8=jb a:=tJ (by simp[ha])
  have e2:(jb b).take 4=jb b:=tJ (by simp[hb])
  simp[gX,ha,e1]
  refine a0.ret (hB.gq (ik b)) (by simp) (by simp) (by simp) ?_
  simp[ha,hb,e2,List.drop_append]
  refine aM.plain [] ?_
  simp[jb]
  omega
end Go.Ab
end Q7s
noncomputable section Q4s
namespace Go.Ab
open Go.Ab
theorem Ir:∀ {L:List PV},lj (.i .u8) L=true->bT (uL .u8 L.length) L
 |[],_=>by simp[uL,bT]
 |
  x::L,h=>by
  simp only[lj,aJ]at h
  have hx:=h.1
  cases x<;>simp[Ab.fits]at hx
  subst hx
  have ih:=Ir h.2
  simp only[List.length_cons,uL,List.replicate_succ,bT,gm]
  exact⟨⟨trivial,by simp⟩,ih⟩
theorem rI {p:PV} (hp:fits ja p=true):gm (uA .u8 32) p:=by
 cases p<;>simp[Ab.fits]at hp
 rename_i sz m L
 obtain⟨⟨h1,h2,h3⟩,h4⟩:=hp
 have e:sz=1:=by simpa[pj]using h1
 subst e h2
 simp only[uA,gm]
 refine⟨⟨trivial,trivial⟩,?_⟩
 have:=Ir h4
 rwa [h3]at this
theorem Is (v:FV ja):∃l:List Int,l.length=32∧v.p= .ar 1 32 (jb l):=nD (rI v.ok)
theorem zI:∀l:List Int,lj (.i .u8) (jb l)=true
 |[]=>rfl
 |x::l=>by simp only[jb,List.map_cons,lj,Ab.fits,aJ];exact⟨by simp,zI l⟩
def keyOf (l:List Int) (h:l.length=32):FV ja:=⟨.ar 1 32 (jb l),by simp[Ab.fits,pj,h,zI]⟩
theorem SY {a b:List Int} (ha:a.length=32) (hb:b.length=4):∃x y:FV ja,sk Pg I.ib [bS a,bS b,.int .i64 2] 32 [x.p,y.p]:=by
 obtain⟨_,m,h1,h2⟩:=ahw ahu (.head _) [bS a,bS b,.int .i64 2] ⟨oZ ha,oZ hb,by simp[kI,gm],trivial⟩
 match m,h1 with
 |
  [p,q],h1=>
  obtain⟨x,hx,rfl⟩:=nD h1.1
  obtain⟨y,hy,rfl⟩:=nD h1.2.1
  exact⟨keyOf x hx,keyOf y hy,h2⟩
 |[],h1=>simp[bT]at h1
 |[_],h1=>simp[List.replicate,bT]at h1
 |_::_::_::_,h1=>simp[List.replicate,bT]at h1
theorem RL4 {a:List Int} (ha:a.length=4):∃n:Int,bB Pg I.iD [bS a] (.int .u64 n):=by
 obtain⟨_,v,h1,h2⟩:=S22 z22 (.head _) [bS a] ⟨oZ ha,trivial⟩
 cases v<;>simp[uI,gm]at h1
 obtain⟨rfl,_⟩:=h1
 exact⟨_,h2⟩
theorem al.vw {P:Program} {s:St} [iZ] {d:Option Nat} {f:FuncId} {k off n N:Nat} {c:jA} {L ys:List PV} {v:PV} {K:St->Prop} {t:Tg K} (hA:bB P f [.sl 1 ys false] v)
  (hb:get s.bx k=some (.box (.ar 1 N L))) (hL:aB L) (hyp:aB ys) (hn:off+n≤N) (E2:(L.drop off).take n=ys) (hv:Pure v) (px:rO v=true)
  (h:K ({s with bx:=put s.bx k (.box (.ar 1 N L))}.put d v)):al P s d f [.rs k [] off n 0 1 c] K t:=by
 refine al.view [k] [] [.box (.ar 1 N L)] (gy:=[.rs KB [] off n 0 1 c]) (kg:=[.box (.ar 1 N L)]) hA (by simp[getAll,hb]) (by simp) (by simp) (by simp[ae,ab,bj,idx]) (by simp[ah,ab,hL.refs]) (by simp[aO,aI,aV,idx]) (by simp[aZ,aI,hL.aI]) ?_ ?_ ?_
 ·refine⟨.inl (.inr ⟨KB,[],off,n,0,1,c,ys,rfl,?_,hyp.refs _,by omega,rfl⟩),trivial⟩
  simp[aG,E2,hn]
 ·rintro r new ⟨rfl,rfl⟩
  exact⟨⟨px,by simp⟩,rfl⟩
 ·rintro r new ⟨rfl,rfl⟩
  simp[hv.aI,hv.refs,ah,ab,hL.refs,aZ,aI,hL.aI,bI]
  exact h
def tu (d:bK) (r:FV ja):bK:= {d with random:=r}
theorem OM (v:FV ja):mN v.p=true:=by
 obtain⟨l,_,h⟩:=Is v
 rw[h]
 simp only[mN]
 exact Ev l
theorem Ew (d:bK) (ps:List dC) {L:List PV} (hL:aB L):∃r k:FV ja,
  af Pg I.cH [.pt KB [] 0] (MB d ps L) (λx fp=>x=k.p∧fp=MB (tu d r) ps L):=by
 obtain⟨a,ha,hp⟩:=Is d.random
 obtain⟨x,y,hE⟩:=SY (b:=[100,114,97,119]) ha rfl
 refine⟨x,y,?_⟩
 refine af.intro T.cH (by simp[F.cH]) ?_
 simp[F.cH,an,aG,MB]
 refine al.view [KB,KB+1,KB+2] [11] (MB d ps L) (gy:=[.rs KB [Step.f 0 0,Step.f 4 75] 0 32 0 1 .clip,bS [100,114,97,119],.int .i64 2]) (kg:=MB d ps L) hE (by simp[getAll,MB]) (by simp) (by simp) (by simp[ae,ab,bj,idx]) (by simp[MB,ah,bj,idx,hL.refs]) (by simp[aO,aI,aV,idx,bS,jb]) (by simp[MB,aZ,aV,idx,hL.aI]) ?_ ?_ ?_
 ·refine⟨.inl (.inr ⟨KB,[Step.f 0 0,Step.f 4 75],0,32,0,1,.clip,jb a,rfl,?_,(ik a).refs _,by omega,rfl⟩),.inl (.inl ⟨rfl,(JF _).refs _⟩),.inl (.inl ⟨rfl,by simp[ab]⟩),trivial⟩
  simp[aG,MB,hp]
  exact tJ (by simp[ha])
 ·rintro r new ⟨rfl,rfl⟩
  refine⟨⟨by simp[rO,mN],?_⟩,rfl⟩
  simp[CQ,iH,OM]
 ·rintro r new ⟨rfl,rfl⟩
  simp[MB,aZ,aI,aO,eP,ah,ae,fY,bI,hL.refs,hL.aI]
  refine aM.with [] [KB,KB+1,KB+2] ?_
  simp[tu,hL.refs,hL.aI,ah]
theorem JG (d:bK) (ps:List dC) {L:List PV} (hL:aB L):∃(r:FV ja) (n:Int),(0≤n∧n<4294967296)∧
  af Pg I.da [.pt KB [] 0] (MB d ps L) (λx fp=>x= .int .u32 n∧fp=MB (tu d r) ps L):=by
 obtain⟨r,k,hD⟩:=Ew d ps hL
 obtain⟨l,hl,hk⟩:=Is k
 obtain⟨n,hR⟩:=RL4 (a:=l.take 4) (by simp[hl])
 refine⟨r,IntKind.u32.wrap n,by constructor<;>simp[IntKind.wrap,IntKind.bits,IntKind.signed]<;>omega,?_⟩
 refine af.intro T.da (by simp[F.da]) ?_
 simp[F.da,an,aG,MB]
 refine al.mo KB (KB+1) (KB+2) hD (by simp) (by simp) (by simp) (by simp) hL (by simp[ae,ab,bj,idx]) (by simp[aO,aI,aV,idx]) ?_
 rintro x fp ⟨rfl,rfl⟩
 refine⟨_,_,_,rfl,by simp,hL,?_⟩
 simp[hk]
 refine al.vw (N:=32) (ys:=jb (l.take 4)) hR (by simp) (ik l) (ik _) (by omega) (by simp[jb]) (by simp) (by simp[rO,mN]) ?_
 simp
 refine aM.with [] [KB,KB+1,KB+2] ?_
 simp[tu,hL.refs,hL.aI,ah]
end Go.Ab
end Q4s
