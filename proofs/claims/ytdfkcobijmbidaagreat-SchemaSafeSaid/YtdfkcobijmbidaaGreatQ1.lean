/- A machine with its outputs; drawing, wishing, forgetting. No condition. -/
import Derived.Test.YtdfkcobijmbidaaGreatU1
import Derived.Test.YtdfkcobijmbidaaGreatB7
import Derived.Test.YtdfkcobijmbidaaGreatSF1
import Derived.Test.YtdfkcobijmbidaaGreatSF2
import Derived.Test.YtdfkcobijmbidaaGreatSF3
import Derived.Test.YtdfkcobijmbidaaGreatSF4
import Derived.Test.YtdfkcobijmbidaaGreatSF5
import Derived.Test.YtdfkcobijmbidaaGreatC5
set_option maxRecDepth 10000
set_option maxHeartbeats 1000000
set_option linter.all false
noncomputable section Q5s
namespace Go.Ab
open Go.Ab
def vn (n:Nat):Nat:=(16-n%16)%16
theorem eY {l:List Int} (hl:l.length≤100000) (KP:0<l.length):qV Pg I.eY [bS l] 1 (iF (l++List.replicate (vn l.length) 0)):=by
 refine ah.intro T.eY (by simp[F.eY]) ?_
 have hp:=gM l
 simp[F.eY,au,aG,bS]
 refine⟨⟨by omega,by omega⟩,?_⟩
 refine jx.kl (vn l.length) (λ_=>True) [3,6] (λi=>[(3,.rs 6 [] 0 (l.length+i) (l.length+i) 1 .tip)]) (λi=>[(6,.arr 1 (iF (l++List.replicate i 0)))]) [.keep [3]] ?_
 simp
 refine⟨λi hi K hK=> ?_,λK=> ?_⟩
 ·have h1:((l.length:Int)+(i:Int)).tmod 16≠0:=by
   rw[Int.tmod_eq_emod_of_nonneg (by omega)]
   unfold vn at hi
   omega
  simp[↓aA,h1]
  have aBG:vn l.length<16:=by unfold vn;omega
  refine⟨⟨by omega,by omega⟩,[.keep [3]],?_⟩
  simp
  refine hK _ ?_
  have e:iF (l++List.replicate i 0)++[PV.int .u8 0]=iF (l++List.replicate (i+1) 0):=by
   simp[iF,List.replicate_succ']
  simp[e,Nat.add_assoc]
 ·have h1:((l.length:Int)+(vn l.length:Int)).tmod 16=0:=by
   rw[Int.tmod_eq_emod_of_nonneg (by omega)]
   unfold vn
   omega
  simp[↓aA,h1]
  have hq:=gM (l++List.replicate (vn l.length) 0)
  refine aL.with [.keep [2]] [6] ?_
  simp
end Go.Ab
end Q5s
noncomputable section Q1s
namespace Go.Ab
open Go.Ab
def yE (d:bU) (k1 n k2 m:Nat):PV:= .st 149 [bO d (.rs k1 [] 0 n n 464 .tip),.rs k2 [] 0 m m 86 .tip]
@[simp↓] theorem abM (d:bU) (k1 n k2 m:Nat) (r:List Step):aQ (yE d k1 n k2 m) (.f 0 0::r)=aQ (bO d (.rs k1 [] 0 n n 464 .tip)) r:=by simp[yE]
@[simp↓] theorem abN (d:bU) (k1 n k2 m:Nat) (r:List Step):aQ (yE d k1 n k2 m) (.f 1 148::r)=aQ (.rs k2 [] 0 m m 86 .tip) r:=by simp[yE,av]
def Hw (c:PV) (k2 m:Nat):PV:= .st 149 [c,.rs k2 [] 0 m m 86 .tip]
def Hx (d:bU) (k1 n:Nat) (c:PV):PV:= .st 149 [bO d (.rs k1 [] 0 n n 464 .tip),c]
@[simp↓] theorem abO (d:bU) (k1 n k2 m:Nat) (r:List Step) (x:PV):dD (yE d k1 n k2 m) (.f 0 0::r) x=(dD (bO d (.rs k1 [] 0 n n 464 .tip)) r x).bind λc=>some (Hw c k2 m):=by simp[yE,Hw]
@[simp↓] theorem abP (d:bU) (k1 n k2 m:Nat) (r:List Step) (x:PV):dD (yE d k1 n k2 m) (.f 1 148::r) x=(dD (.rs k2 [] 0 m m 86 .tip) r x).bind λc=>some (Hx d k1 n c):=by simp[yE,Hx,av]
@[simp↓] theorem ahd (d:bU) (k1 n k2 m:Nat):Hw (bO d (.rs k1 [] 0 n n 464 .tip)) k2 m=yE d k1 n k2 m:=_root_.id rfl
@[simp↓] theorem ahe (d:bU) (k1 n k2 m:Nat):Hx d k1 n (.rs k2 [] 0 m m 86 .tip)=yE d k1 n k2 m:=_root_.id rfl
@[simp] theorem ahf (f:Nat->Bool) (d:bU) (k1 n k2 m:Nat):ab f (yE d k1 n k2 m)=(f k1&&f k2):=by simp[yE,ab,ae]
@[simp] theorem anT (ρ:Nat->Nat) (d:bU) (k1 n k2 m:Nat):aF ρ (yE d k1 n k2 m)=yE d (ρ k1) n (ρ k2) m:=by simp[yE,aF,aK]
def MB (d:bU) (ps:List dC) (L:List PV):List a9:=[.box (yE d (KB+1) ps.length (KB+2) L.length),.arr 464 (ps.map aP),.arr 86 L]
theorem al.mo {P:Program} {s:St} {dst:Option Nat} {f:FuncId} {args fQ:List PV} {d:bU} {ps:List dC} {L:List PV} {R:PV->List a9->Prop} {K:St->Prop} {t:Tg K} (k0 k1 k2:Nat)
  (hA:ah P f fQ (MB d ps L) R) (h0:get s.bx k0=some (.box (yE d k1 ps.length k2 L.length))) (h1:get s.bx k1=some (.arr 464 (ps.map aP))) (h2:get s.bx k2=some (.arr 86 L))
  (hn:[k0,k1,k2].Nodup) (hL:aB L) (A2:ae (bg [k0,k1,k2]) args=true) (ha:jj (aK (aT [k0,k1,k2]) args)=fQ)
  (h:∀r fp,R r fp->∃d' s5 L',fp=MB d' s5 L'∧Pure r∧aB L'∧K ({s with bx:=put (put (put s.bx k0 (.box (yE d' k1 s5.length k2 L'.length))) k1 (.arr 464 (s5.map aP))) k2 (.arr 86 L')}.put dst r)):al P s dst f args K t:=by
 subst ha
 have h01:k0≠k1:=by intro e;subst e;simp at hn
 have h02:k0≠k2:=by intro e;subst e;simp at hn
 have h12:k1≠k2:=by intro e;subst e;simp at hn
 have i1:idx [k0,k1,k2] k1=some 1:=by simp[idx,h01]
 have i2:idx [k0,k1,k2] k2=some 2:=by simp[idx,h02,h12]
 have F9:([.box (yE d k1 ps.length k2 L.length),.arr 464 (ps.map aP),.arr 86 L]:List a9).map (a0 (aT [k0,k1,k2]))=MB d ps L:=by
  simp[a0,aT,i1,i2,hL.aF,MB]
 refine⟨[k0,k1,k2],[],[.box (yE d k1 ps.length k2 L.length),.arr 464 (ps.map aP),.arr 86 L],R,by simp[getAll,h0,h1,h2],by simpa using hn,by simp,A2,?_,ah.TN (by rw[F9];exact hA),?_⟩
 ·simp[af,bg,i1,i2,hL.refs]
 ·intro r fp hR
  obtain⟨d',s5,L',rfl,hr,ma,hK⟩:=h r fp hR
  refine⟨⟨rfl,hr.refs _,by simp[MB,af,fR,ma.refs]⟩,?_⟩
  simpa[bC,MB,a0,eO,hr.aF,ma.aF,(bZ jF s5).aF]using hK
theorem NT {d:bU} (ht:d.timers.length≤1048575) {ps:List dC} {i:Nat} (hi:i<ps.length) (k:Int) (n:Int) {L:List PV} (hL:aB L):
  ah Pg I.aX [.pt KB [] 0,.int .i64 i,.int .i64 k,.int .i64 n] (MB d ps L)
   (λr fp=>r= .tup []∧fp=MB (xS d (lT d.timers ⟨IntKind.i64.wrap (d.now+n),ps[i].gF,k⟩)) ps L):=by
 refine ah.intro T.aX (by simp[F.aX]) ?_
 have hx:ps[i]? =some ps[i]:=gJ hi
 have e:PV.st 34 [.int .i64 (IntKind.i64.wrap (d.now+n)),ey ps[i].gF,.int .i64 k]=bY ⟨IntKind.i64.wrap (d.now+n),ps[i].gF,k⟩:=rfl
 simp[F.aX,au,aG,MB,hi,e]
 refine a8.ret (db (l:=d.timers) ht ⟨IntKind.i64.wrap (d.now+n),ps[i].gF,k⟩) (by simp) (by simp) (by simp) ?_
 simp
 refine aL.with [] [KB,KB+1,KB+2] ?_
 simp[fa,xS,hL.refs,hL.aF]
theorem wQ {d:bU} (ht:d.timers.length≤1048576) {ps:List dC} {i:Nat} (hi:i<ps.length) (k:Int) {L:List PV} (hL:aB L):
  ah Pg I.bG [.pt KB [] 0,.int .i64 i,.int .i64 k] (MB d ps L)
   (λr fp=>r= .tup []∧fp=MB (xS d (dv d.timers ps[i].gF k)) ps L):=by
 refine ah.intro T.bG (by simp[F.bG]) ?_
 have hx:ps[i]? =some ps[i]:=gJ hi
 simp[F.bG,au,aG,MB,hi]
 refine a8.ret (cC (l:=d.timers) ht ps[i].gF k) (by simp) (by simp) (by simp) ?_
 simp
 refine aL.with [] [KB,KB+1,KB+2] ?_
 simp[fa,xS,hL.refs,hL.aF]
theorem DG {d:bU} (hs:d.aM.length≤1048576) {l:List Int} (hl:l.length≤8) (ps:List dC) {L:List PV} (hL:aB L):
  ah Pg I.aZ [.pt KB [] 0,nI l] (MB d ps L)
   (λr fp=>r= .tup []∧fp=MB (pY d (eT d.aM l)) ps L):=by
 refine ah.intro T.aZ (by simp[F.aZ]) ?_
 simp[F.aZ,au,aG,MB]
 refine jx.kl l.length (λ_=>True) [0,6,7,8] (λi=>[(8,.int .i64 i)]) (λi=>[(KB,.box (yE (pY d (eT d.aM (l.take i))) (KB+1) ps.length (KB+2) L.length))]) [.keep [0,6,7,8]] ?_
 simp[show∀s,eT s []=s from λ_=>rfl,show pY d d.aM=d from rfl]
 refine⟨λi hi K hK=> ?_,λK=> ?_⟩
 ·have hx:l[i]? =some l[i]:=gJ hi
  rw[u7 hi]at hK
  have hle:=lg (l.take i) d.aM
  generalize eT d.aM (l.take i)=S at*
  simp[↓aA,hi]
  refine al.ret (FA (l:=S) (by omega) l[i]) (by simp) (by simp) (by simp) ?_
  simp[fV hi (by omega)]
  refine⟨[.keep [0,6,7,8]],?_⟩
  simp
  exact hK _ (by simp[pY])
 ·simp[↓aA]
  refine aL.with [] [KB,KB+1,KB+2] ?_
  simp[fa,hL.refs,hL.aF]
theorem FJ {d:bU} (ht:d.timers.length≤1048575) {ps:List dC} {i:Nat} (hi:i<ps.length) {L:List PV} (hL:aB L):
  ah Pg I.bw [.pt KB [] 0,.int .i64 i] (MB d ps L)
   (λr fp=>r= .tup []∧fp=MB (if ps[i].pq=0 then d else xS d (lT d.timers ⟨IntKind.i64.wrap (d.now+ps[i].pq),ps[i].gF,4⟩)) ps L):=by
 refine ah.intro T.bw (by simp[F.bw]) ?_
 have hx:ps[i]? =some ps[i]:=gJ hi
 simp[F.bw,au,aG,MB,hi]
 refine⟨λhk=> ?_,λhk=> ?_⟩
 ·refine al.mo KB (KB+1) (KB+2) (NT ht hi 4 ps[i].pq hL) (by simp) (by simp) (by simp) (by simp) hL (by simp[ae,ab,bg,idx]) (by simp[aK,aF,aT,idx]) ?_
  rintro r fp ⟨rfl,rfl⟩
  refine⟨_,_,_,rfl,by simp,hL,?_⟩
  simp
  refine aL.with [] [KB,KB+1,KB+2] ?_
  simp[fa,hk,hL.refs,hL.aF]
 ·refine aL.with [] [KB,KB+1,KB+2] ?_
  simp[fa,hk,hL.refs,hL.aF]
end Go.Ab
end Q1s
noncomputable section Q2s
namespace Go.Ab
open Go.Ab
def Ky (l:List fS) (k:Key) (n:Int):Bool:=l.any λt=>decide (t.peer=k)&&decide (t.kind=n)
theorem cy {l:List fS} (hl:l.length≤1048576) (k:Key) (n:Int):bI Pg I.cy [dA l,ey k,.int .i64 n] (.bl (Ky l k n)):=by
 refine ah.intro T.cy (by simp[F.cy]) ?_
 simp[F.cy,au,aG]
 refine jx.kl l.length (λi=>Ky (l.take i) k n=false) [2,4,6,9,10,11] (λi=>[(11,.int .i64 i)]) (λi=>[]) [.keep [2,4,6,9,10,11]] ?_
 simp
 refine⟨rfl,λi hi hI K hK=> ?_,λhI K=> ?_⟩
 ·have hx:l[i]? =some l[i]:=gJ hi
  have hs:Ky (l.take (i+1)) k n=(decide (l[i].peer=k)&&decide (l[i].kind=n)):=by
   unfold Ky at hI⊢
   rw[List.take_succ_eq_append_getElem hi,List.any_append,hI]
   simp
  have iZ:l[i]∈l:=List.getElem_mem hi
  by_cases h1:l[i].peer=k
  ·by_cases he:l[i].kind=n
   ·simp[↓aA,hi,he,h1]
    refine aL.plain [] ?_
    simp
    unfold Ky
    rw[List.any_eq_true]
    exact⟨l[i],iZ,by simp[h1,he]⟩
   ·simp[↓aA,hi,he,h1,fV hi (by omega)]
    refine⟨[.keep [2,4,6,9,10,11],.dr 8],?_⟩
    simp
    exact hK _ (by simp) (by rw[hs];simp[he])
  ·simp[↓aA,hi,xt,h1,fV hi (by omega)]
   refine⟨[.keep [2,4,6,9,10,11],.dr 8],?_⟩
   simp
   exact hK _ (by simp) (by rw[hs];simp[h1])
 ·simp[↓aA,↓aA]
  refine aL.plain [] ?_
  simp
  exact hI
def NU (s:jt) (now:Int):Int:=if now<s.born then 0 else IntKind.i64.wrap (min (IntKind.u64.wrap (IntKind.u64.wrap now-IntKind.u64.wrap s.born)) 1099511627776)
theorem df (s:jt) (now:Int):bI Pg I.df [eX s,.int .i64 now] (.int .i64 (NU s now)):=by
 refine ah.intro T.df (by simp[F.df]) ?_
 by_cases h:now<s.born
 ·simp[F.df,au,aG,h]
  refine aL.plain [] ?_
  simp[NU,h]
 ·have h':¬s.born>now:=h
  simp[F.df,au,aG,h]
  refine aL.plain [] ?_
  simp[NU,h]
def vo (s:jt) (r:yC) (now:Int):Bool:=decide (NU s now<r.mM)&&decide (s.next<min (min s.ij r.tz) 18446744073709543423)
theorem dL (s:jt) (r:yC) (now:Int):bI Pg I.dL [eX s,eP r,.int .i64 now] (.bl (vo s r now)):=by
 refine ah.intro T.dL (by simp[F.dL]) ?_
 simp[F.dL,au,aG]
 refine a8.ret (df s now) (by simp) (by simp) (by simp) ?_
 by_cases h:NU s now<r.mM
 ·simp[h]
  refine aL.plain [] ?_
  simp[vo,h]
 ·simp[h]
  refine aL.plain [] ?_
  simp[vo,h]
end Go.Ab
end Q2s
noncomputable section Q3s
namespace Go.Ab
open Go.Ab
theorem Yg {d:bU} (ht:d.timers.length≤1048576) {ps:List dC} {i:Nat} (hi:i<ps.length) (k:Int) {L:List PV} (hL:aB L):
  ah Pg I.c9 [.pt KB [] 0,.int .i64 i,.int .i64 k] (MB d ps L) (λr fp=>r= .bl (Ky d.timers ps[i].gF k)∧fp=MB d ps L):=by
 refine ah.intro T.c9 (by simp[F.c9]) ?_
 have hx:ps[i]? =some ps[i]:=gJ hi
 simp[F.c9,au,aG,MB,hi]
 refine a8.ret (cy (l:=d.timers) ht ps[i].gF k) (by simp) (by simp) (by simp) ?_
 simp
 refine aL.with [] [KB,KB+1,KB+2] ?_
 simp[hL.refs,hL.aF]
def Kz (d:bU) (p:dC):Bool:=p.ring.c.has&&vo p.ring.c.ju d.rules d.now
theorem Cr (d:bU) {ps:List dC} {i:Nat} (hi:i<ps.length) {L:List PV} (hL:aB L):
  ah Pg I.bX [.pt KB [] 0,.int .i64 i] (MB d ps L) (λr fp=>r= .bl (Kz d ps[i])∧fp=MB d ps L):=by
 refine ah.intro T.bX (by simp[F.bX]) ?_
 have hx:ps[i]? =some ps[i]:=gJ hi
 simp[F.bX,au,aG,MB,hi]
 refine⟨λh=>⟨h,?_⟩,λh=>⟨h,?_⟩⟩
 ·refine a8.ret (dL ps[i].ring.c.ju d.rules d.now) (by simp) (by simp) (by simp) ?_
  simp[h]
  refine aL.with [.keep [4],.dr 5] [KB,KB+1,KB+2] ?_
  simp[hL.refs,hL.aF,bL,cL,ab,af,Kz,h]
 ·refine aL.with [.keep [4],.dr 5] [KB,KB+1,KB+2] ?_
  simp[hL.refs,hL.aF,bL,cL,ab,af,Kz,h]
theorem Cs (d:bU) {ps:List dC} {i:Nat} (hi:i<ps.length) {L:List PV} (hL:aB L):
  ∃b:Bool,ah Pg I.bA [.pt KB [] 0,.int .i64 i] (MB d ps L) (λr fp=>r= .bl b∧fp=MB d ps L):=by
 have hx:ps[i]? =some ps[i]:=gJ hi
 by_cases hc:ps[i].nk=true
 ·refine⟨decide (IntKind.i64.wrap (d.now-ps[i].qW)<d.rules.cot),?_⟩
  refine ah.intro T.bA (by simp[F.bA]) ?_
  simp[F.bA,au,aG,MB,hi,hc]
  refine aL.with [.keep [4],.dr 5] [KB,KB+1,KB+2] ?_
  simp[hL.refs,hL.aF,bL,cL,ab,af]
 ·refine⟨false,?_⟩
  refine ah.intro T.bA (by simp[F.bA]) ?_
  simp[F.bA,au,aG,MB,hi,hc]
  refine aL.with [.keep [4],.dr 5] [KB,KB+1,KB+2] ?_
  simp[hL.refs,hL.aF,bL,cL,ab,af]
theorem IX (d:bU) {ps:List dC} {i:Nat} (hi:i<ps.length) {L:List PV} (hL:aB L) (hl:L.length≤1000) (b:List Int) (c:Bool):
  ah Pg I.cS [.pt KB [] 0,.int .i64 i,.sl 1 (iF b) c] (MB d ps L) (λr fp=>∃x,Pure x∧r= .tup []∧fp=MB d ps (L++[x])):=by
 have hx:ps[i]? =some ps[i]:=gJ hi
 refine ah.intro T.cS (by simp[F.cS]) ?_
 simp[F.cS,au,aG,MB,hi]
 refine nj.run [] rfl ?_
 simp
 refine⟨⟨by omega,by omega⟩,?_⟩
 refine aL.with [.keep [0],.dr 6] [KB,KB+1,KB+2] ?_
 simp[fa,hL.refs,bL,cL,ab,af,ae]
 have hx:Pure (PV.st 86 [.int .i64 1,iU ps[i].ep,ey ps[i].gF,.ar 1 32 (zr 32 (.int .u8 0)),.int .u64 0,.sl 1 (iF b) false,.str []]):=by simp
 refine⟨_,hx,?_⟩
 have hLx:aB (L++[PV.st 86 [.int .i64 1,iU ps[i].ep,ey ps[i].gF,.ar 1 32 (zr 32 (.int .u8 0)),.int .u64 0,.sl 1 (iF b) false,.str []]]):=(nE _ _).2 ⟨hL,(qA _ _).2 ⟨hx,lA⟩⟩
 exact hLx.aF _
end Go.Ab
end Q3s
noncomputable section Q6s
namespace Go.Ab
open Go.Ab
structure tL (p q:oC):Prop where
 has:q.has=p.has
 nY:q.ju.nY=p.ju.nY
theorem tL.refl (p:oC):tL p p:=⟨rfl,rfl⟩
theorem tL.trans {p q r:oC} (h:tL p q) (k:tL q r):tL p r:=⟨k.has.trans h.has,k.nY.trans h.nY⟩
structure wR (p q:dC):Prop where
 gF:q.gF=p.gF
 pq:q.pq=p.pq
 lS:q.lS=p.lS
 rp:tL p.ring.p q.ring.p
 rc:tL p.ring.c q.ring.c
 rn:tL p.ring.n q.ring.n
 bk:q.bk<:+p.bk
theorem wR.refl (p:dC):wR p p:=⟨rfl,rfl,rfl,.refl _,.refl _,.refl _,List.suffix_refl _⟩
theorem wR.trans {p q r:dC} (h:wR p q) (k:wR q r):wR p r:=
 ⟨k.gF.trans h.gF,k.pq.trans h.pq,k.lS.trans h.lS,h.rp.trans k.rp,h.rc.trans k.rc,h.rn.trans k.rn,k.bk.trans h.bk⟩
def nq (ps qs:List dC):Prop:=qs.length=ps.length∧∀(i:Nat) (p:dC),ps[i]? =some p->∃q:dC,qs[i]? =some q∧wR p q
theorem nq.refl (ps:List dC):nq ps ps:=⟨rfl,λ_ p h=>⟨p,h,.refl p⟩⟩
theorem nq.trans {ps qs rs:List dC} (h:nq ps qs) (k:nq qs rs):nq ps rs:=by
 refine⟨k.1.trans h.1,λi p hp=> ?_⟩
 obtain⟨q,hq,h1⟩:=h.2 i p hp
 obtain⟨r,hr,h2⟩:=k.2 i q hq
 exact⟨r,hr,h1.trans h2⟩
theorem nq.set {ps:List dC} {i:Nat} (hi:i<ps.length) {q:dC} (h:wR ps[i] q):nq ps (ps.set i q):=by
 refine⟨by simp,λj p hp=> ?_⟩
 by_cases hj:i=j
 ·subst hj
  rw[gJ hi]at hp
  cases hp
  exact⟨q,by simp[hi],h⟩
 ·exact⟨p,by rw[List.getElem?_set_ne hj];exact hp,.refl p⟩
structure sU (n:Nat) (d:bU) (ps:List dC) (d':bU) (s5:List dC):Prop where
 timers:d'.timers.length≤d.timers.length+n
 aM:d'.aM.length≤d.aM.length+n
 bD:d'.bD=d.bD
 cN:d'.cN=d.cN
 buckets:d'.buckets=d.buckets
 xR:nq ps s5
theorem sU.refl (n:Nat) (d:bU) (ps:List dC):sU n d ps d ps:=⟨by omega,by omega,rfl,rfl,rfl,.refl _⟩
theorem sU.trans {n m:Nat} {d e f:bU} {ps qs rs:List dC} (h:sU n d ps e qs) (k:sU m e qs f rs):sU (n+m) d ps f rs:=
 ⟨by have:=h.timers;have:=k.timers;omega,by have:=h.aM;have:=k.aM;omega,k.bD.trans h.bD,k.cN.trans h.cN,k.buckets.trans h.buckets,h.xR.trans k.xR⟩
theorem sU.mono {n m:Nat} {d e:bU} {ps qs:List dC} (h:sU n d ps e qs) (hn:n≤m):sU m d ps e qs:=
 ⟨by have:=h.timers;omega,by have:=h.aM;omega,h.bD,h.cN,h.buckets,h.xR⟩
end Go.Ab
end Q6s
noncomputable section Q7s
namespace Go.Ab
open Go.Ab
theorem FK {l:List ja} {x:Int} (h:∃s∈l,s.index=x):∃f,∃hf:f<l.length,l[f].index=x∧∀j (hj:j<l.length),j<f->l[j].index≠x:=by
 obtain⟨s,hs,hx⟩:=h
 obtain⟨i,hi,rfl⟩:=List.getElem_of_mem hs
 obtain⟨f,⟨hf,h1⟩,h2⟩:=nD (p:=λi=>∃h:i<l.length,l[i].index=x) ⟨i,hi,hx⟩
 exact⟨f,hf,h1,λj hj hjf e=>h2 j hjf ⟨hj,e⟩⟩
theorem Hy {l:List ja} (hb:∀s∈l,s.index≤1000) (x:Int):∃j:Nat,(∀s∈l,s.index≠x+j)∧(∀i:Nat,i<j->∃s∈l,s.index=x+i):=by
 obtain⟨j,h1,h2⟩:=nD (p:=λj:Nat=>∀s∈l,s.index≠x+j) ⟨(1001-x).toNat,λs hs e=>by have:=hb s hs;omega⟩
 refine⟨j,h1,λi hi=> ?_⟩
 have:=h2 i hi
 simpa using this
theorem Vc {l:List ja} (hl:l.length<32) (hb:∀s∈l,s.index≤1000) {x:Int} (hx0:0≤x) (SQ:x<4294967296) (k:Key) (b:Bool):∃y:Int,bI Pg I.cP [dX l,.int .u32 x,ey k,.bl b] (.tup [dX (qX l ⟨y,k,b⟩),.int .u32 y,.int .i64 0]):=by
 obtain⟨j0,HS,alL⟩:=Hy hb (max x 1)
 have hjb:∀i:Nat,i<j0->max x 1+i≤1000:=λi hi=>by obtain⟨s,hs,e⟩:=alL i hi;have:=hb s hs;omega
 refine⟨max x 1+j0,?_⟩
 generalize hy:max x 1+(j0:Int)=y at*
 refine ah.intro T.cP (by simp[F.cP]) ?_
 have rR:¬(32:Int)≤l.length:=by omega
 simp[F.cP,au,aG,rR]
 refine jx.kl j0 (λ_=>True) [0,1,2,3,6,8,9,10,11] (λi=>[(11,.int .u32 (max x 1+(i:Int)))]) (λi=>[]) [.keep [0,1,2,3,6,8,9,10,11]] ?_
 simp
 refine⟨λi hi K hK=> ?_,λK=> ?_⟩
 ·obtain⟨f,hf,h1,h2⟩:=FK (alL i hi)
  have D9:=hjb i hi
  have hw:IntKind.u32.wrap (max x 1+(i:Int)+1)=max x 1+(i:Int)+1:=wrap_u32 (by omega)
  have hm:max (max x 1+(i:Int)+1) 1=max x 1+((i+1:Nat):Int):=by omega
  simp[↓aA]
  refine al.ret (u0 (by omega) hf h1 h2) (by simp) (by simp) (by simp) ?_
  simp[hw,hm]
  refine⟨[.keep [0,1,2,3,6,8,9,10,11],.dr 12],?_⟩
  simp
  exact hK _ (by simp)
 rw[hy]
 simp[↓aA]
 refine al.ret (rI (by omega) HS) (by simp) (by simp) (by simp) ?_
 simp[↓aA]
 have hp:=yD y l
 have hr:qX l ⟨y,k,b⟩=l.take (ir y l)++[⟨y,k,b⟩]++l.drop (ir y l):=rfl
 refine jx.kl (ir y l) (λ_=>True) [0,3,6,8,9,10,11,14] (λi=>[(14,.int .i64 i)]) (λi=>[]) [.keep [0,3,6,8,9,10,11,14],.dr 12] ?_
 simp
 refine⟨λi hi K hK=> ?_,λK=> ?_⟩
 ·have vA:i<l.length:=by omega
  have hx:l[i]? =some l[i]:=gJ vA
  have he:=Dz y l i vA hi
  simp[↓aA,vA,he,fV vA (by omega)]
  refine⟨[.keep [0,3,6,8,9,10,11,14]],?_⟩
  simp
  exact hK _ (by simp)
 ·by_cases hq:ir y l<l.length
  ·have hx:l[ir y l]? =some l[ir y l]:=gJ hq
   have he:=DA y l hq
   simp[↓aA,↓aA,hq,he,dX,hp]
   refine⟨⟨by omega,by omega⟩,⟨by omega,by omega⟩,⟨by omega,by omega⟩,?_⟩
   refine aL.plain [.keep [8,9,10],.fz 50,.wk 8] ?_
   have h1:min (ir y l) l.length=ir y l:=by omega
   have h2:ir y l+(l.length-ir y l+1)=ir y l+1+(l.length-ir y l):=by omega
   simp[h1,h2,tJ,hr,cI]
  ·simp[↓aA,↓aA,hq,dX,hp]
   refine⟨⟨by omega,by omega⟩,⟨by omega,by omega⟩,⟨by omega,by omega⟩,?_⟩
   refine aL.plain [.keep [8,9,10],.fz 50,.wk 8] ?_
   have h1:min (ir y l) l.length=ir y l:=by omega
   have h2:ir y l+(l.length-ir y l+1)=ir y l+1+(l.length-ir y l):=by omega
   simp[h1,h2,tJ,hr,cI]
theorem OfE (hB8:∀n,∃l:List Int,l.length=8∧qV Pg I.iS [.int .u64 n,.int .i64 8] 1 (iF l)) (hB4:∀n,∃l:List Int,l.length=4∧qV Pg I.iS [.int .u64 n,.int .i64 4] 1 (iF l)) (n:Int):
  ∃l:List Int,l.length=12∧bI Pg I.ed [.int .i64 n] (.ar 1 12 (iF l)):=by
 by_cases h:n<0∨1099511627776<n
 ·refine⟨List.replicate 12 0,by simp,?_⟩
  refine ah.intro T.ed (by simp[F.ed]) ?_
  by_cases h0:n<0
  ·simp[F.ed,au,aG,h0]
   refine aL.plain [] ?_
   simp[gC,iF]
  ·have h1:1099511627776<n:=by omega
   simp[F.ed,au,aG,h0,h1]
   refine aL.plain [] ?_
   simp[gC,iF]
 ·have h0:¬n<0:=by omega
  have h1:¬1099511627776<n:=by omega
  obtain⟨a,ha,hA⟩:=hB8 (IntKind.u64.wrap (4611686018427387914+IntKind.u64.wrap (IntKind.i64.wrap (n.tdiv 1000))))
  obtain⟨b,hb,hB⟩:=hB4 (IntKind.u64.wrap (IntKind.u64.wrap (n.tmod 1000)*1000000))
  refine⟨a++b,by simp[ha,hb],?_⟩
  refine ah.intro T.ed (by simp[F.ed]) ?_
  simp[F.ed,au,aG,h0,h1]
  refine a8.ret (hA.gh (gM a)) (by simp) (by simp) (by simp) ?_
  have e1:(iF a).take 8=iF a:=tJ (by simp[ha])
  have e2:(iF b).take 4=iF b:=tJ (by simp[hb])
  simp[gC,ha,e1]
  refine a8.ret (hB.gh (gM b)) (by simp) (by simp) (by simp) ?_
  simp[ha,hb,e2,List.drop_append]
  refine aL.plain [] ?_
  simp[iF]
  omega
end Go.Ab
end Q7s
noncomputable section Q4s
namespace Go.Ab
open Go.Ab
theorem Hz:∀ {L:List PV},kR (.i .u8) L=true->bH (uL .u8 L.length) L
 |[],_=>by simp[uL,bH]
 |
  x::L,h=>by
  simp only[kR,aJ]at h
  have hx:=h.1
  cases x<;>simp[Ab.fits]at hx
  subst hx
  have ih:=Hz h.2
  simp only[List.length_cons,uL,List.replicate_succ,bH,gm]
  exact⟨⟨trivial,by simp⟩,ih⟩
theorem qL {p:PV} (hp:fits jJ p=true):gm (uA .u8 32) p:=by
 cases p<;>simp[Ab.fits]at hp
 rename_i sz m L
 obtain⟨⟨h1,h2,h3⟩,h4⟩:=hp
 have e:sz=1:=by simpa[qf]using h1
 subst e h2
 simp only[uA,gm]
 refine⟨⟨trivial,trivial⟩,?_⟩
 have:=Hz h4
 rwa [h3]at this
theorem HA (v:FV jJ):∃l:List Int,l.length=32∧v.p= .ar 1 32 (iF l):=mN (qL v.ok)
theorem yF:∀l:List Int,kR (.i .u8) (iF l)=true
 |[]=>rfl
 |x::l=>by simp only[iF,List.map_cons,kR,Ab.fits,aJ];exact⟨by simp,yF l⟩
def keyOf (l:List Int) (h:l.length=32):FV jJ:=⟨.ar 1 32 (iF l),by simp[Ab.fits,qf,h,yF]⟩
theorem R2 {a b:List Int} (ha:a.length=32) (hb:b.length=4):∃x y:FV jJ,qV Pg I.gH [bS a,bS b,.int .i64 2] 32 [x.p,y.p]:=by
 obtain⟨_,m,h1,h2⟩:=afV afT (.head _) [bS a,bS b,.int .i64 2] ⟨ox ha,ox hb,by simp[kI,gm],trivial⟩
 match m,h1 with
 |
  [p,q],h1=>
  obtain⟨x,hx,rfl⟩:=mN h1.1
  obtain⟨y,hy,rfl⟩:=mN h1.2.1
  exact⟨keyOf x hx,keyOf y hy,h2⟩
 |[],h1=>simp[bH]at h1
 |[_],h1=>simp[List.replicate,bH]at h1
 |_::_::_::_,h1=>simp[List.replicate,bH]at h1
theorem RL4 {a:List Int} (ha:a.length=4):∃n:Int,bI Pg I.ia [bS a] (.int .u64 n):=by
 obtain⟨_,v,h1,h2⟩:=S22 z22 (.head _) [bS a] ⟨ox ha,trivial⟩
 cases v<;>simp[uI,gm]at h1
 obtain⟨rfl,_⟩:=h1
 exact⟨_,h2⟩
theorem al.vw {P:Program} {s:St} [iE] {d:Option Nat} {f:FuncId} {k off n N:Nat} {c:jb} {L ys:List PV} {v:PV} {K:St->Prop} {t:Tg K} (hA:bI P f [.sl 1 ys false] v)
  (hb:get s.bx k=some (.box (.ar 1 N L))) (hL:aB L) (hyp:aB ys) (hn:off+n≤N) (Ea:(L.drop off).take n=ys) (hv:Pure v) (qM:qR v=true)
  (h:K ({s with bx:=put s.bx k (.box (.ar 1 N L))}.put d v)):al P s d f [.rs k [] off n 0 1 c] K t:=by
 refine al.view [k] [] [.box (.ar 1 N L)] (fQ:=[.rs KB [] off n 0 1 c]) (jO:=[.box (.ar 1 N L)]) hA (by simp[getAll,hb]) (by simp) (by simp) (by simp[ae,ab,bg,idx]) (by simp[af,ab,hL.refs]) (by simp[aK,aF,aT,idx]) (by simp[a0,aF,hL.aF]) ?_ ?_ ?_
 ·refine⟨.inl (.inr ⟨KB,[],off,n,0,1,c,ys,rfl,?_,hyp.refs _,by omega,rfl⟩),trivial⟩
  simp[aG,Ea,hn]
 ·rintro r new ⟨rfl,rfl⟩
  exact⟨⟨qM,by simp⟩,rfl⟩
 ·rintro r new ⟨rfl,rfl⟩
  simp[hv.aF,hv.refs,af,ab,hL.refs,a0,aF,hL.aF,bC]
  exact h
def sF (d:bU) (r:FV jJ):bU:= {d with random:=r}
theorem NV (v:FV jJ):md v.p=true:=by
 obtain⟨l,_,h⟩:=HA v
 rw[h]
 simp only[md]
 exact DH l
theorem DI (d:bU) (ps:List dC) {L:List PV} (hL:aB L):∃r k:FV jJ,
  ah Pg I.cA [.pt KB [] 0] (MB d ps L) (λx fp=>x=k.p∧fp=MB (sF d r) ps L):=by
 obtain⟨a,ha,hp⟩:=HA d.random
 obtain⟨x,y,hE⟩:=R2 (b:=[100,114,97,119]) ha rfl
 refine⟨x,y,?_⟩
 refine ah.intro T.cA (by simp[F.cA]) ?_
 simp[F.cA,au,aG,MB]
 refine al.view [KB,KB+1,KB+2] [11] (MB d ps L) (fQ:=[.rs KB [Step.f 0 0,Step.f 4 75] 0 32 0 1 .clip,bS [100,114,97,119],.int .i64 2]) (jO:=MB d ps L) hE (by simp[getAll,MB]) (by simp) (by simp) (by simp[ae,ab,bg,idx]) (by simp[MB,af,bg,idx,hL.refs]) (by simp[aK,aF,aT,idx,bS,iF]) (by simp[MB,a0,aT,idx,hL.aF]) ?_ ?_ ?_
 ·refine⟨.inl (.inr ⟨KB,[Step.f 0 0,Step.f 4 75],0,32,0,1,.clip,iF a,rfl,?_,(gM a).refs _,by omega,rfl⟩),.inl (.inl ⟨rfl,(IY _).refs _⟩),.inl (.inl ⟨rfl,by simp[ab]⟩),trivial⟩
  simp[aG,MB,hp]
  exact tJ (by simp[ha])
 ·rintro r new ⟨rfl,rfl⟩
  refine⟨⟨by simp[qR,md],?_⟩,rfl⟩
  simp[B6,ig,NV]
 ·rintro r new ⟨rfl,rfl⟩
  simp[MB,a0,aF,aK,eO,af,ae,fR,bC,hL.refs,hL.aF]
  refine aL.with [] [KB,KB+1,KB+2] ?_
  simp[sF,hL.refs,hL.aF,af]
theorem IZ (d:bU) (ps:List dC) {L:List PV} (hL:aB L):∃(r:FV jJ) (n:Int),(0≤n∧n<4294967296)∧
  ah Pg I.cT [.pt KB [] 0] (MB d ps L) (λx fp=>x= .int .u32 n∧fp=MB (sF d r) ps L):=by
 obtain⟨r,k,hD⟩:=DI d ps hL
 obtain⟨l,hl,hk⟩:=HA k
 obtain⟨n,hR⟩:=RL4 (a:=l.take 4) (by simp[hl])
 refine⟨r,IntKind.u32.wrap n,by constructor<;>simp[IntKind.wrap,IntKind.bits,IntKind.signed]<;>omega,?_⟩
 refine ah.intro T.cT (by simp[F.cT]) ?_
 simp[F.cT,au,aG,MB]
 refine al.mo KB (KB+1) (KB+2) hD (by simp) (by simp) (by simp) (by simp) hL (by simp[ae,ab,bg,idx]) (by simp[aK,aF,aT,idx]) ?_
 rintro x fp ⟨rfl,rfl⟩
 refine⟨_,_,_,rfl,by simp,hL,?_⟩
 simp[hk]
 refine al.vw (N:=32) (ys:=iF (l.take 4)) hR (by simp) (gM l) (gM _) (by omega) (by simp[iF]) (by simp) (by simp[qR,md]) ?_
 simp
 refine aL.with [] [KB,KB+1,KB+2] ?_
 simp[sF,hL.refs,hL.aF,af]
end Go.Ab
end Q4s
