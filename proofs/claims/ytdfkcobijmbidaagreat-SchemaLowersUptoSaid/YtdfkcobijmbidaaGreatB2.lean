/- Copies, sessions, reservations, the reference of rings, codes. No condition. -/
import Derived.Test.YtdfkcobijmbidaaGreatB1
import Derived.Test.YtdfkcobijmbidaaGreatA5
set_option maxRecDepth 10000
set_option maxHeartbeats 4000000
set_option linter.all false
namespace Go.Ab
open Go.Ab
structure uo (d:bK):Prop where
 aj:d.aj.length≤1048576
 bn:d.bn.length≤1048576
 aD:d.aD.length≤1048576
 timers:d.timers.length≤1048576
 bD:d.bD.length≤1048576
 buckets:d.buckets.length≤1048576
 aW:∀p∈d.aj,p.aW.length≤1048576∧∀b∈p.aW,b.length≤1048576
theorem qF {f:FuncId} {sz bytes:Nat} {z:PV} (ht:kJ Pg [] [] f=some (si sz bytes z).er) (iQ:0<sz) {l:List PV} (hr:aB l) (h:l.length≤1048576) (hb:bytes≤100000):bB Pg f [.sl sz l false] (.sl sz l false):=
 (show sk Pg f [.sl sz l false] sz l from CN ht iQ hr false (Nat.le_trans (Nat.mul_le_mul h hb) (by decide)) (by omega)).gq hr
theorem rC {f:FuncId} {sz bytes:Nat} {z:PV} (ht:kJ Pg [] [] f=some (si sz bytes z).er) (iQ:0<sz) {l:List PV} (hr:aB l) (h:l.length≤1048576) (hb:bytes≤100000):sk Pg f [.sl sz l false] sz l:=
 CN ht iQ hr false (Nat.le_trans (Nat.mul_le_mul h hb) (by decide)) (by omega)
theorem Lf (l:List Int):aB (l.map λn=>PV.int .i64 n):=bR (λ_=>by simp) l
theorem Oh {b:List UInt8} (h:b.length≤1048576):bB Pg I.ff [eN b] (eN b):=
 qF (bytes:=1) T.ff (by omega) (by simp) (by simpa using h) (by omega)
theorem Lg {l:List uk} (h:l.length≤1048576):bB Pg I.cg [dV l] (dV l):=
 qF (bytes:=64) T.cg (by omega) (by simp) (by simpa using h) (by omega)
theorem Lh {l:List fX} (h:l.length≤1048576):bB Pg I.bk [db l] (db l):=
 qF (bytes:=48) T.bk (by omega) (by simp) (by simpa using h) (by omega)
theorem SE {l:List Int} (h:l.length≤1048576):bB Pg I.dL [gz l] (gz l):=
 qF (bytes:=8) T.dL (by omega) (Lf l) (by simpa using h) (by omega)
theorem H7 {l:List BV} (h:l.length≤1048576):bB Pg I.bO [eO l] (eO l):=
 qF (bytes:=40) T.bO (by omega) (by simp) (by simpa using h) (by omega)
theorem Oi {l:List dC} (h:l.length≤1048576):sk Pg I.cC [iw l] 464 (l.map aC):=
 rC (bytes:=808) T.cC (by omega) (by simp) (by simpa using h) (by omega)
theorem Li {l:List (List UInt8)} (h:l.length≤1048576):sk Pg I.eH [gI l] 1 (l.map eN):=
 rC (bytes:=24) T.eH (by omega) (by simp) (by simpa using h) (by omega)
theorem rD {α β:Type} (f:α->β) (l:List α) (i:Nat) (h:i<l.length):(l.map f).set i (f l[i])=l.map f:=by
 rw[←List.map_set,List.set_getElem_self]
theorem jq {l:List (List UInt8)} (h:l.length≤1048576) (hb:∀b∈l,b.length≤1048576):bB Pg I.jq [gI l] (gI l):=by
 refine af.intro T.jq (by simp[F.jq]) ?_
 simp[F.jq,an,aG]
 refine al.own 7 (Li h) (by simp) (by simp) (by simp) (by simp) ?_
 simp
 refine jh.jY l.length (λ_=>True) [3,8,9,10] (λi=>[(10,.int .i64 i)]) (λi=>[]) [.keep [3,8,9,10]] ?_
 simp
 refine⟨λi hi K hK=> ?_,λK=> ?_⟩
 ·have hx:l[i]? =some l[i]:=gJ hi
  simp[↓av,hi]
  refine al.ret (Oh (hb _ (List.getElem_mem hi))) (by simp) (by simp) (by simp) ?_
  simp(disch:=omega) [hi]
  refine⟨[.keep [3,8,9,10]],?_⟩
  simp
  exact hK _ (by simp[rD])
 ·simp[↓av,↓av]
  refine aM.plain [.keep [2],.fz 7,.wk 2] ?_
  simp[gI]
end Go.Ab
noncomputable section D3s
namespace Go.Ab
open Go.Ab
def pl (φ:j9->j9) (q:pq):pq:=if q.has=true then⟨true,φ q.iO⟩else q
def pk (φ:j9->j9) (k:Nat) (p:dC):dC:= {p with ring:=⟨if 0<k then pl φ p.ring.p else p.ring.p,if 1<k then pl φ p.ring.c else p.ring.c,if 2<k then pl φ p.ring.n else p.ring.n⟩}
end Go.Ab
end D3s
noncomputable section D4s
namespace Go.Ab
open Go.Ab
def U64 (n:Int):Prop:=0≤n∧n≤18446744073709551615
def ag1 (r:kN):Prop:=U64 r.p.iO.next∧U64 r.c.iO.next∧U64 r.n.iO.next
structure aAF (d:bK):Prop extends uo d where
 ring:∀p∈d.aj,ag1 p.ring
end Go.Ab
end D4s
noncomputable section D5s
namespace Go.Ab
open Go.Ab
theorem Gm (k sz:Nat) (l0:List PV):∀(l:List PV) (i:Nat) (x:PV),im k sz l0 (l.set i x)=(im k sz l0 l).set i (gq k sz l0 x)
 |[],i,x=>by simp
 |p::l,0,x=>by simp
 |p::l,i+1,x=>by simp[Gm k sz l0 l i x]
@[simp] theorem Qn (k sz:Nat) (l:List PV) (e:dC) (p:PV):gq k sz l (jo e p)=jo e (gq k sz l p):=by
 simp[jo,im]
@[simp] theorem xA (f:Nat->Bool) (e:dC) (p:PV):ab f (jo e p)=ab f p:=by
 have h1:ab f (eF e.gC)=true:=(KZ _).refs f
 have h2:ab f e.shared.p=true:=(FV.pure _).refs f
 have h3:ab f (ji e.ep)=true:=(K1 _).refs f
 have h4:ab f e.pJ.p=true:=(FV.pure _).refs f
 have h5:ab f (jV e.hand)=true:=(K7 _).refs f
 have h6:ab f e.ot.p=true:=(FV.pure _).refs f
 have h7:ab f e.CX.p=true:=(FV.pure _).refs f
 have h8:ab f (ee e.ring)=true:=(K0 _).refs f
 simp[jo,ab,ae]
theorem Cf {l:List dC} {i:Nat} (h:i<l.length) {p:PV} (hp:p=aC l[i]):(l.map aC).set i p=l.map aC:=by
 rw[hp];exact rD aC l i h
theorem bM {d:bK} (h:uo d):af Pg I.bM [dY d] [] (λr fp=>r=br d (.rs KB [] 0 d.aj.length d.aj.length 464 .tip)∧fp=[.arr 464 (d.aj.map aC)]):=by
 refine af.intro T.bM (by simp[F.bM]) ?_
 have hp:=h.aj
 simp(disch:=omega) [F.bM,an,aG,dY,br,iw]
 refine⟨⟨by omega,by omega⟩,?_⟩
 refine jh.jY d.aj.length (λ_=>True) [1,2,13,14] (λi=>[(14,.int .i64 i)]) (λi=>[]) [.keep [1,2,13,14]] ?_
 simp
 refine⟨λi hi K hK=> ?_,λK=> ?_⟩
 ·have hx:d.aj[i]? =some d.aj[i]:=gJ hi
  have hs:=h.aW _ (List.getElem_mem hi)
  obtain⟨m,hm⟩:∃m,d.aj[i].aW=m:=⟨_,rfl⟩
  rw[hm]at hs
  simp[↓av,hi,hm,gI]
  refine jh.jY m.length (λ_=>True) [1,2,3,4,13,14,22,23,24] (λj=>[(4,.rs 4 [] 0 j j 1 .tip),(24,.int .i64 j)]) (λj=>[(4,.arr 1 ((m.take j).map eN))]) [.vt 4 4 1] ?_
  simp
  refine⟨λj hj K2 xY=> ?_,λK2=> ?_⟩
  ·have hy:m[j]? =some m[j]:=gJ hj
   have hb:=hs.2 _ (List.getElem_mem hj)
   have hj':min j m.length=j:=by omega
   simp(disch:=omega) [↓av,hj,eN]
   refine⟨⟨by omega,by omega⟩,⟨by omega,by omega⟩,[.keep [1,2,3,4,13,14,22,23,24],.fz 31],?_⟩
   simp
   exact xY _ (by simp[List.take_add_one,hy,eN])
  ·simp(disch:=omega) [↓av,↓av,hi,↓av]
   refine⟨[.keep [1,2,13,14],.fz 4],?_⟩
   simp
   refine hK _ ?_
   simp[Gm]
   exact Cf hi (by rw[←hm];rfl)
 ·simp[↓av,↓av]
  have hr:=h.bn
  have Dp:=h.aD
  have ht:=h.timers
  have hrc:=h.bD
  have hb:=h.buckets
  refine ny.run [44,47] rfl ?_
  simp(disch:=omega) [dV,cZ,db,gz,eO]
  refine⟨⟨by omega,by omega⟩,⟨by omega,by omega⟩,?_⟩
  refine ny.run [52,55] rfl ?_
  simp(disch:=omega)
  refine⟨⟨by omega,by omega⟩,⟨by omega,by omega⟩,⟨by omega,by omega⟩,?_⟩
  refine aM.with [.keep [2],.dr 1,.fz 44,.fz 47,.fz 52,.fz 55,.fz 60] [9] ?_
  simp
def mf (r:kN) (k:Nat):pq:=if k=1 then r.p else if k=2 then r.c else r.n
def xB (r:kN) (k:Nat) (s:j9):kN:=if k=1 then {r with p:=⟨true,s⟩}else if k=2 then {r with c:=⟨true,s⟩}else {r with n:=⟨true,s⟩}
theorem dQ (r:kN) {k:Nat} (h:k=1∨k=2∨k=3):bB Pg I.dQ [ee r,.int .i64 k] (gP (mf r k)):=by
 refine af.intro T.dQ (by simp[F.dQ]) ?_
 rcases h with rfl|rfl|rfl<;>
 ·simp[F.dQ,an,aG]
  refine aM.plain [] ?_
  simp[mf]
end Go.Ab
end D5s
namespace Go.Ab
open Go.Ab
end Go.Ab
noncomputable section E1s
namespace Go.Ab
open Go.Ab
@[simp] theorem ac7:eU 1=[KB]:=rfl
structure qe where
 l:List UInt8
 at_:Nat
def gQ (c:qe):PV:= .st 2 [eN c.l,.int .i64 c.at_]
@[simp] theorem xC (e:qe):Pure (gQ e):=by simp[gQ]
@[simp↓] theorem V2 (e:qe) (r:List Step):aQ (gQ e) (.f 0 0::r)=aQ (eN e.l) r:=by simp[gQ]
@[simp↓] theorem V3 (e:qe) (r:List Step):aQ (gQ e) (.f 1 1::r)=aQ (.int .i64 e.at_) r:=by simp[gQ,az]
@[simp↓] theorem V4 (e:qe) (n:Nat):di (gQ e) [.f 1 1] (.int .i64 n)=some (gQ {e with at_:=n}):=by simp[gQ,az]
structure gK (c:qe):Prop where
 len:c.l.length≤1048576
 at_:c.at_≤c.l.length
theorem H8 (c:qe):af Pg I.dZ [.pt KB [] 0] [.box (gQ c)] (λr fp=>r= .bl (decide (c.at_<c.l.length))∧fp=[.box (gQ c)]):=by
 refine af.intro T.dZ (by simp[F.dZ]) ?_
 simp[F.dZ,an,aG]
 refine aM.with [] [KB] ?_
 simp
def lN (c:qe) (n:Nat):Nat×qe:=if h:c.at_<c.l.length∧1≤n then((c.l[c.at_]'h.1).toNat%n,{c with at_:=c.at_+1})else(0,c)
theorem dF {c:qe} (h:gK c) (n:Nat):gK (lN c n).2:=by
 unfold lN;split
 ·rename_i hh;exact⟨h.len,hh.1⟩
 ·exact h
theorem eI (c:qe) {n:Nat} (h:1≤n):(lN c n).1<n:=by
 unfold lN;split
 ·exact Nat.mod_lt _ h
 ·exact h
theorem bf {c:qe} (h:gK c) (n:Nat) (hn:n≤1048576):af Pg I.au [.pt KB [] 0,.int .i64 n] [.box (gQ c)] (λr fp=>r= .int .i64 (lN c n).1∧fp=[.box (gQ (lN c n).2)]):=by
 refine af.intro T.au (by simp[F.au]) ?_
 have hlen:=h.len
 simp[F.au,an,aG]
 refine al.gen [KB] [] [.box (gQ c)] (H8 c) (by simp[getAll]) (by simp) (by simp) (by simp[ae,ab,bj,idx]) (by simp[ah]) (by simp[aO,aI,aV,idx]) (by simp[aZ]) (by simp[ah,ab]) ?_
 simp[bI,aZ,aI]
 by_cases hl:c.at_<c.l.length
 ·by_cases h1:1≤n
  ·have hw:IntKind.i64.wrap ((c.at_:Int)+1)=((c.at_+1:Nat):Int):=by rw[wrap_i64 (by omega)];rfl
   have hx:c.l[c.at_]? =some c.l[c.at_]:=gJ hl
   have hb:=(c.l[c.at_]).toNat_lt
   have hm:=Nat.mod_le (c.l[c.at_]).toNat n
   have hq:IntKind.i64.wrap (((c.at_+1:Nat):Int)-1)=(c.at_:Int):=by rw[wrap_i64 (by omega)];omega
   have hw3:IntKind.i64.wrap (((c.l[c.at_]).toNat:Int))=((c.l[c.at_]).toNat:Int):=wrap_i64 (by omega)
   have hw4:IntKind.i64.wrap (((c.l[c.at_]).toNat:Int).tmod n)=((c.l[c.at_].toNat%n:Nat):Int):=by
    rw[←Int.ofNat_tmod];exact wrap_i64 (by omega)
   simp[hl,show¬(n:Int)<1 by omega,hw,hq,-Int.natCast_add,-Int.natCast_emod]
   refine⟨λh'=>absurd h' (by omega),λ_=> ?_⟩
   simp only[u8]
   simp[hw3,show¬n=0 by omega]
   refine aM.with [] [KB] ?_
   simp[lN,hl,h1]
   rw[←Int.ofNat_tmod];rfl
  ·have h0:n=0:=by omega
   subst h0
   simp[hl]
   refine aM.with [] [KB] ?_
   simp[lN]
 ·simp[hl]
  intro _
  refine aM.with [] [KB] ?_
  simp[lN,hl]
theorem Br (a b:Nat) (ha:a<4611686018427387904) (hb:b<4611686018427387904):bits .or .i64 (a:Int) (b:Int)=((a|||b:Nat):Int):=by
 have hx:a|||b<2^62:=Nat.or_lt_two_pow (by omega) (by omega)
 have h1:(BitVec.ofInt 64 (a:Int)).toNat=a:=by
  rw[BitVec.ofInt_natCast,BitVec.toNat_ofNat];exact Nat.mod_eq_of_lt (by omega)
 have h2:(BitVec.ofInt 64 (b:Int)).toNat=b:=by
  rw[BitVec.ofInt_natCast,BitVec.toNat_ofNat];exact Nat.mod_eq_of_lt (by omega)
 show IntKind.i64.wrap ((BitVec.ofInt 64 (a:Int)|||BitVec.ofInt 64 (b:Int)).toNat:Int)=_
 rw[BitVec.toNat_or,h1,h2]
 exact wrap_i64 (by omega)
theorem al.yU {P:Program} {s:St} {α:Type} {d:Option Nat} {f:FuncId} {args gy:List PV} {c:qe} {Φ:α->Prop} {r:α->PV} {c':α->qe} {K:St->Prop} {t:Tg K} (k:Nat) (hA:af P f gy [.box (gQ c)] λx fp=>∃w,Φ w∧x=r w∧fp=[.box (gQ (c' w))]) (hb:get s.bx k=some (.box (gQ c)))
  (BT:ae (bj [k]) args=true) (ha:jO (aO (aV [k]) args)=gy) (hr:∀w,Pure (r w)) (h:∀w,Φ w->K ({s with bx:=put s.bx k (.box (gQ (c' w)))}.put d (r w))):al P s d f args K t:=by
 subst ha
 refine⟨[k],[],[.box (gQ c)],_,by simp[getAll,hb],by simp,by simp,BT,by simp[ah],af.Uy (by simpa[aZ,(xC c).aI]using hA),?_⟩
 rintro x fp ⟨w,hw,rfl,rfl⟩
 refine⟨⟨rfl,(hr w).refs _,by simp[ah]⟩,?_⟩
 simpa[bI,aZ,(xC _).aI,(hr w).aI]using h w hw
theorem al.nJ {P:Program} {s:St} {d:Option Nat} {f:FuncId} {args gy:List PV} {c c':qe} {r:PV} {K:St->Prop} {t:Tg K} (k:Nat) (hA:af P f gy [.box (gQ c)] λx fp=>x=r∧fp=[.box (gQ c')]) (hb:get s.bx k=some (.box (gQ c)))
  (BT:ae (bj [k]) args=true) (ha:jO (aO (aV [k]) args)=gy) (hr:Pure r) (h:K ({s with bx:=put s.bx k (.box (gQ c'))}.put d r)):al P s d f args K t:=by
 refine al.gen [k] [] [.box (gQ c)] hA (by simp[getAll,hb]) (by simp) (by simp) BT (by simp[ah]) ha (by simp[aZ]) ⟨rfl,hr.refs _,by simp[ah]⟩ ?_
 simpa[bI,aZ,(xC c').aI,hr.aI]using h
def bool (c:qe):Bool×qe:=(decide ((lN c 2).1=1),(lN c 2).2)
theorem na {c:qe} (h:gK c):af Pg I.bW [.pt KB [] 0] [.box (gQ c)] (λr fp=>r= .bl (bool c).1∧fp=[.box (gQ (bool c).2)]):=by
 refine af.intro T.bW (by simp[F.bW]) ?_
 simp[F.bW,an,aG]
 refine al.nJ KB (bf h 2 (by omega)) (by simp) (by simp[ae,ab,bj,idx]) (by simp[aO,aI,aV,idx]) (by simp) ?_
 simp
 refine aM.with [] [KB] ?_
 simp[bool,ah,aZ]
 omega
theorem C0 {c:qe} (h:gK c) (n:Nat) (hn:n≤16777216) (h1:1≤n):af Pg I.df [.pt KB [] 0,.int .i64 n] [.box (gQ c)] (λr fp=>∃m c',gK c'∧m<n∧r= .int .i64 (m:Nat)∧fp=[.box (gQ c')]):=by
 refine af.intro T.df (by simp[F.df]) ?_
 simp[F.df,an,aG,show¬(n:Int)<1 by omega]
 refine al.nJ KB (bf h 256 (by omega)) (by simp) (by simp[ae,ab,bj,idx]) (by simp[aO,aI,aV,idx]) (by simp) ?_
 have l1:=eI c (n:=256) (by omega)
 have o1:=dF h 256
 generalize lN c 256=a at*
 simp
 refine al.nJ KB (bf o1 256 (by omega)) (by simp) (by simp[ae,ab,bj,idx]) (by simp[aO,aI,aV,idx]) (by simp) ?_
 have l2:=eI a.2 (n:=256) (by omega)
 have o2:=dF o1 256
 generalize lN a.2 256=b at*
 simp
 refine al.nJ KB (bf o2 256 (by omega)) (by simp) (by simp[ae,ab,bj,idx]) (by simp[aO,aI,aV,idx]) (by simp) ?_
 have l3:=eI b.2 (n:=256) (by omega)
 have o3:=dF o2 256
 generalize lN b.2 256=e at*
 simp
 refine⟨by omega,?_⟩
 have w1:IntKind.i64.wrap ((a.1:Int)*2^min 16 IntKind.i64.bits)=((a.1*65536:Nat):Int):=by
  simp[IntKind.bits];rw[wrap_i64 (by omega)]
 have w2:IntKind.i64.wrap ((b.1:Int)*2^min 8 IntKind.i64.bits)=((b.1*256:Nat):Int):=by
  simp[IntKind.bits];rw[wrap_i64 (by omega)]
 have hx:a.1*65536|||b.1*256<2^24:=Nat.or_lt_two_pow (by omega) (by omega)
 have hy:(a.1*65536|||b.1*256)|||e.1<2^24:=Nat.or_lt_two_pow hx (by omega)
 rw[w1,w2,Br _ _ (by omega) (by omega),Br _ _ (by omega) (by omega)]
 generalize (a.1*65536|||b.1*256)|||e.1=m at*
 generalize a.1*65536|||b.1*256=m2 at*
 have ht:((m:Int)).tmod n=((m%n:Nat):Int):=by rw[←Int.ofNat_tmod]
 refine aM.with [] [KB] ?_
 simp[ah,aZ,-Int.natCast_emod]
 exact⟨m%n,e.2,o3,Nat.mod_lt _ (by omega),ht,rfl⟩
end Go.Ab
end E1s
noncomputable section E2s
namespace Go.Ab
open Go.Ab
theorem fG {i n:Nat} (h:i<n) (hn:n≤1048576):IntKind.i64.wrap ((i:Int)+1)=(i:Int)+1:=wrap_i64 (by omega)
theorem Jt (m:Int):∃b:UInt8,PV.int .u8 (IntKind.u8.wrap m)=u8 b:=by
 have h:0≤IntKind.u8.wrap m∧IntKind.u8.wrap m<256:=by
  simp only[IntKind.wrap,IntKind.bits,IntKind.signed];simp;omega
 refine⟨UInt8.ofNat (IntKind.u8.wrap m).toNat,?_⟩
 simp only[u8]
 congr 1
 rw[UInt8.toNat_ofNat']
 omega
def El (f:Nat->UInt8) (n i:Nat):List UInt8:=(List.range n).map λj=>if j<i then f j else 0
@[simp] theorem V5 (f:Nat->UInt8) (n i:Nat):(El f n i).length=n:=by simp[El]
theorem Lj (f:Nat->UInt8) (n:Nat):List.replicate n (PV.int .u8 0)=(El f n 0).map u8:=by
 apply List.ext_getElem<;>simp[El,u8]
theorem Oj (f:Nat->UInt8) (n i:Nat):((El f n i).map u8).set i (u8 (f i))=(El f n (i+1)).map u8:=by
 rw[←List.map_set]
 congr 1
 apply List.ext_getElem
 ·simp
 ·intro j h1 h2
  simp only[El,List.getElem_set,List.getElem_map,List.getElem_range]
  by_cases e:i=j
  ·subst e;simp
  ·simp only[e,if_false]
   by_cases e2:j<i
   ·rw[if_pos e2,if_pos (by omega)]
   ·rw[if_neg e2,if_neg (by omega)]
theorem Gn {c:qe} (h:gK c) (n:Nat) (hn:n≤1048576):af Pg I.dG [.pt KB [] 0,.int .i64 n] [.box (gQ c)] (λr fp=>∃w:List UInt8×qe,(gK w.2∧w.1.length=n)∧r=eN w.1∧fp=[.box (gQ w.2)]):=by
 refine af.intro T.dG (by simp[F.dG]) ?_
 simp[F.dG,an,aG]
 refine⟨⟨by omega,by omega⟩,?_⟩
 refine al.nJ KB (bf h 256 (by omega)) (by simp) (by simp[ae,ab,bj,idx]) (by simp[aO,aI,aV,idx]) (by simp) ?_
 have o1:=dF h 256
 generalize lN c 256=a at*
 simp
 generalize IntKind.i64.wrap (IntKind.i64.wrap (2*↑a.snd.at_)+1)=st
 have hf:∃f:Nat->UInt8,∀i:Nat,PV.int .u8 (IntKind.u8.wrap (IntKind.i64.wrap ((a.1:Int)+IntKind.i64.wrap ((i:Int)*st))))=u8 (f i):=
  ⟨λi=>Classical.choose (Jt _),λi=>Classical.choose_spec (Jt _)⟩
 obtain⟨f,hf⟩:=hf
 rw[Lj f]
 refine jh.jY n (λ_=>True) [0,4,5,6,7,20,21] (λi=>[(21,.int .i64 i)]) (λi=>[(10,.arr 1 ((El f n i).map u8))]) [.keep [0,4,5,6,7,20,21]] ?_
 simp
 refine⟨λi hi K hK=> ?_,λK=> ?_⟩
 ·simp[↓av,hi,hf,fG hi hn]
  refine⟨⟨rfl,rfl⟩,[.keep [0,4,5,6,7,20,21]],?_⟩
  simp
  exact hK _ (by simp[Oj])
 ·simp[↓av,↓av]
  refine aM.with [.keep [4],.fz 10] [KB] ?_
  simp[ah,aZ]
  exact⟨El f n n,a.2,⟨o1,by simp⟩,by rw[tJ (by simp)];rfl,rfl⟩
theorem oE {c:qe} (h:gK c):af Pg I.bP [.pt KB [] 0] [.box (gQ c)] (λr fp=>∃w:Key×qe,gK w.2∧r=eF w.1∧fp=[.box (gQ w.2)]):=by
 refine af.intro T.bP (by simp[F.bP]) ?_
 simp[F.bP,an,aG]
 refine ny.run [KB] rfl ?_
 simp
 refine al.yU KB (Gn h 32 (by omega)) (by simp) (by simp[ae,ab,bj,idx]) (by simp[aO,aI,aV,idx]) (by simp) ?_
 rintro⟨l,c'⟩ ⟨hc,hl⟩
 simp at hc hl
 have EU:l.take 32=l:=tJ (by omega)
 simp[hl,eN]
 have e:PV.ar 1 32 (List.take 32 (List.map u8 l)++List.drop 32 (zr 32 (PV.int .u8 0)))=eF ⟨l,hl⟩:=by
  rw[tJ (by simp[hl]),List.drop_of_length_le (by simp[gX])];simp[eF]
 rw[e]
 refine aM.with [] [KB] ?_
 simp[ah,aZ]
 exact⟨⟨l,hl⟩,c',hc,rfl,rfl⟩
def yz (r:xv):Prop:=1≤r.yT∧r.yT≤r.uj∧r.uj≤18446744073709543423∧1000≤r.ret∧r.ret≤3000∧2000≤r.RL∧r.RL≤6000∧r.cot=30000∧20000≤r.Ob∧r.Ob≤r.lQ∧r.lQ≤100000∧r.ret≤r.att∧r.att≤20*r.ret∧1≤r.load∧r.load≤6∧1≤r.oX∧r.oX≤8
theorem yz.mk' {a b c d e f g i j k:Int} (h1:1≤a) (h2:a≤b) (h3:b≤18446744073709543423) (h4:1000≤f) (h5:f≤3000) (h6:2000≤g) (h7:g≤6000) (h8:20000≤c) (h9:c≤d) (Mh:d≤100000) (T5:f≤e) (QE:e≤20*f) (h13:1≤j) (h14:j≤6) (h15:1≤k) (h16:k≤8) (h17:i=30000:=by rfl):yz ⟨a,b,c,d,e,f,g,i,j,k⟩:=
 ⟨h1,h2,h3,h4,h5,h6,h7,h17,h8,h9,Mh,T5,QE,h13,h14,h15,h16⟩
theorem Gp {c:qe} (h:gK c):af Pg I.dH [.pt KB [] 0] [.box (gQ c)] (λr fp=>∃w:xv×qe,(yz w.1∧gK w.2)∧r=dU w.1∧fp=[.box (gQ w.2)]):=by
 refine af.intro T.dH (by simp[F.dH]) ?_
 simp[F.dH,an,aG]
 refine al.nJ KB (bf h 40 (by omega)) (by simp) (by simp[ae,ab,bj,idx]) (by simp[aO,aI,aV,idx]) (by simp) ?_
 have l0:=eI c (n:=40) (by omega)
 have o0:=dF h 40
 generalize lN c 40=x0 at*
 simp(disch:=omega)
 refine al.nJ KB (bf o0 20 (by omega)) (by simp) (by simp[ae,ab,bj,idx]) (by simp[aO,aI,aV,idx]) (by simp) ?_
 have l1:=eI x0.2 (n:=20) (by omega)
 have o1:=dF o0 20
 generalize lN x0.2 20=x1 at*
 simp(disch:=omega)
 refine al.nJ KB (bf o1 5 (by omega)) (by simp) (by simp[ae,ab,bj,idx]) (by simp[aO,aI,aV,idx]) (by simp) ?_
 have l2:=eI x1.2 (n:=5) (by omega)
 have o2:=dF o1 5
 generalize lN x1.2 5=x2 at*
 simp(disch:=omega)
 refine al.nJ KB (bf o2 5 (by omega)) (by simp) (by simp[ae,ab,bj,idx]) (by simp[aO,aI,aV,idx]) (by simp) ?_
 have l3:=eI x2.2 (n:=5) (by omega)
 have o3:=dF o2 5
 generalize lN x2.2 5=x3 at*
 simp(disch:=omega)
 refine al.nJ KB (bf o3 6 (by omega)) (by simp) (by simp[ae,ab,bj,idx]) (by simp[aO,aI,aV,idx]) (by simp) ?_
 have l4:=eI x3.2 (n:=6) (by omega)
 have o4:=dF o3 6
 generalize lN x3.2 6=x4 at*
 simp(disch:=omega)
 refine al.nJ KB (bf o4 8 (by omega)) (by simp) (by simp[ae,ab,bj,idx]) (by simp[aO,aI,aV,idx]) (by simp) ?_
 have l5:=eI x4.2 (n:=8) (by omega)
 have o5:=dF o4 8
 generalize lN x4.2 8=x5 at*
 simp(disch:=omega)
 refine ny.run [KB] rfl ?_
 simp(disch:=omega)
 refine al.nJ KB (bf o5 60 (by omega)) (by simp) (by simp[ae,ab,bj,idx]) (by simp[aO,aI,aV,idx]) (by simp) ?_
 have l6:=eI x5.2 (n:=60) (by omega)
 have o6:=dF o5 60
 generalize lN x5.2 60=x6 at*
 simp(disch:=omega)
 refine ny.run [KB] rfl ?_
 simp(disch:=omega)
 refine al.nJ KB (bf o6 40 (by omega)) (by simp) (by simp[ae,ab,bj,idx]) (by simp[aO,aI,aV,idx]) (by simp) ?_
 have l7:=eI x6.2 (n:=40) (by omega)
 have o7:=dF o6 40
 generalize lN x6.2 40=x7 at*
 simp(disch:=omega)
 refine ny.run [KB] rfl ?_
 simp(disch:=omega)
 refine al.nJ KB (bf o7 5 (by omega)) (by simp) (by simp[ae,ab,bj,idx]) (by simp[aO,aI,aV,idx]) (by simp) ?_
 have l8:=eI x7.2 (n:=5) (by omega)
 have o8:=dF o7 5
 generalize lN x7.2 5=x8 at*
 simp(disch:=omega)
 refine al.nJ KB (bf o8 4 (by omega)) (by simp) (by simp[ae,ab,bj,idx]) (by simp[aO,aI,aV,idx]) (by simp) ?_
 have l9:=eI x8.2 (n:=4) (by omega)
 have o9:=dF o8 4
 generalize lN x8.2 4=x9 at*
 simp(disch:=omega)
 have hP:∃Q:Int,IntKind.i64.wrap ((1000+(x2.1:Int)*500)*(1+(x8.1:Int)))=Q∧1000+(x2.1:Int)*500≤Q∧Q≤20*(1000+(x2.1:Int)*500):=by
  have hc:x8.1=0∨x8.1=1∨x8.1=2∨x8.1=3∨x8.1=4:=by omega
  rcases hc with h|h|h|h|h<;>rw[h]
  ·exact⟨_,wrap_i64 (by omega),by omega,by omega⟩
  ·exact⟨_,wrap_i64 (by omega),by omega,by omega⟩
  ·exact⟨_,wrap_i64 (by omega),by omega,by omega⟩
  ·exact⟨_,wrap_i64 (by omega),by omega,by omega⟩
  ·exact⟨_,wrap_i64 (by omega),by omega,by omega⟩
 obtain⟨Q,hQ,hQ1,hQ2⟩:=hP
 rw[hQ]
 refine⟨λhz=> ?_,λhz=> ?_⟩
 ·refine aM.with [] [KB] ?_
  simp[ah,aZ]
  exact⟨⟨1152921504606846976,18446744073709543423,20000+(x1.1:Int)*1000,20000+(x1.1:Int)*1000+(x7.1:Int)*1000,Q,1000+(x2.1:Int)*500,2000+(x3.1:Int)*1000,30000,1+(x4.1:Int),1+(x5.1:Int)⟩,x9.2,⟨yz.mk' (by omega) (by omega) (by omega) (by omega) (by omega) (by omega) (by omega) (by omega) (by omega) (by omega) (by omega) (by omega) (by omega) (by omega) (by omega) (by omega),o9⟩,rfl,rfl⟩
 ·refine aM.with [] [KB] ?_
  simp[ah,aZ]
  exact⟨⟨1+(x0.1:Int),1+(x0.1:Int)+(x6.1:Int),20000+(x1.1:Int)*1000,20000+(x1.1:Int)*1000+(x7.1:Int)*1000,Q,1000+(x2.1:Int)*500,2000+(x3.1:Int)*1000,30000,1+(x4.1:Int),1+(x5.1:Int)⟩,x9.2,⟨yz.mk' (by omega) (by omega) (by omega) (by omega) (by omega) (by omega) (by omega) (by omega) (by omega) (by omega) (by omega) (by omega) (by omega) (by omega) (by omega) (by omega),o9⟩,rfl,rfl⟩
end Go.Ab
end E2s
