/- Copies, sessions, reservations, the reference of rings, codes. No condition. -/
import Derived.Test.YtdfkcobijmbidaaGreatB1
import Derived.Test.YtdfkcobijmbidaaGreatA5
set_option maxRecDepth 10000
set_option maxHeartbeats 4000000
set_option linter.all false
namespace Go.Ab
open Go.Ab
structure RJ (d:bU):Prop where
 aj:d.aj.length≤1048576
 bD:d.bD.length≤1048576
 aM:d.aM.length≤1048576
 timers:d.timers.length≤1048576
 cN:d.cN.length≤1048576
 buckets:d.buckets.length≤1048576
 bk:∀p∈d.aj,p.bk.length≤1048576∧∀b∈p.bk,b.length≤1048576
theorem pT {f:FuncId} {sz bytes:Nat} {z:PV} (ht:ka Pg [] [] f=some (rv sz bytes z).er) (iu:0<sz) {l:List PV} (hr:aB l) (h:l.length≤1048576) (hb:bytes≤100000):bI Pg f [.sl sz l false] (.sl sz l false):=
 (show qV Pg f [.sl sz l false] sz l from B3 ht iu hr false (Nat.le_trans (Nat.mul_le_mul h hb) (by decide)) (by omega)).gh hr
theorem qF {f:FuncId} {sz bytes:Nat} {z:PV} (ht:ka Pg [] [] f=some (rv sz bytes z).er) (iu:0<sz) {l:List PV} (hr:aB l) (h:l.length≤1048576) (hb:bytes≤100000):qV Pg f [.sl sz l false] sz l:=
 B3 ht iu hr false (Nat.le_trans (Nat.mul_le_mul h hb) (by decide)) (by omega)
theorem Kh (l:List Int):aB (l.map λn=>PV.int .i64 n):=bZ (λ_=>by simp) l
theorem Ng {b:List UInt8} (h:b.length≤1048576):bI Pg I.eR [eI b] (eI b):=
 pT (bytes:=1) T.eR (by omega) (by simp) (by simpa using h) (by omega)
theorem Ki {l:List vD} (h:l.length≤1048576):bI Pg I.bV [eE l] (eE l):=
 pT (bytes:=64) T.bV (by omega) (by simp) (by simpa using h) (by omega)
theorem Kj {l:List fS} (h:l.length≤1048576):bI Pg I.ba [dA l] (dA l):=
 pT (bytes:=48) T.ba (by omega) (by simp) (by simpa using h) (by omega)
theorem RK {l:List Int} (h:l.length≤1048576):bI Pg I.dB [gU l] (gU l):=
 pT (bytes:=8) T.dB (by omega) (Kh l) (by simpa using h) (by omega)
theorem Hi {l:List IG} (h:l.length≤1048576):bI Pg I.bE [fy l] (fy l):=
 pT (bytes:=40) T.bE (by omega) (by simp) (by simpa using h) (by omega)
theorem Nh {l:List dC} (h:l.length≤1048576):qV Pg I.cg [jT l] 464 (l.map aP):=
 qF (bytes:=808) T.cg (by omega) (by simp) (by simpa using h) (by omega)
theorem Kk {l:List (List UInt8)} (h:l.length≤1048576):qV Pg I.ei [gi l] 1 (l.map eI):=
 qF (bytes:=24) T.ei (by omega) (by simp) (by simpa using h) (by omega)
theorem qG {α β:Type} (f:α->β) (l:List α) (i:Nat) (h:i<l.length):(l.map f).set i (f l[i])=l.map f:=by
 rw[←List.map_set,List.set_getElem_self]
theorem iQ {l:List (List UInt8)} (h:l.length≤1048576) (hb:∀b∈l,b.length≤1048576):bI Pg I.iQ [gi l] (gi l):=by
 refine ah.intro T.iQ (by simp[F.iQ]) ?_
 simp[F.iQ,au,aG]
 refine al.own 7 (Kk h) (by simp) (by simp) (by simp) (by simp) ?_
 simp
 refine jx.kl l.length (λ_=>True) [3,8,9,10] (λi=>[(10,.int .i64 i)]) (λi=>[]) [.keep [3,8,9,10]] ?_
 simp
 refine⟨λi hi K hK=> ?_,λK=> ?_⟩
 ·have hx:l[i]? =some l[i]:=gJ hi
  simp[↓aA,hi]
  refine al.ret (Ng (hb _ (List.getElem_mem hi))) (by simp) (by simp) (by simp) ?_
  simp(disch:=omega) [hi]
  refine⟨[.keep [3,8,9,10]],?_⟩
  simp
  exact hK _ (by simp[qG])
 ·simp[↓aA,↓aA]
  refine aL.plain [.keep [2],.fz 7,.wk 2] ?_
  simp[gi]
end Go.Ab
noncomputable section D3s
namespace Go.Ab
open Go.Ab
def pl (φ:jt->jt) (q:oC):oC:=if q.has=true then⟨true,φ q.ju⟩else q
def pk (φ:jt->jt) (k:Nat) (p:dC):dC:= {p with ring:=⟨if 0<k then pl φ p.ring.p else p.ring.p,if 1<k then pl φ p.ring.c else p.ring.c,if 2<k then pl φ p.ring.n else p.ring.n⟩}
end Go.Ab
end D3s
noncomputable section D4s
namespace Go.Ab
open Go.Ab
def U64 (n:Int):Prop:=0≤n∧n≤18446744073709551615
def afr (r:lB):Prop:=U64 r.p.ju.next∧U64 r.c.ju.next∧U64 r.n.ju.next
structure ay6 (d:bU):Prop extends RJ d where
 ring:∀p∈d.aj,afr p.ring
end Go.Ab
end D4s
noncomputable section D5s
namespace Go.Ab
open Go.Ab
theorem Fv (k sz:Nat) (l0:List PV):∀(l:List PV) (i:Nat) (x:PV),gW k sz l0 (l.set i x)=(gW k sz l0 l).set i (gh k sz l0 x)
 |[],i,x=>by simp
 |p::l,0,x=>by simp
 |p::l,i+1,x=>by simp[Fv k sz l0 l i x]
@[simp] theorem Pp (k sz:Nat) (l:List PV) (e:dC) (p:PV):gh k sz l (jS e p)=jS e (gh k sz l p):=by
 simp[jS,gW]
@[simp] theorem wD (f:Nat->Bool) (e:dC) (p:PV):ab f (jS e p)=ab f p:=by
 have h1:ab f (ey e.gF)=true:=(Kb _).refs f
 have h2:ab f e.shared.p=true:=(FV.pure _).refs f
 have h3:ab f (iU e.ep)=true:=(Kd _).refs f
 have h4:ab f e.rF.p=true:=(FV.pure _).refs f
 have h5:ab f (jD e.hand)=true:=(Ke _).refs f
 have h6:ab f e.pd.p=true:=(FV.pure _).refs f
 have h7:ab f e.Ge.p=true:=(FV.pure _).refs f
 have h8:ab f (fh e.ring)=true:=(Kc _).refs f
 simp[jS,ab,ae]
theorem Bo {l:List dC} {i:Nat} (h:i<l.length) {p:PV} (hp:p=aP l[i]):(l.map aP).set i p=l.map aP:=by
 rw[hp];exact qG aP l i h
theorem dE {d:bU} (h:RJ d):ah Pg I.dE [gO d] [] (λr fp=>r=bO d (.rs KB [] 0 d.aj.length d.aj.length 464 .tip)∧fp=[.arr 464 (d.aj.map aP)]):=by
 refine ah.intro T.dE (by simp[F.dE]) ?_
 have hp:=h.aj
 simp(disch:=omega) [F.dE,au,aG,gO,bO,jT]
 refine⟨⟨by omega,by omega⟩,?_⟩
 refine jx.kl d.aj.length (λ_=>True) [1,2,13,14] (λi=>[(14,.int .i64 i)]) (λi=>[]) [.keep [1,2,13,14]] ?_
 simp
 refine⟨λi hi K hK=> ?_,λK=> ?_⟩
 ·have hx:d.aj[i]? =some d.aj[i]:=gJ hi
  have hs:=h.bk _ (List.getElem_mem hi)
  obtain⟨m,hm⟩:∃m,d.aj[i].bk=m:=⟨_,rfl⟩
  rw[hm]at hs
  simp[↓aA,hi,hm,gi]
  refine jx.kl m.length (λ_=>True) [1,2,3,4,13,14,22,23,24] (λj=>[(4,.rs 4 [] 0 j j 1 .tip),(24,.int .i64 j)]) (λj=>[(4,.arr 1 ((m.take j).map eI))]) [.vt 4 4 1] ?_
  simp
  refine⟨λj hj K2 sX=> ?_,λK2=> ?_⟩
  ·have hy:m[j]? =some m[j]:=gJ hj
   have hb:=hs.2 _ (List.getElem_mem hj)
   have Zp:min j m.length=j:=by omega
   simp(disch:=omega) [↓aA,hj,eI]
   refine⟨⟨by omega,by omega⟩,⟨by omega,by omega⟩,[.keep [1,2,3,4,13,14,22,23,24],.fz 31],?_⟩
   simp
   exact sX _ (by simp[List.take_add_one,hy,eI])
  ·simp(disch:=omega) [↓aA,↓aA,hi,↓aA]
   refine⟨[.keep [1,2,13,14],.fz 4],?_⟩
   simp
   refine hK _ ?_
   simp[Fv]
   exact Bo hi (by rw[←hm];rfl)
 ·simp[↓aA,↓aA]
  have hr:=h.bD
  have DX:=h.aM
  have ht:=h.timers
  have hrc:=h.cN
  have hb:=h.buckets
  refine nj.run [44,47] rfl ?_
  simp(disch:=omega) [eE,dX,dA,gU,fy]
  refine⟨⟨by omega,by omega⟩,⟨by omega,by omega⟩,?_⟩
  refine nj.run [52,55] rfl ?_
  simp(disch:=omega)
  refine⟨⟨by omega,by omega⟩,⟨by omega,by omega⟩,⟨by omega,by omega⟩,?_⟩
  refine aL.with [.keep [2],.dr 1,.fz 44,.fz 47,.fz 52,.fz 55,.fz 60] [9] ?_
  simp
def lf (r:lB) (k:Nat):oC:=if k=1 then r.p else if k=2 then r.c else r.n
def Bp (r:lB) (k:Nat) (s:jt):lB:=if k=1 then {r with p:=⟨true,s⟩}else if k=2 then {r with c:=⟨true,s⟩}else {r with n:=⟨true,s⟩}
theorem dQ (r:lB) {k:Nat} (h:k=1∨k=2∨k=3):bI Pg I.dQ [fh r,.int .i64 k] (iy (lf r k)):=by
 refine ah.intro T.dQ (by simp[F.dQ]) ?_
 rcases h with rfl|rfl|rfl<;>
 ·simp[F.dQ,au,aG]
  refine aL.plain [] ?_
  simp[lf]
end Go.Ab
end D5s
namespace Go.Ab
open Go.Ab
end Go.Ab
noncomputable section E1s
namespace Go.Ab
open Go.Ab
@[simp] theorem abF:eD 1=[KB]:=rfl
structure pr where
 l:List UInt8
 at_:Nat
def gu (c:pr):PV:= .st 2 [eI c.l,.int .i64 c.at_]
@[simp] theorem wE (e:pr):Pure (gu e):=by simp[gu]
@[simp↓] theorem U6 (e:pr) (r:List Step):aQ (gu e) (.f 0 0::r)=aQ (eI e.l) r:=by simp[gu]
@[simp↓] theorem U7 (e:pr) (r:List Step):aQ (gu e) (.f 1 1::r)=aQ (.int .i64 e.at_) r:=by simp[gu,av]
@[simp↓] theorem U8 (e:pr) (n:Nat):dD (gu e) [.f 1 1] (.int .i64 n)=some (gu {e with at_:=n}):=by simp[gu,av]
structure gn (c:pr):Prop where
 len:c.l.length≤1048576
 at_:c.at_≤c.l.length
theorem Hj (c:pr):ah Pg I.dM [.pt KB [] 0] [.box (gu c)] (λr fp=>r= .bl (decide (c.at_<c.l.length))∧fp=[.box (gu c)]):=by
 refine ah.intro T.dM (by simp[F.dM]) ?_
 simp[F.dM,au,aG]
 refine aL.with [] [KB] ?_
 simp
def k9 (c:pr) (n:Nat):Nat×pr:=if h:c.at_<c.l.length∧1≤n then((c.l[c.at_]'h.1).toNat%n,{c with at_:=c.at_+1})else(0,c)
theorem dq {c:pr} (h:gn c) (n:Nat):gn (k9 c n).2:=by
 unfold k9;split
 ·rename_i hh;exact⟨h.len,hh.1⟩
 ·exact h
theorem ej (c:pr) {n:Nat} (h:1≤n):(k9 c n).1<n:=by
 unfold k9;split
 ·exact Nat.mod_lt _ h
 ·exact h
theorem aY {c:pr} (h:gn c) (n:Nat) (hn:n≤1048576):ah Pg I.an [.pt KB [] 0,.int .i64 n] [.box (gu c)] (λr fp=>r= .int .i64 (k9 c n).1∧fp=[.box (gu (k9 c n).2)]):=by
 refine ah.intro T.an (by simp[F.an]) ?_
 have hlen:=h.len
 simp[F.an,au,aG]
 refine al.gen [KB] [] [.box (gu c)] (Hj c) (by simp[getAll]) (by simp) (by simp) (by simp[ae,ab,bg,idx]) (by simp[af]) (by simp[aK,aF,aT,idx]) (by simp[a0]) (by simp[af,ab]) ?_
 simp[bC,a0,aF]
 by_cases hl:c.at_<c.l.length
 ·by_cases h1:1≤n
  ·have hw:IntKind.i64.wrap ((c.at_:Int)+1)=((c.at_+1:Nat):Int):=by rw[wrap_i64 (by omega)];rfl
   have hx:c.l[c.at_]? =some c.l[c.at_]:=gJ hl
   have hb:=(c.l[c.at_]).toNat_lt
   have hm:=Nat.mod_le (c.l[c.at_]).toNat n
   have hq:IntKind.i64.wrap (((c.at_+1:Nat):Int)-1)=(c.at_:Int):=by rw[wrap_i64 (by omega)];omega
   have Zq:IntKind.i64.wrap (((c.l[c.at_]).toNat:Int))=((c.l[c.at_]).toNat:Int):=wrap_i64 (by omega)
   have hw4:IntKind.i64.wrap (((c.l[c.at_]).toNat:Int).tmod n)=((c.l[c.at_].toNat%n:Nat):Int):=by
    rw[←Int.ofNat_tmod];exact wrap_i64 (by omega)
   simp[hl,show¬(n:Int)<1 by omega,hw,hq,-Int.natCast_add,-Int.natCast_emod]
   refine⟨λh'=>absurd h' (by omega),λ_=> ?_⟩
   simp only[u8]
   simp[Zq,show¬n=0 by omega]
   refine aL.with [] [KB] ?_
   simp[k9,hl,h1]
   rw[←Int.ofNat_tmod];rfl
  ·have h0:n=0:=by omega
   subst h0
   simp[hl]
   refine aL.with [] [KB] ?_
   simp[k9]
 ·simp[hl]
  intro _
  refine aL.with [] [KB] ?_
  simp[k9,hl]
theorem Aw (a b:Nat) (ha:a<4611686018427387904) (hb:b<4611686018427387904):bits .or .i64 (a:Int) (b:Int)=((a|||b:Nat):Int):=by
 have hx:a|||b<2^62:=Nat.or_lt_two_pow (by omega) (by omega)
 have h1:(BitVec.ofInt 64 (a:Int)).toNat=a:=by
  rw[BitVec.ofInt_natCast,BitVec.toNat_ofNat];exact Nat.mod_eq_of_lt (by omega)
 have h2:(BitVec.ofInt 64 (b:Int)).toNat=b:=by
  rw[BitVec.ofInt_natCast,BitVec.toNat_ofNat];exact Nat.mod_eq_of_lt (by omega)
 show IntKind.i64.wrap ((BitVec.ofInt 64 (a:Int)|||BitVec.ofInt 64 (b:Int)).toNat:Int)=_
 rw[BitVec.toNat_or,h1,h2]
 exact wrap_i64 (by omega)
theorem al.xQ {P:Program} {s:St} {α:Type} {d:Option Nat} {f:FuncId} {args fQ:List PV} {c:pr} {Φ:α->Prop} {r:α->PV} {c':α->pr} {K:St->Prop} {t:Tg K} (k:Nat) (hA:ah P f fQ [.box (gu c)] λx fp=>∃w,Φ w∧x=r w∧fp=[.box (gu (c' w))]) (hb:get s.bx k=some (.box (gu c)))
  (A2:ae (bg [k]) args=true) (ha:jj (aK (aT [k]) args)=fQ) (hr:∀w,Pure (r w)) (h:∀w,Φ w->K ({s with bx:=put s.bx k (.box (gu (c' w)))}.put d (r w))):al P s d f args K t:=by
 subst ha
 refine⟨[k],[],[.box (gu c)],_,by simp[getAll,hb],by simp,by simp,A2,by simp[af],ah.TN (by simpa[a0,(wE c).aF]using hA),?_⟩
 rintro x fp ⟨w,hw,rfl,rfl⟩
 refine⟨⟨rfl,(hr w).refs _,by simp[af]⟩,?_⟩
 simpa[bC,a0,(wE _).aF,(hr w).aF]using h w hw
theorem al.mR {P:Program} {s:St} {d:Option Nat} {f:FuncId} {args fQ:List PV} {c c':pr} {r:PV} {K:St->Prop} {t:Tg K} (k:Nat) (hA:ah P f fQ [.box (gu c)] λx fp=>x=r∧fp=[.box (gu c')]) (hb:get s.bx k=some (.box (gu c)))
  (A2:ae (bg [k]) args=true) (ha:jj (aK (aT [k]) args)=fQ) (hr:Pure r) (h:K ({s with bx:=put s.bx k (.box (gu c'))}.put d r)):al P s d f args K t:=by
 refine al.gen [k] [] [.box (gu c)] hA (by simp[getAll,hb]) (by simp) (by simp) A2 (by simp[af]) ha (by simp[a0]) ⟨rfl,hr.refs _,by simp[af]⟩ ?_
 simpa[bC,a0,(wE c').aF,hr.aF]using h
def bool (c:pr):Bool×pr:=(decide ((k9 c 2).1=1),(k9 c 2).2)
theorem mA {c:pr} (h:gn c):ah Pg I.bM [.pt KB [] 0] [.box (gu c)] (λr fp=>r= .bl (bool c).1∧fp=[.box (gu (bool c).2)]):=by
 refine ah.intro T.bM (by simp[F.bM]) ?_
 simp[F.bM,au,aG]
 refine al.mR KB (aY h 2 (by omega)) (by simp) (by simp[ae,ab,bg,idx]) (by simp[aK,aF,aT,idx]) (by simp) ?_
 simp
 refine aL.with [] [KB] ?_
 simp[bool,af,a0]
 omega
theorem Cg {c:pr} (h:gn c) (n:Nat) (hn:n≤16777216) (h1:1≤n):ah Pg I.cV [.pt KB [] 0,.int .i64 n] [.box (gu c)] (λr fp=>∃m c',gn c'∧m<n∧r= .int .i64 (m:Nat)∧fp=[.box (gu c')]):=by
 refine ah.intro T.cV (by simp[F.cV]) ?_
 simp[F.cV,au,aG,show¬(n:Int)<1 by omega]
 refine al.mR KB (aY h 256 (by omega)) (by simp) (by simp[ae,ab,bg,idx]) (by simp[aK,aF,aT,idx]) (by simp) ?_
 have l1:=ej c (n:=256) (by omega)
 have o1:=dq h 256
 generalize k9 c 256=a at*
 simp
 refine al.mR KB (aY o1 256 (by omega)) (by simp) (by simp[ae,ab,bg,idx]) (by simp[aK,aF,aT,idx]) (by simp) ?_
 have l2:=ej a.2 (n:=256) (by omega)
 have o2:=dq o1 256
 generalize k9 a.2 256=b at*
 simp
 refine al.mR KB (aY o2 256 (by omega)) (by simp) (by simp[ae,ab,bg,idx]) (by simp[aK,aF,aT,idx]) (by simp) ?_
 have l3:=ej b.2 (n:=256) (by omega)
 have o3:=dq o2 256
 generalize k9 b.2 256=e at*
 simp
 refine⟨by omega,?_⟩
 have w1:IntKind.i64.wrap ((a.1:Int)*2^min 16 IntKind.i64.bits)=((a.1*65536:Nat):Int):=by
  simp[IntKind.bits];rw[wrap_i64 (by omega)]
 have w2:IntKind.i64.wrap ((b.1:Int)*2^min 8 IntKind.i64.bits)=((b.1*256:Nat):Int):=by
  simp[IntKind.bits];rw[wrap_i64 (by omega)]
 have hx:a.1*65536|||b.1*256<2^24:=Nat.or_lt_two_pow (by omega) (by omega)
 have hy:(a.1*65536|||b.1*256)|||e.1<2^24:=Nat.or_lt_two_pow hx (by omega)
 rw[w1,w2,Aw _ _ (by omega) (by omega),Aw _ _ (by omega) (by omega)]
 generalize (a.1*65536|||b.1*256)|||e.1=m at*
 generalize a.1*65536|||b.1*256=m2 at*
 have ht:((m:Int)).tmod n=((m%n:Nat):Int):=by rw[←Int.ofNat_tmod]
 refine aL.with [] [KB] ?_
 simp[af,a0,-Int.natCast_emod]
 exact⟨m%n,e.2,o3,Nat.mod_lt _ (by omega),ht,rfl⟩
end Go.Ab
end E1s
noncomputable section E2s
namespace Go.Ab
open Go.Ab
theorem fV {i n:Nat} (h:i<n) (hn:n≤1048576):IntKind.i64.wrap ((i:Int)+1)=(i:Int)+1:=wrap_i64 (by omega)
theorem II (m:Int):∃b:UInt8,PV.int .u8 (IntKind.u8.wrap m)=u8 b:=by
 have h:0≤IntKind.u8.wrap m∧IntKind.u8.wrap m<256:=by
  simp only[IntKind.wrap,IntKind.bits,IntKind.signed];simp;omega
 refine⟨UInt8.ofNat (IntKind.u8.wrap m).toNat,?_⟩
 simp only[u8]
 congr 1
 rw[UInt8.toNat_ofNat']
 omega
def Dy (f:Nat->UInt8) (n i:Nat):List UInt8:=(List.range n).map λj=>if j<i then f j else 0
@[simp] theorem U9 (f:Nat->UInt8) (n i:Nat):(Dy f n i).length=n:=by simp[Dy]
theorem Kl (f:Nat->UInt8) (n:Nat):List.replicate n (PV.int .u8 0)=(Dy f n 0).map u8:=by
 apply List.ext_getElem<;>simp[Dy,u8]
theorem Ni (f:Nat->UInt8) (n i:Nat):((Dy f n i).map u8).set i (u8 (f i))=(Dy f n (i+1)).map u8:=by
 rw[←List.map_set]
 congr 1
 apply List.ext_getElem
 ·simp
 ·intro j h1 h2
  simp only[Dy,List.getElem_set,List.getElem_map,List.getElem_range]
  by_cases e:i=j
  ·subst e;simp
  ·simp only[e,if_false]
   by_cases e2:j<i
   ·rw[if_pos e2,if_pos (by omega)]
   ·rw[if_neg e2,if_neg (by omega)]
theorem Fw {c:pr} (h:gn c) (n:Nat) (hn:n≤1048576):ah Pg I.dt [.pt KB [] 0,.int .i64 n] [.box (gu c)] (λr fp=>∃w:List UInt8×pr,(gn w.2∧w.1.length=n)∧r=eI w.1∧fp=[.box (gu w.2)]):=by
 refine ah.intro T.dt (by simp[F.dt]) ?_
 simp[F.dt,au,aG]
 refine⟨⟨by omega,by omega⟩,?_⟩
 refine al.mR KB (aY h 256 (by omega)) (by simp) (by simp[ae,ab,bg,idx]) (by simp[aK,aF,aT,idx]) (by simp) ?_
 have o1:=dq h 256
 generalize k9 c 256=a at*
 simp
 generalize IntKind.i64.wrap (IntKind.i64.wrap (2*↑a.snd.at_)+1)=st
 have hf:∃f:Nat->UInt8,∀i:Nat,PV.int .u8 (IntKind.u8.wrap (IntKind.i64.wrap ((a.1:Int)+IntKind.i64.wrap ((i:Int)*st))))=u8 (f i):=
  ⟨λi=>Classical.choose (II _),λi=>Classical.choose_spec (II _)⟩
 obtain⟨f,hf⟩:=hf
 rw[Kl f]
 refine jx.kl n (λ_=>True) [0,4,5,6,7,20,21] (λi=>[(21,.int .i64 i)]) (λi=>[(10,.arr 1 ((Dy f n i).map u8))]) [.keep [0,4,5,6,7,20,21]] ?_
 simp
 refine⟨λi hi K hK=> ?_,λK=> ?_⟩
 ·simp[↓aA,hi,hf,fV hi hn]
  refine⟨⟨rfl,rfl⟩,[.keep [0,4,5,6,7,20,21]],?_⟩
  simp
  exact hK _ (by simp[Ni])
 ·simp[↓aA,↓aA]
  refine aL.with [.keep [4],.fz 10] [KB] ?_
  simp[af,a0]
  exact⟨Dy f n n,a.2,⟨o1,by simp⟩,by rw[tJ (by simp)];rfl,rfl⟩
theorem nV {c:pr} (h:gn c):ah Pg I.bF [.pt KB [] 0] [.box (gu c)] (λr fp=>∃w:Key×pr,gn w.2∧r=ey w.1∧fp=[.box (gu w.2)]):=by
 refine ah.intro T.bF (by simp[F.bF]) ?_
 simp[F.bF,au,aG]
 refine nj.run [KB] rfl ?_
 simp
 refine al.xQ KB (Fw h 32 (by omega)) (by simp) (by simp[ae,ab,bg,idx]) (by simp[aK,aF,aT,idx]) (by simp) ?_
 rintro⟨l,c'⟩ ⟨hc,hl⟩
 simp at hc hl
 have DZ:l.take 32=l:=tJ (by omega)
 simp[hl,eI]
 have e:PV.ar 1 32 (List.take 32 (List.map u8 l)++List.drop 32 (zr 32 (PV.int .u8 0)))=ey ⟨l,hl⟩:=by
  rw[tJ (by simp[hl]),List.drop_of_length_le (by simp[gC])];simp[ey]
 rw[e]
 refine aL.with [] [KB] ?_
 simp[af,a0]
 exact⟨⟨l,hl⟩,c',hc,rfl,rfl⟩
def xr (r:yC):Prop:=1≤r.xP∧r.xP≤r.tz∧r.tz≤18446744073709543423∧1000≤r.ret∧r.ret≤3000∧2000≤r.QX∧r.QX≤6000∧r.cot=30000∧20000≤r.M9∧r.M9≤r.mM∧r.mM≤100000∧r.ret≤r.att∧r.att≤20*r.ret∧1≤r.load∧r.load≤6∧1≤r.oo∧r.oo≤8
theorem xr.mk' {a b c d e f g i j k:Int} (h1:1≤a) (h2:a≤b) (h3:b≤18446744073709543423) (h4:1000≤f) (h5:f≤3000) (h6:2000≤g) (h7:g≤6000) (h8:20000≤c) (h9:c≤d) (h10:d≤100000) (h11:f≤e) (h12:e≤20*f) (h13:1≤j) (h14:j≤6) (h15:1≤k) (h16:k≤8) (h17:i=30000:=by rfl):xr ⟨a,b,c,d,e,f,g,i,j,k⟩:=
 ⟨h1,h2,h3,h4,h5,h6,h7,h17,h8,h9,h10,h11,h12,h13,h14,h15,h16⟩
theorem Fx {c:pr} (h:gn c):ah Pg I.du [.pt KB [] 0] [.box (gu c)] (λr fp=>∃w:yC×pr,(xr w.1∧gn w.2)∧r=eP w.1∧fp=[.box (gu w.2)]):=by
 refine ah.intro T.du (by simp[F.du]) ?_
 simp[F.du,au,aG]
 refine al.mR KB (aY h 40 (by omega)) (by simp) (by simp[ae,ab,bg,idx]) (by simp[aK,aF,aT,idx]) (by simp) ?_
 have l0:=ej c (n:=40) (by omega)
 have o0:=dq h 40
 generalize k9 c 40=x0 at*
 simp(disch:=omega)
 refine al.mR KB (aY o0 20 (by omega)) (by simp) (by simp[ae,ab,bg,idx]) (by simp[aK,aF,aT,idx]) (by simp) ?_
 have l1:=ej x0.2 (n:=20) (by omega)
 have o1:=dq o0 20
 generalize k9 x0.2 20=x1 at*
 simp(disch:=omega)
 refine al.mR KB (aY o1 5 (by omega)) (by simp) (by simp[ae,ab,bg,idx]) (by simp[aK,aF,aT,idx]) (by simp) ?_
 have l2:=ej x1.2 (n:=5) (by omega)
 have o2:=dq o1 5
 generalize k9 x1.2 5=x2 at*
 simp(disch:=omega)
 refine al.mR KB (aY o2 5 (by omega)) (by simp) (by simp[ae,ab,bg,idx]) (by simp[aK,aF,aT,idx]) (by simp) ?_
 have l3:=ej x2.2 (n:=5) (by omega)
 have o3:=dq o2 5
 generalize k9 x2.2 5=x3 at*
 simp(disch:=omega)
 refine al.mR KB (aY o3 6 (by omega)) (by simp) (by simp[ae,ab,bg,idx]) (by simp[aK,aF,aT,idx]) (by simp) ?_
 have l4:=ej x3.2 (n:=6) (by omega)
 have o4:=dq o3 6
 generalize k9 x3.2 6=x4 at*
 simp(disch:=omega)
 refine al.mR KB (aY o4 8 (by omega)) (by simp) (by simp[ae,ab,bg,idx]) (by simp[aK,aF,aT,idx]) (by simp) ?_
 have l5:=ej x4.2 (n:=8) (by omega)
 have o5:=dq o4 8
 generalize k9 x4.2 8=x5 at*
 simp(disch:=omega)
 refine nj.run [KB] rfl ?_
 simp(disch:=omega)
 refine al.mR KB (aY o5 60 (by omega)) (by simp) (by simp[ae,ab,bg,idx]) (by simp[aK,aF,aT,idx]) (by simp) ?_
 have l6:=ej x5.2 (n:=60) (by omega)
 have o6:=dq o5 60
 generalize k9 x5.2 60=x6 at*
 simp(disch:=omega)
 refine nj.run [KB] rfl ?_
 simp(disch:=omega)
 refine al.mR KB (aY o6 40 (by omega)) (by simp) (by simp[ae,ab,bg,idx]) (by simp[aK,aF,aT,idx]) (by simp) ?_
 have l7:=ej x6.2 (n:=40) (by omega)
 have o7:=dq o6 40
 generalize k9 x6.2 40=x7 at*
 simp(disch:=omega)
 refine nj.run [KB] rfl ?_
 simp(disch:=omega)
 refine al.mR KB (aY o7 5 (by omega)) (by simp) (by simp[ae,ab,bg,idx]) (by simp[aK,aF,aT,idx]) (by simp) ?_
 have l8:=ej x7.2 (n:=5) (by omega)
 have o8:=dq o7 5
 generalize k9 x7.2 5=x8 at*
 simp(disch:=omega)
 refine al.mR KB (aY o8 4 (by omega)) (by simp) (by simp[ae,ab,bg,idx]) (by simp[aK,aF,aT,idx]) (by simp) ?_
 have l9:=ej x8.2 (n:=4) (by omega)
 have o9:=dq o8 4
 generalize k9 x8.2 4=x9 at*
 simp(disch:=omega)
 have hP:∃Q:Int,IntKind.i64.wrap ((1000+(x2.1:Int)*500)*(1+(x8.1:Int)))=Q∧1000+(x2.1:Int)*500≤Q∧Q≤20*(1000+(x2.1:Int)*500):=by
  have hc:x8.1=0∨x8.1=1∨x8.1=2∨x8.1=3∨x8.1=4:=by omega
  rcases hc with h|h|h|h|h<;>rw[h]
  ·exact⟨_,wrap_i64 (by omega),by omega,by omega⟩
  ·exact⟨_,wrap_i64 (by omega),by omega,by omega⟩
  ·exact⟨_,wrap_i64 (by omega),by omega,by omega⟩
  ·exact⟨_,wrap_i64 (by omega),by omega,by omega⟩
  ·exact⟨_,wrap_i64 (by omega),by omega,by omega⟩
 obtain⟨Q,hQ,hQ1,hQ2⟩:=hP
 rw[hQ]
 refine⟨λhz=> ?_,λhz=> ?_⟩
 ·refine aL.with [] [KB] ?_
  simp[af,a0]
  exact⟨⟨1152921504606846976,18446744073709543423,20000+(x1.1:Int)*1000,20000+(x1.1:Int)*1000+(x7.1:Int)*1000,Q,1000+(x2.1:Int)*500,2000+(x3.1:Int)*1000,30000,1+(x4.1:Int),1+(x5.1:Int)⟩,x9.2,⟨xr.mk' (by omega) (by omega) (by omega) (by omega) (by omega) (by omega) (by omega) (by omega) (by omega) (by omega) (by omega) (by omega) (by omega) (by omega) (by omega) (by omega),o9⟩,rfl,rfl⟩
 ·refine aL.with [] [KB] ?_
  simp[af,a0]
  exact⟨⟨1+(x0.1:Int),1+(x0.1:Int)+(x6.1:Int),20000+(x1.1:Int)*1000,20000+(x1.1:Int)*1000+(x7.1:Int)*1000,Q,1000+(x2.1:Int)*500,2000+(x3.1:Int)*1000,30000,1+(x4.1:Int),1+(x5.1:Int)⟩,x9.2,⟨xr.mk' (by omega) (by omega) (by omega) (by omega) (by omega) (by omega) (by omega) (by omega) (by omega) (by omega) (by omega) (by omega) (by omega) (by omega) (by omega) (by omega),o9⟩,rfl,rfl⟩
end Go.Ab
end E2s
