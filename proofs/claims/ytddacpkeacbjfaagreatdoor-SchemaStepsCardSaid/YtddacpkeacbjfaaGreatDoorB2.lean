/- Walks of functions, part 2. No condition. -/
import Derived.Test.YtddacpkeacbjfaaGreatDoorB1
import Derived.Laws.BitsAllLaws
set_option maxRecDepth 10000
set_option maxHeartbeats 4000000
set_option linter.all false
noncomputable section
namespace Go.Ab
structure G9 (d:aR):Prop where
 aa:d.aa.length≤1048576
 aX:d.aX.length≤1048576
 aE:d.aE.length≤1048576
 timers:d.timers.length≤1048576
 aY:d.aY.length≤1048576
 buckets:d.buckets.length≤1048576
 aM:∀p∈d.aa,p.aM.length≤1048576∧∀b∈p.aM,b.length≤1048576
def sf {f:FuncId} {sz bytes:Nat} {z:PV} (ht:eI Pg [] [] f=some (ud sz bytes z).er) (fP:0<sz) {l:WG} (hr:aB l) (h:l.length≤1048576) (hb:bytes≤100000):aP Pg f [.sl sz l false] (.sl sz l false):=
 (show uf Pg f [.sl sz l false] sz l from EH ht fP hr false (JgJ (Nat.mul_le_mul h hb) (by decide)) (by omega)).eG hr
def s7 {f:FuncId} {sz bytes:Nat} {z:PV} (ht:eI Pg [] [] f=some (ud sz bytes z).er) (fP:0<sz) {l:WG} (hr:aB l) (h:l.length≤1048576) (hb:bytes≤100000):uf Pg f [.sl sz l false] sz l:=
 EH ht fP hr false (JgJ (Nat.mul_le_mul h hb) (by decide)) (by omega)
def OI (l:WQ):aB (l.map λn=>PV.int .i64 n):=aL (λ_=>by simp) l
def R6 {b:Zz} (h:b.length≤1048576):aP Pg 94 [cy b] (cy b):=
 sf (bytes:=1) (aA R.qW.2) (by omega) (by simp) (by simpa using h) (by omega)
def OJ {l:List sc} (h:l.length≤1048576):aP Pg 49 [cR l] (cR l):=
 sf (bytes:=64) (aA R.mu.2) (by omega) (by simp) (by simpa using h) (by omega)
def OK {l:Wu} (h:l.length≤1048576):aP Pg 51 [bM l] (bM l):=
 sf (bytes:=48) (aA R.ir.2) (by omega) (by simp) (by simpa using h) (by omega)
def XI {l:WQ} (h:l.length≤1048576):aP Pg 52 [ee l] (ee l):=
 sf (bytes:=8) (aA R.qX.2) (by omega) (OI l) (by simpa using h) (by omega)
def KS {l:List vW} (h:l.length≤1048576):aP Pg 53 [dA l] (dA l):=
 sf (bytes:=40) (aA R.lu.2) (by omega) (by simp) (by simpa using h) (by omega)
def R7 {l:Xo} (h:l.length≤1048576):uf Pg 47 [gY l] 464 (l.map aH):=
 s7 (bytes:=808) (aA R.ny.2) (by omega) (by simp) (by simpa using h) (by omega)
def OL {l:List (Zz)} (h:l.length≤1048576):uf Pg 93 [ey l] 1 (l.map cy):=
 s7 (bytes:=24) (aA R.s8.2) (by omega) (by simp) (by simpa using h) (by omega)
def s9 {α β:Type} (f:α->β) (l:List α) (i:Nat) (h:i<l.length):(l.map f).set i (f l[i])=l.map f:=by
 rw[←JeJ,List.set_getElem_self]
def sg {l:List (Zz)} (h:l.length≤1048576) (hb:∀b∈l,b.length≤1048576):aP Pg 48 [ey l] (ey l):=by
 refine ab.intro (aA R.sg.2) (by simp[R.sg]) ?_;simp[R.sg,ah,az];refine aj.own 7 (OL h) (by simp) (by simp) (by simp) (by simp) ?_;simp;refine fa.fN l.length (λ_=>True) [3,8,9,10] (λi=>[(10,.int .i64 i)]) (λi=>[]) [.keep [3,8,9,10]] ?_;simp;refine⟨λi hi K hK=> ?_,λK=> ?_⟩
 ·have hx:l[i]? =some l[i]:=gJ hi;simp[↓an,hi];refine aj.rA (R6 (hb _ (JaJ hi))) ?_;simp(disch:=omega) [hi];refine⟨[.keep [3,8,9,10]],?_⟩;simp;exact hK _ (by simp[s9])
 ·simp[↓an,↓an];refine bj.plain [.keep [2],.fz 7,.wk 2] ?_;simp[ey]
def pl (φ:jx->jx) (q:nU):nU:=if q.has=true then⟨true,φ q.eM⟩else q
def pk (φ:jx->jx) (k:Nat) (p:bE):bE:= {p with ring:=⟨if 0<k then pl φ p.ring.p else p.ring.p,if 1<k then pl φ p.ring.c else p.ring.c,if 2<k then pl φ p.ring.n else p.ring.n⟩}
def U64 (n:Int):Prop:=0≤n∧n≤18446744073709551615
def aqZ (r:lU):Prop:=U64 r.p.eM.next∧U64 r.c.eM.next∧U64 r.n.eM.next
structure aHU (d:aR):Prop extends G9 d where
 ring:∀p∈d.aa,aqZ p.ring
theorem ID (k sz:Nat) (l0:WG):∀(l:WG) (i:Nat) (x:PV),fF k sz l0 (l.set i x)=(fF k sz l0 l).set i (eG k sz l0 x)
 |[],i,x=>by simp
 |p::l,0,x=>by simp
 |p::l,i+1,x=>by simp[ID k sz l0 l i x]
@[simp] def UP (k sz:Nat) (l:WG) (e:bE) (p:PV):eG k sz l (jO e p)=jO e (eG k sz l p):=by
 simp[jO,fF]
@[simp] def zt (f:Nat->Bool) (e:bE) (p:PV):ae f (jO e p)=ae f p:=by
 have h1:ae f (bW e.cK)=true:=(Ow _).refs f;have h2:ae f e.shared.p=true:=(FV.pure _).refs f;have h3:ae f (fc e.ep)=true:=(Oy _).refs f;have h4:ae f e.tF.p=true:=(FV.pure _).refs f;have h5:ae f (ij e.hand)=true:=(Oz _).refs f;have h6:ae f e.kU.p=true:=(FV.pure _).refs f;have h7:ae f e.yy.p=true:=(FV.pure _).refs f;have h8:ae f (dt e.ring)=true:=(Ox _).refs f;simp[jO,ae,al]
def D3 {l:Xo} {i:Nat} (h:i<l.length) {p:PV} (hp:p=aH l[i]):(l.map aH).set i p=l.map aH:=by
 rw[hp];exact s9 aH l i h
def eg {d:aR} (h:G9 d):ab Pg 36 [bN d] [] (λr fp=>r=bq d (.rs KB [] 0 d.aa.length d.aa.length 464 .tip)∧fp=[.arr 464 (d.aa.map aH)]):=by
 refine ab.intro T.eg (by simp[F.eg]) ?_;have hp:=h.aa;simp(disch:=omega) [F.eg,ah,az,bN,bq,gY];refine⟨⟨by omega,by omega⟩,?_⟩;refine fa.fN d.aa.length (λ_=>True) [1,2,13,14] (λi=>[(14,.int .i64 i)]) (λi=>[]) [.keep [1,2,13,14]] ?_;simp;refine⟨λi hi K hK=> ?_,λK=> ?_⟩
 ·have hx:d.aa[i]? =some d.aa[i]:=gJ hi;have hs:=h.aM _ (JaJ hi);obtain⟨m,hm⟩:∃m,d.aa[i].aM=m:=⟨_,rfl⟩
  rw[hm]at hs;simp[↓an,hi,hm,ey];refine fa.fN m.length (λ_=>True) [1,2,3,4,13,14,22,23,24] (λj=>[(4,.rs 4 [] 0 j j 1 .tip),(24,.int .i64 j)]) (λj=>[(4,.arr 1 ((m.take j).map cy))]) [.vt 4 4 1] ?_;simp;refine⟨λj hj K2 yu=> ?_,λK2=> ?_⟩
  ·have hy:m[j]? =some m[j]:=gJ hj;have hb:=hs.2 _ (JaJ hj);have Zm:min j m.length=j:=by omega
   simp(disch:=omega) [↓an,hj,cy];refine⟨⟨by omega,by omega⟩,⟨by omega,by omega⟩,[.keep [1,2,3,4,13,14,22,23,24],.fz 31],?_⟩;simp;exact yu _ (by simp[List.take_add_one,hy,cy])
  ·simp(disch:=omega) [↓an,↓an,hi,↓an];refine⟨[.keep [1,2,13,14],.fz 4],?_⟩;simp;refine hK _ ?_;simp[ID];exact D3 hi (by rw[←hm];rfl)
 ·simp[↓an,↓an];have hr:=h.aX;have xd:=h.aE;have ht:=h.timers;have hrc:=h.aY;have hb:=h.buckets;refine oG.run [44,47] rfl ?_;simp(disch:=omega) [cR,bQ,bM,ee,dA];refine⟨⟨by omega,by omega⟩,⟨by omega,by omega⟩,?_⟩;refine oG.run [52,55] rfl ?_;simp(disch:=omega);refine⟨⟨by omega,by omega⟩,⟨by omega,by omega⟩,⟨by omega,by omega⟩,?_⟩;refine bj.with [.keep [2],.dr 1,.fz 44,.fz 47,.fz 52,.fz 55,.fz 60] [9] ?_;simp
def jC (r:lU) (k:Nat):nU:=if k=1 then r.p else if k=2 then r.c else r.n
def D4 (r:lU) (k:Nat) (s:jx):lU:=if k=1 then {r with p:=⟨true,s⟩}else if k=2 then {r with c:=⟨true,s⟩}else {r with n:=⟨true,s⟩}
def jD (r:lU) {k:Nat} (h:k=1∨k=2∨k=3):aP Pg 151 [dt r,.int .i64 k] (gq (jC r k)):=by
 refine ab.intro (aA R.jD.2) (by simp[R.jD]) ?_;rcases h with rfl|rfl|rfl<;>
 ·simp[R.jD,ah,az];refine bH ?_;simp[jC]
@[simp] theorem aiF:dE 1=[KB]:=rfl
structure ql where
 l:Zz
 at_:Nat
def dV (c:ql):PV:= .st 2 [cy c.l,.int .i64 c.at_]
@[simp] def db (e:ql):Pure (dV e):=by simp[dV]
@[simp↓] theorem abm (e:ql) (r:Zy):aO (dV e) (.f 0 0::r)=aO (cy e.l) r:=by simp[dV]
@[simp↓] theorem abn (e:ql) (r:Zy):aO (dV e) (.f 1 1::r)=aO (.int .i64 e.at_) r:=by simp[dV,au]
@[simp↓] theorem abo (e:ql) (n:Nat):cu (dV e) [.f 1 1] (.int .i64 n)=some (dV {e with at_:=n}):=by simp[dV,au]
structure eC (c:ql):Prop where
 len:c.l.length≤1048576
 at_:c.at_≤c.l.length
def KT (c:ql):ab Pg 35 [.pt KB [] 0] [.box (dV c)] (λr fp=>r= .bl (decide (c.at_<c.l.length))∧fp=[.box (dV c)]):=by
 refine ab.intro (aA R.jP.2) (by simp[R.jP]) ?_;simp[R.jP,ah,az];refine bj.with [] [KB] ?_;simp
def lg (c:ql) (n:Nat):Nat×ql:=if h:c.at_<c.l.length∧1≤n then((c.l[c.at_]'h.1).toNat%n,{c with at_:=c.at_+1})else(0,c)
def cq {c:ql} (h:eC c) (n:Nat):eC (lg c n).2:=by
 unfold lg;split
 ·rename_i hh;exact⟨h.len,hh.1⟩
 ·exact h
def cS (c:ql) {n:Nat} (h:1≤n):(lg c n).1<n:=by
 unfold lg;split
 ·exact Nat.mod_lt _ h
 ·exact h
def aT {c:ql} (h:eC c) (n:Nat) (hn:n≤1048576):ab Pg 15 [.pt KB [] 0,.int .i64 n] [.box (dV c)] (λr fp=>r= .int .i64 (lg c n).1∧fp=[.box (dV (lg c n).2)]):=by
 refine ab.intro (aA R.jQ.2) (by simp[R.jQ]) ?_;have hlen:=h.len;simp[R.jQ,ah,az];refine aj.gA [KB] [] [.box (dV c)] (KT c) (by simp[af]) (by simp[aG]) (by simp[af,ae]) ?_;simp[aQ,aG,aI];by_cases hl:c.at_<c.l.length
 ·by_cases h1:1≤n
  ·have hw:IntKind.i64.wrap ((c.at_:Int)+1)=((c.at_+1:Nat):Int):=by rw[wrap_i64 (by omega)];rfl
   have hx:c.l[c.at_]? =some c.l[c.at_]:=gJ hl;have hb:=(c.l[c.at_]).toNat_lt;have hm:=Nat.mod_le (c.l[c.at_]).toNat n;have hq:IntKind.i64.wrap (((c.at_+1:Nat):Int)-1)=(c.at_:Int):=by rw[wrap_i64 (by omega)];omega
   have hw3:IntKind.i64.wrap (((c.l[c.at_]).toNat:Int))=((c.l[c.at_]).toNat:Int):=wrap_i64 (by omega)
   have hw4:IntKind.i64.wrap (((c.l[c.at_]).toNat:Int).tmod n)=((c.l[c.at_].toNat%n:Nat):Int):=by
    rw[←JoZ];exact wrap_i64 (by omega)
   simp[hl,show¬(n:Int)<1 by omega,hw,hq,-Int.natCast_add,-Int.natCast_emod];refine⟨λh'=>absurd h' (by omega),λ_=> ?_⟩;simp only[u8];simp[hw3,show¬n=0 by omega];refine bj.with [] [KB] ?_;simp[lg,hl,h1];rw[←JoZ];rfl
  ·have h0:n=0:=by omega
   subst h0;simp[hl];refine bj.with [] [KB] ?_;simp[lg]
 ·simp[hl];intro _;refine bj.with [] [KB] ?_;simp[lg,hl]
def wS (a b:Nat) (ha:a<4611686018427387904) (hb:b<4611686018427387904):bits .or .i64 (a:Int) (b:Int)=((a|||b:Nat):Int):=by
 have hx:a|||b<2^62:=Nat.or_lt_two_pow (by omega) (by omega)
 have h1:(BitVec.ofInt 64 (a:Int)).toNat=a:=by
  rw[JlJ,BitVec.toNat_ofNat];exact JkQ (by omega)
 have h2:(BitVec.ofInt 64 (b:Int)).toNat=b:=by
  rw[JlJ,BitVec.toNat_ofNat];exact JkQ (by omega)
 show IntKind.i64.wrap ((BitVec.ofInt 64 (a:Int)|||BitVec.ofInt 64 (b:Int)).toNat:Int)=_;rw[BitVec.toNat_or,h1,h2];exact wrap_i64 (by omega)
def aj.aA8 {P:Program} {s:St} {α:Type} {d:Option Nat} {f:FuncId} {args cC:WG} {c:ql} {Φ:α->Prop} {r:α->PV} {c':α->ql} {K:UD} {t:Tg K} (k:Nat) (hA:ab P f cC [.box (dV c)] λx fp=>∃w,Φ w∧x=r w∧fp=[.box (dV (c' w))]) (hb:get s.bx k=some (.box (dV c)))
  (sr:al (cW [k]) args=true) (ha:gI (bw (bV [k]) args)=cC) (hr:∀w,Pure (r w)) (h:∀w,Φ w->K ({s with bx:=put s.bx k (.box (dV (c' w)))}.put d (r w))):aj P s d f args K t:=by
 subst ha;refine⟨[k],[],[.box (dV c)],_,by simp[getAll,hb],by simp,by simp,sr,by simp[af],ab.ZH (by simpa[aG,(db c).aI]using hA),?_⟩;rintro x fp ⟨w,hw,rfl,rfl⟩;refine⟨⟨rfl,(hr w).refs _,by simp[af]⟩,?_⟩;simpa[aQ,aG,(db _).aI,(hr w).aI]using h w hw
def aj.cds {P:Program} {s:St} {d:Option Nat} {f:FuncId} {args cC:WG} {c c':ql} {r:PV} {K:UD} {t:Tg K} (k:Nat) (hA:ab P f cC [.box (dV c)] λx fp=>x=r∧fp=[.box (dV c')]) (hb:get s.bx k=some (.box (dV c)))
  (sr:al (cW [k]) args=true) (ha:gI (bw (bV [k]) args)=cC) (hr:Pure r) (h:K ({s with bx:=put s.bx k (.box (dV c'))}.put d r)):aj P s d f args K t:=by
 refine aj.gen [k] [] [.box (dV c)] hA (by simp[getAll,hb]) (by simp) (by simp) sr (by simp[af]) ha (by simp[aG]) ⟨rfl,hr.refs _,by simp[af]⟩ ?_;simpa[aQ,aG,(db c').aI,hr.aI]using h
def aj.fj {P:Program} {s:St} {d:Option Nat} {f:FuncId} {args cC:WG} {c c':ql} {r:PV} {K:UD} {t:Tg K} (k:Nat) (hA:ab P f cC [.box (dV c)] λx fp=>x=r∧fp=[.box (dV c')]) (h:K ({s with bx:=put s.bx k (.box (dV c'))}.put d r)) (hb:get s.bx k=some (.box (dV c)):=by simp) (sr:al (cW [k]) args=true:=by simp[al,ae,cW,idx]) (ha:gI (bw (bV [k]) args)=cC:=by simp[bw,aI,bV,idx]) (hr:Pure r:=by simp):aj P s d f args K t:=aj.cds k hA hb sr ha hr h
def aj.tH {P:Program} {s:St} {α:Type} {d:Option Nat} {f:FuncId} {args cC:WG} {c:ql} {Φ:α->Prop} {r:α->PV} {c':α->ql} {K:UD} {t:Tg K} (k:Nat) (hA:ab P f cC [.box (dV c)] λx fp=>∃w,Φ w∧x=r w∧fp=[.box (dV (c' w))]) (h:∀w,Φ w->K ({s with bx:=put s.bx k (.box (dV (c' w)))}.put d (r w))) (hb:get s.bx k=some (.box (dV c)):=by simp) (sr:al (cW [k]) args=true:=by simp[al,ae,cW,idx]) (ha:gI (bw (bV [k]) args)=cC:=by simp[bw,aI,bV,idx]) (hr:∀w,Pure (r w):=by simp):aj P s d f args K t:=aj.aA8 k hA hb sr ha hr h
def bool (c:ql):Bool×ql:=(decide ((lg c 2).1=1),(lg c 2).2)
def nu {c:ql} (h:eC c):ab Pg 12 [.pt KB [] 0] [.box (dV c)] (λr fp=>r= .bl (bool c).1∧fp=[.box (dV (bool c).2)]):=by
 refine ab.intro (aA R.jR.2) (by simp[R.jR]) ?_;simp[R.jR,ah,az];refine aj.fj KB (aT h 2 (by omega)) ?_;simp;refine bj.with [] [KB] ?_;simp[bool,af,aG];omega
def E2 {c:ql} (h:eC c) (n:Nat) (hn:n≤16777216) (h1:1≤n):ab Pg 27 [.pt KB [] 0,.int .i64 n] [.box (dV c)] (λr fp=>∃m c',eC c'∧m<n∧r= .int .i64 (m:Nat)∧fp=[.box (dV c')]):=by
 refine ab.intro (aA R.kb.2) (by simp[R.kb]) ?_;simp[R.kb,ah,az,show¬(n:Int)<1 by omega];refine aj.fj KB (aT h 256 (by omega)) ?_;have l1:=cS c (n:=256) (by omega);have o1:=cq h 256;generalize lg c 256=a at*;simp;refine aj.fj KB (aT o1 256 (by omega)) ?_;have l2:=cS a.2 (n:=256) (by omega);have o2:=cq o1 256;generalize lg a.2 256=b at*;simp;refine aj.fj KB (aT o2 256 (by omega)) ?_;have l3:=cS b.2 (n:=256) (by omega);have o3:=cq o2 256;generalize lg b.2 256=e at*;simp;refine⟨by omega,?_⟩
 have w1:IntKind.i64.wrap ((a.1:Int)*2^min 16 IntKind.i64.bits)=((a.1*65536:Nat):Int):=by
  simp[IntKind.bits];rw[wrap_i64 (by omega)]
 have w2:IntKind.i64.wrap ((b.1:Int)*2^min 8 IntKind.i64.bits)=((b.1*256:Nat):Int):=by
  simp[IntKind.bits];rw[wrap_i64 (by omega)]
 have hx:a.1*65536|||b.1*256<2^24:=Nat.or_lt_two_pow (by omega) (by omega);have hy:(a.1*65536|||b.1*256)|||e.1<2^24:=Nat.or_lt_two_pow hx (by omega);rw[w1,w2,wS _ _ (by omega) (by omega),wS _ _ (by omega) (by omega)];generalize (a.1*65536|||b.1*256)|||e.1=m at*;generalize a.1*65536|||b.1*256=m2 at*;have ht:((m:Int)).tmod n=((m%n:Nat):Int):=by rw[←JoZ]
 refine bj.with [] [KB] ?_;simp[af,aG,-Int.natCast_emod];exact⟨m%n,e.2,o3,Nat.mod_lt _ (by omega),ht,rfl⟩
def cT {i n:Nat} (h:i<n) (hn:n≤1048576):IntKind.i64.wrap ((i:Int)+1)=(i:Int)+1:=wrap_i64 (by omega)
def MN (m:Int):∃b:UInt8,PV.int .u8 (IntKind.u8.wrap m)=u8 b:=by
 have h:0≤IntKind.u8.wrap m∧IntKind.u8.wrap m<256:=by
  simp only[IntKind.wrap,IntKind.bits,IntKind.signed];simp;omega
 refine⟨UInt8.ofNat (IntKind.u8.wrap m).toNat,?_⟩;simp only[u8];congr 1;rw[UInt8.toNat_ofNat'];omega
def Gx (f:Nat->UInt8) (n i:Nat):Zz:=(List.range n).map λj=>if j<i then f j else 0
@[simp] def abp (f:Nat->UInt8) (n i:Nat):(Gx f n i).length=n:=by simp[Gx]
theorem OM (f:Nat->UInt8) (n:Nat):List.replicate n (PV.int .u8 0)=(Gx f n 0).map u8:=by
 apply JmW<;>simp[Gx,u8]
def R8 (f:Nat->UInt8) (n i:Nat):((Gx f n i).map u8).set i (u8 (f i))=(Gx f n (i+1)).map u8:=by
 rw[←JeJ];congr 1;apply JmW
 ·simp
 ·intro j h1 h2;simp only[Gx,List.getElem_set,JnJ,List.getElem_range];by_cases e:i=j
  ·subst e;simp
  ·simp only[e,if_false];by_cases e2:j<i
   ·rw[if_pos e2,if_pos (by omega)]
   ·rw[if_neg e2,if_neg (by omega)]
def IE {c:ql} (h:eC c) (n:Nat) (hn:n≤1048576):ab Pg 55 [.pt KB [] 0,.int .i64 n] [.box (dV c)] (λr fp=>∃w:Zz×ql,(eC w.2∧w.1.length=n)∧r=cy w.1∧fp=[.box (dV w.2)]):=by
 refine ab.intro (aA R.jq.2) (by simp[R.jq]) ?_;simp[R.jq,ah,az];refine⟨⟨by omega,by omega⟩,?_⟩;refine aj.fj KB (aT h 256 (by omega)) ?_;have o1:=cq h 256;generalize lg c 256=a at*;simp;generalize IntKind.i64.wrap (IntKind.i64.wrap (2*↑a.snd.at_)+1)=st
 have hf:∃f:Nat->UInt8,∀i:Nat,PV.int .u8 (IntKind.u8.wrap (IntKind.i64.wrap ((a.1:Int)+IntKind.i64.wrap ((i:Int)*st))))=u8 (f i):=
  ⟨λi=>Classical.choose (MN _),λi=>Classical.choose_spec (MN _)⟩
 obtain⟨f,hf⟩:=hf;rw[OM f];refine fa.fN n (λ_=>True) [0,4,5,6,7,20,21] (λi=>[(21,.int .i64 i)]) (λi=>[(10,.arr 1 ((Gx f n i).map u8))]) [.keep [0,4,5,6,7,20,21]] ?_;simp;refine⟨λi hi K hK=> ?_,λK=> ?_⟩
 ·simp[↓an,hi,hf,cT hi hn];refine⟨⟨rfl,rfl⟩,[.keep [0,4,5,6,7,20,21]],?_⟩;simp;exact hK _ (by simp[R8])
 ·simp[↓an,↓an];refine bj.with [.keep [4],.fz 10] [KB] ?_;simp[af,aG];exact⟨Gx f n n,a.2,⟨o1,by simp⟩,by rw[tJ (by simp)];rfl,rfl⟩
def pr {c:ql} (h:eC c):ab Pg 26 [.pt KB [] 0] [.box (dV c)] (λr fp=>∃w:Key×ql,eC w.2∧r=bW w.1∧fp=[.box (dV w.2)]):=by
 refine ab.intro (aA R.ke.2) (by simp[R.ke]) ?_;simp[R.ke,ah,az];refine oG.run [KB] rfl ?_;simp;refine aj.tH KB (IE h 32 (by omega)) ?_;rintro⟨l,c'⟩ ⟨hc,hl⟩;simp at hc hl;have LL:l.take 32=l:=tJ (by omega);simp[hl,cy]
 have e:PV.ar 1 32 (List.take 32 (List.map u8 l)++List.drop 32 (zr 32 (PV.int .u8 0)))=bW ⟨l,hl⟩:=by
  rw[tJ (by simp[hl]),JiZ (by simp[dh])];simp[bW]
 rw[e];refine bj.with [] [KB] ?_;simp[af,aG];exact⟨⟨l,hl⟩,c',hc,rfl,rfl⟩
def qE (r:yx):Prop:=1≤r.zd∧r.zd≤r.pV∧r.pV≤18446744073709543423∧1000≤r.ret∧r.ret≤3000∧2000≤r.Gi∧r.Gi≤6000∧r.cot=30000∧20000≤r.C1∧r.C1≤r.iP∧r.iP≤100000∧r.ret≤r.att∧r.att≤20*r.ret∧1≤r.load∧r.load≤6∧1≤r.fU∧r.fU≤8
theorem qE.mk' {a b c d e f g i j k:Int} (h1:1≤a) (h2:a≤b) (h3:b≤18446744073709543423) (h4:1000≤f) (h5:f≤3000) (h6:2000≤g) (h7:g≤6000) (h8:20000≤c) (h9:c≤d) (h10:d≤100000) (h11:f≤e) (h12:e≤20*f) (h13:1≤j) (h14:j≤6) (h15:1≤k) (h16:k≤8) (h17:i=30000:=by rfl):qE ⟨a,b,c,d,e,f,g,i,j,k⟩:=
 ⟨h1,h2,h3,h4,h5,h6,h7,h17,h8,h9,h10,h11,h12,h13,h14,h15,h16⟩
def Iz {c:ql} (h:eC c):ab Pg 25 [.pt KB [] 0] [.box (dV c)] (λr fp=>∃w:yx×ql,(qE w.1∧eC w.2)∧r=cQ w.1∧fp=[.box (dV w.2)]):=by
 refine ab.intro T.eD (by simp[F.eD]) ?_;simp[F.eD,ah,az];refine aj.fj KB (aT h 40 (by omega)) ?_;have l0:=cS c (n:=40) (by omega);have o0:=cq h 40;generalize lg c 40=x0 at*;simp(disch:=omega);refine aj.fj KB (aT o0 20 (by omega)) ?_;have l1:=cS x0.2 (n:=20) (by omega);have o1:=cq o0 20;generalize lg x0.2 20=x1 at*;simp(disch:=omega);refine aj.fj KB (aT o1 5 (by omega)) ?_;have l2:=cS x1.2 (n:=5) (by omega);have o2:=cq o1 5;generalize lg x1.2 5=x2 at*;simp(disch:=omega);refine aj.fj KB (aT o2 5 (by omega)) ?_;have l3:=cS x2.2 (n:=5) (by omega);have o3:=cq o2 5;generalize lg x2.2 5=x3 at*;simp(disch:=omega);refine aj.fj KB (aT o3 6 (by omega)) ?_;have l4:=cS x3.2 (n:=6) (by omega);have o4:=cq o3 6;generalize lg x3.2 6=x4 at*;simp(disch:=omega);refine aj.fj KB (aT o4 8 (by omega)) ?_;have l5:=cS x4.2 (n:=8) (by omega);have o5:=cq o4 8;generalize lg x4.2 8=x5 at*;simp(disch:=omega);refine oG.run [KB] rfl ?_;simp(disch:=omega);refine aj.fj KB (aT o5 60 (by omega)) ?_;have l6:=cS x5.2 (n:=60) (by omega);have o6:=cq o5 60;generalize lg x5.2 60=x6 at*;simp(disch:=omega);refine oG.run [KB] rfl ?_;simp(disch:=omega);refine aj.fj KB (aT o6 40 (by omega)) ?_;have l7:=cS x6.2 (n:=40) (by omega);have o7:=cq o6 40;generalize lg x6.2 40=x7 at*;simp(disch:=omega);refine oG.run [KB] rfl ?_;simp(disch:=omega);refine aj.fj KB (aT o7 5 (by omega)) ?_;have l8:=cS x7.2 (n:=5) (by omega);have o8:=cq o7 5;generalize lg x7.2 5=x8 at*;simp(disch:=omega);refine aj.fj KB (aT o8 4 (by omega)) ?_;have l9:=cS x8.2 (n:=4) (by omega);have o9:=cq o8 4;generalize lg x8.2 4=x9 at*;simp(disch:=omega)
 have hP:∃Q:Int,IntKind.i64.wrap ((1000+(x2.1:Int)*500)*(1+(x8.1:Int)))=Q∧1000+(x2.1:Int)*500≤Q∧Q≤20*(1000+(x2.1:Int)*500):=by
  have hc:x8.1=0∨x8.1=1∨x8.1=2∨x8.1=3∨x8.1=4:=by omega
  rcases hc with h|h|h|h|h<;>rw[h]
  ·exact⟨_,wrap_i64 (by omega),by omega,by omega⟩
  ·exact⟨_,wrap_i64 (by omega),by omega,by omega⟩
  ·exact⟨_,wrap_i64 (by omega),by omega,by omega⟩
  ·exact⟨_,wrap_i64 (by omega),by omega,by omega⟩
  ·exact⟨_,wrap_i64 (by omega),by omega,by omega⟩
 obtain⟨Q,hQ,hQ1,hQ2⟩:=hP;rw[hQ];refine⟨λhz=> ?_,λhz=> ?_⟩
 ·refine bj.with [] [KB] ?_;simp[af,aG];exact⟨⟨1152921504606846976,18446744073709543423,20000+(x1.1:Int)*1000,20000+(x1.1:Int)*1000+(x7.1:Int)*1000,Q,1000+(x2.1:Int)*500,2000+(x3.1:Int)*1000,30000,1+(x4.1:Int),1+(x5.1:Int)⟩,x9.2,⟨qE.mk' (by omega) (by omega) (by omega) (by omega) (by omega) (by omega) (by omega) (by omega) (by omega) (by omega) (by omega) (by omega) (by omega) (by omega) (by omega) (by omega),o9⟩,rfl,rfl⟩
 ·refine bj.with [] [KB] ?_;simp[af,aG];exact⟨⟨1+(x0.1:Int),1+(x0.1:Int)+(x6.1:Int),20000+(x1.1:Int)*1000,20000+(x1.1:Int)*1000+(x7.1:Int)*1000,Q,1000+(x2.1:Int)*500,2000+(x3.1:Int)*1000,30000,1+(x4.1:Int),1+(x5.1:Int)⟩,x9.2,⟨qE.mk' (by omega) (by omega) (by omega) (by omega) (by omega) (by omega) (by omega) (by omega) (by omega) (by omega) (by omega) (by omega) (by omega) (by omega) (by omega) (by omega),o9⟩,rfl,rfl⟩
theorem Gy:∀l m:Zz,PV.oe (l.map u8) (m.map u8)=decide (l=m)
 |[],[]=>by simp[PV.oe]
 |[],_::_=>by simp[PV.oe]
 |_::_,[]=>by simp[PV.oe]
 |
  a::l,b::m=>by
  have ih:=Gy l m
  simp only[JcQ,PV.oe,ih,u8,PV.beq]
  by_cases h:a=b
  ·subst h;simp
  ·have:¬(a.toNat=b.toNat):=λe=>h (UInt8.toNat_inj.1 e)
   simp[h]
   intro e;exact absurd (by omega) this
def Key.ext' {a b:Key} (h:a.l=b.l):a=b:=by cases a;cases b;simp_all
instance:DecidableEq Key:=λa b=>if h:a.l=b.l then isTrue (Key.ext' h)else isFalse (λe=>h (by rw[e]))
def tG (a b:Key):PV.beq (bW a) (bW b)=decide (a=b):=by
 have:(a=b)↔a.l=b.l:=⟨λe=>by rw[e],Key.ext'⟩
 simp[bW,PV.beq,Gy,this]
def UQ (a b:Key):Bool:=Op.bytesLess a.l b.l
def ej (a b:cZ):Bool:=if a.at_≠b.at_ then decide (a.at_<b.at_)else if a.peer≠b.peer then UQ a.peer b.peer else decide (a.kind<b.kind)
def cE (a b:cZ):aP Pg 57 [bn a,bn b] (.bl (ej a b)):=by
 refine ab.intro (aA R.cE.2) (by simp[R.cE]) ?_;by_cases h1:a.at_=b.at_
 ·by_cases h2:a.peer=b.peer
  ·simp[R.cE,ah,az,h1,h2];refine bH ?_;simp[ej,h1,h2]
  ·simp[R.cE,ah,az,h1,h2,tG];have ta:(a.peer.l.map u8).take 32=a.peer.l.map u8:=tJ (by simp[a.peer.h]);have tb:(b.peer.l.map u8).take 32=b.peer.l.map u8:=tJ (by simp[b.peer.h]);simp[bW,ta,tb];refine bH ?_;simp[ej,UQ,h1,h2]
 ·simp[R.cE,ah,az,h1];refine bH ?_;simp[ej,h1]
def tc (k:Key) (n:Int) (x:cZ):Bool:= !(decide (x.peer=k)&&decide (x.kind=n))
def bI (l:Wu) (k:Key) (n:Int):Wu:=l.filter (tc k n)
def lM {α:Type} (p:α->Bool) {l:List α} {i:Nat} (h:i<l.length):(l.take (i+1)).filter p=(l.take i).filter p++(if p l[i]=true then [l[i]]else []):=by
 rw[JcJ h,JhJ];congr 1;by_cases hk:p l[i]=true<;>simp[hk]
def uz {α:Type} (p:α->Bool) (l:List α) (i:Nat):((l.take i).filter p).length≤i:=by
 have:=JeV p (l.take i);rw[lJ]at this;omega
def eU {l:Wu} (h:l.length≤1048576) (k:Key) (n:Int):aP Pg 56 [bM l,bW k,.int .i64 n] (bM (bI l k n)):=by
 refine ab.intro (aA R.eU.2) (by simp[R.eU]) ?_;simp[R.eU,ah,az,bM];refine fa.fN l.length (λ_=>True) [2,4,6,7,10,11,12] (λi=>[(7,.rs 7 [] 0 ((l.take i).filter (tc k n)).length ((l.take i).filter (tc k n)).length 34 .tip),(12,.int .i64 i)]) (λi=>[(7,.arr 34 (((l.take i).filter (tc k n)).map bn))]) [.vt 7 7 34] ?_;simp;refine⟨λi hi K hK=> ?_,λK=> ?_⟩
 ·have hx:l[i]? =some l[i]:=gJ hi;have hlen:=uz (tc k n) l i;rw[lM _ hi]at hK;generalize (l.take i).filter (tc k n)=out at*;by_cases h1:l[i].peer=k
  ·by_cases h2:l[i].kind=n
   ·simp[↓an,hi,h1,h2,cT hi h];refine⟨[.keep [2,4,6,7,10,11,12],.dr 9],?_⟩;simp[aW,bA,ae,af];exact hK _ (by simp[tc,h1,h2])
   ·simp[↓an,hi,h1,h2,cT hi h];refine⟨⟨by omega,by omega⟩,[.keep [2,4,6,7,10,11,12],.dr 9],?_⟩;simp[aW,bA,ae,af];exact hK _ (by simp[tc,h1,h2])
  ·simp[↓an,hi,h1,tG,cT hi h];refine⟨⟨by omega,by omega⟩,[.keep [2,4,6,7,10,11,12],.dr 9],?_⟩;simp[aW,bA,ae,af];exact hK _ (by simp[tc,h1])
 ·simp[↓an,↓an];refine bj.plain [.keep [6],.fz 7,.wk 6] ?_;simp[bI]
def iu (t:cZ):Wu->Nat
 |[]=>0
 |x::r=>if ej t x=true then 0 else iu t r+1
def im (l:Wu) (t:cZ):Wu:=let r:=bI l t.peer t.kind;r.take (iu t r)++[t]++r.drop (iu t r)
theorem xY (t:cZ):∀l,iu t l≤l.length
 |[]=>JaQ _
 |x::r=>by simp only[iu];split<;>simp;exact xY t r
theorem MO (t:cZ):∀(l:Wu) (i:Nat) (h:i<l.length),i<iu t l->ej t l[i]=false
 |x::r,0,h,hi=>by simp only[iu]at hi;split at hi<;>simp_all
 |
  x::r,i+1,h,hi=>by
  simp only[iu]at hi
  split at hi
  ·omega
  ·simpa using MO t r i (by simpa using h) (by omega)
theorem MP (t:cZ):∀(l:Wu) (h:iu t l<l.length),ej t l[iu t l]=true
 |[],h=>by simp at h
 |
  x::r,h=>by
  simp only[iu]at h⊢
  by_cases hx:ej t x=true
  ·simp[hx]
  ·simp only[hx,fJ,if_false]at h⊢
   simpa using MP t r (by simpa using h)
theorem dI {l:Wu} (h:l.length≤1048575) (t:cZ):aP Pg 30 [bM l,bn t] (bM (im l t)):=by
 refine ab.intro T.dI (by simp[F.dI]) ?_;simp[F.dI,ah,az];refine aj.rA (eU (l:=l) (by omega) t.peer t.kind) ?_;have hle:(bI l t.peer t.kind).length≤l.length:=JeV _ _;have hr:im l t=(bI l t.peer t.kind).take (iu t (bI l t.peer t.kind))++[t]++(bI l t.peer t.kind).drop (iu t (bI l t.peer t.kind)):=rfl;rw[hr];generalize bI l t.peer t.kind=r at*;have hp:=xY t r;simp;refine fa.fN (iu t r) (λ_=>True) [3,4,5,6] (λi=>[(6,.int .i64 i)]) (λi=>[]) [.keep [3,4,5,6]] ?_;simp;refine⟨λi hi K hK=> ?_,λK=> ?_⟩
 ·have hl:i<r.length:=by omega
  have hx:r[i]? =some r[i]:=gJ hl;have hn:=MO t r i hl hi;simp[↓an,hl];refine aK.rA (cE t r[i]) ?_;simp[hn,cT hl (by omega)];refine⟨[.keep [3,4,5,6]],?_⟩;simp;exact hK _ (by simp)
 ·by_cases hq:iu t r<r.length
  ·have hx:r[iu t r]? =some r[iu t r]:=gJ hq;have hn:=MP t r hq;simp[↓an,hq];refine aK.rA (cE t r[iu t r]) ?_;simp[hn];simp[↓an,bM];refine oG.run [33,38] rfl ?_;simp[hp];have Ug:min (1+(r.length-iu t r)) (r.length-iu t r+1)=1+(r.length-iu t r):=by omega
   rw[Ug];refine⟨⟨by omega,by omega⟩,⟨by omega,by omega⟩,⟨by omega,by omega⟩,?_⟩;refine bj.plain [.keep [4],.dr 33,.fz 38,.wk 4] ?_;have h1:min (iu t r) r.length=iu t r:=by omega
   have h2:r.length-iu t r+1=1+(r.length-iu t r):=by omega
   simp[aW,bA,ae,af,h1,h2,tJ]
  ·simp[↓an,hq];simp[bM];refine oG.run [33,38] rfl ?_;simp[hp];have Ug:min (1+(r.length-iu t r)) (r.length-iu t r+1)=1+(r.length-iu t r):=by omega
   rw[Ug];refine⟨⟨by omega,by omega⟩,⟨by omega,by omega⟩,⟨by omega,by omega⟩,?_⟩;refine bj.plain [.keep [4],.dr 33,.fz 38,.wk 4] ?_;have h1:min (iu t r) r.length=iu t r:=by omega
   have h2:r.length-iu t r+1=1+(r.length-iu t r):=by omega
   simp[aW,bA,ae,af,h1,h2,tJ]
def IF {n:Nat} (h:n<2^8):IntKind.u8.wrap (n:Int)=(n:Int):=wrap_u8 (by omega)
def iq (net host:UInt8):iC:=⟨false,[10,net,0,host,0,0,0,0,0,0,0,0,0,0,0,0],rfl⟩
def ed (n h:UInt8):aP Pg 14 [.int .i64 (n.toNat:Int),.int .i64 (h.toNat:Int)] (cV (iq n h)):=by
 refine ab.intro (aA R.ed.2) (by simp[R.ed]) ?_;have h1:=n.toNat_lt;have h2:=h.toNat_lt;simp[R.ed,ah,az,dh,List.replicate,IF h1,IF h2];refine bH ?_;simp[cV,iq,u8]
def v7 (a:iC) (k:Nat):Prop:=∀j,k≤j->j<16->a.ip[j]? =some 0
def vy (n:UInt8):v7 (iq n 0) 2:=by
 intro j h1 h2;simp only[iq];rcases(by omega:j=2∨j=3∨j=4∨j=5∨j=6∨j=7∨j=8∨j=9∨j=10∨j=11∨j=12∨j=13∨j=14∨j=15)with rfl|rfl|rfl|rfl|rfl|rfl|rfl|rfl|rfl|rfl|rfl|rfl|rfl|rfl<;>rfl
def v7.mono {a:iC} {k m:Nat} (h:v7 a k) (hk:k≤m):v7 a m:=λj h1 h2=>h j (by omega) h2
def fo {a:iC} (h:v7 a 4):aP Pg 104 [cV a] (.bl true):=by
 refine ab.intro (aA R.fo.2) (by simp[R.fo]) ?_;simp[R.fo,ah,az];refine fa.fN 12 (λ_=>True) [1,2,6,7,8] (λi=>[(8,.int .i64 i)]) (λi=>[]) [.keep [1,2,6,7,8]] ?_;simp;refine⟨λi hi K hK=> ?_,λK=> ?_⟩
 ·have hx:a.ip[4+i]? =some 0:=h _ (by omega) (by omega);have hw:IntKind.i64.wrap ((i:Int)+1)=(i:Int)+1:=wrap_i64 (by omega);have je:(i:Int)<12:=by omega
  simp[↓an,je,hx,hw,u8];refine⟨[.keep [1,2,6,7,8]],?_⟩;simp;exact hK _ (by simp)
 ·simp[↓an,↓an];refine bH ?_;simp
def ft (a:iC):aP Pg 105 [cV a] (.int .i64 (if a.lV=true then 128 else 32)):=by
 refine ab.intro (aA R.ft.2) (by simp[R.ft]) ?_;by_cases h:a.lV=true
 ·simp[R.ft,ah,az,h];refine bH ?_;simp
 ·simp[R.ft,ah,az,h];refine bH ?_;simp
def aq0 (i:Nat):(i:Int).tmod 8=((i%8:Nat):Int):=by rw[show(8:Int)=((8:Nat):Int) from rfl,←JoZ]
theorem jF {a:iC} {k:Nat} (h:v7 a k) {i:Nat} (hi:8*k≤i) (jv:i<128):aP Pg 106 [cV a,.int .i64 (i:Int)] (.int .u8 0):=by
 refine ab.intro (aA R.jF.2) (by simp[R.jF]) ?_;have hx:a.ip[i/8]? =some 0:=h _ (by omega) (by omega);have hw:IntKind.i64.wrap ((i/8:Nat):Int)=((i/8:Nat):Int):=wrap_i64 (by omega);have xc:IntKind.i64.wrap (7-((i%8:Nat):Int))=((7-i%8:Nat):Int):=by rw[wrap_i64 (by omega)];omega
 have hd:(i:Int).tdiv 8=((i/8:Nat):Int):=by rw[show(8:Int)=((8:Nat):Int) from rfl,←Int.ofNat_tdiv]
 have hb:bits .and .u8 0 1=0:=rfl;simp[R.jF,ah,az,hx,aq0,hw,xc,hd,hb,u8,-Int.natCast_ediv,-Int.natCast_emod,];refine⟨by omega,?_⟩;refine bH ?_;simp
theorem ON (a:iC):xS a (.ar 1 16 (a.ip.map u8))=cV a:=rfl
def R9 {α:Type} {l:List α} {i:Nat} {x:α} (h:l[i]? =some x):l.set i x=l:=by
 apply List.ext_getElem?;intro j;rw[List.getElem?_set];split
 ·rename_i e;subst e;split
  ·exact h.symm
  ·rename_i hl;rw[List.getElem?_eq_none (by omega)]
 ·rfl
def dU {a:iC} (h:v7 a 2):aP Pg 32 [cV a,.int .i64 16] (gW ⟨a,16⟩):=by
 refine ab.intro (aA R.dU.2) (by simp[R.dU]) ?_;simp[R.dU,ah,az];refine fa.fN 112 (λ_=>True) [1,2,4,5] (λi=>[(5,.int .i64 (16+(i:Int)))]) (λi=>[]) [.keep [1,2,4,5]] ?_;simp;refine⟨λi hi K hK=> ?_,λK=> ?_⟩
 ·obtain⟨m,hm⟩:∃m,m=(16+i)/8:=⟨_,rfl⟩
  obtain⟨t,ht⟩:∃t,t=(16+i)%8:=⟨_,rfl⟩
  have hx:a.ip[m]? =some 0:=h _ (by omega) (by omega);have Y0:(a.ip.map u8)[m]? =some (.int .u8 0):=by simp[hx,u8]
  have hw:IntKind.i64.wrap (16+(i:Int)+1)=16+((i:Int)+1):=by rw[wrap_i64 (by omega)];omega
  have hd:IntKind.i64.wrap ((16+(i:Int)).tdiv 8)=(m:Int):=by
   rw[show(16+(i:Int))=((16+i:Nat):Int) by omega,show(8:Int)=((8:Nat):Int) from rfl,←Int.ofNat_tdiv,hm];exact wrap_i64 (by omega)
  have ht':(16+(i:Int)).tmod 8=(t:Int):=by
   rw[show(16+(i:Int))=((16+i:Nat):Int) by omega,show(8:Int)=((8:Nat):Int) from rfl,←JoZ,ht]
  have je:16+(i:Int)<128:=by omega
  have vE:(m:Int)<16:=by omega
  have hb:∀n:Int,bits .andNot .u8 0 n=0:=by
   intro n;simp[bits,BitVec.ofInt]
  simp[↓an,je,Y0,hw,hd,ht',vE,hb];rw[R9 Y0];refine⟨[.keep [1,2,4,5]],?_⟩;simp[ON];exact hK _ (by simp)
 ·simp[↓an,↓an];refine bH ?_;simp[gW]
def fu {a:iC} (h:v7 a 2) (h6:a.lV=false):aP Pg 58 [gW ⟨a,16⟩] (.bl true):=by
 refine ab.intro (aA R.fu.2) (by simp[R.fu]) ?_;simp[R.fu,ah,az];refine aK.rA (fo (h.mono (by omega))) ?_;simp;refine aK.rA (ft a) ?_;simp[h6];refine fa.fN 112 (λ_=>True) [1,2,3] (λi=>[(3,.int .i64 (16+(i:Int)))]) (λi=>[]) [.keep [1,2,3]] ?_;simp;refine⟨λi hi K hK=> ?_,λK=> ?_⟩
 ·have hw:IntKind.i64.wrap (16+(i:Int)+1)=16+((i:Int)+1):=by rw[wrap_i64 (by omega)];omega
  have je:16+(i:Int)<128:=by omega
  have hb:=jF h (i:=16+i) (by omega) (by omega);rw[show((16+i:Nat):Int)=16+(i:Int) by omega]at hb;simp[↓an,je];refine aj.rA hb ?_;simp[hw];refine⟨[.keep [1,2,3]],?_⟩;simp;exact hK _ (by simp)
 ·simp[↓an,↓an];refine bH ?_;simp
def sY (n:UInt8):Ip:=⟨iq n 0,16⟩
def KU {n m:UInt8} (h:n<m):Op.bytesLess (iq n 0).ip (iq m 0).ip=true:=by
 have h':¬m<n:=λe=>absurd (JmJ.1 e) (by have:=JmJ.1 h;omega);simp[iq,Op.bytesLess,h]
def IG {n m:UInt8} (h:n<m):Op.bytesLess (iq m 0).ip (iq n 0).ip=false:=by
 have h':¬m<n:=λe=>absurd (JmJ.1 e) (by have:=JmJ.1 h;omega);simp[iq,Op.bytesLess,h']
def iY (a b:iC) (h1:a.lV=false) (h2:b.lV=false):aP Pg 107 [cV a,cV b] (.bl (Op.bytesLess a.ip b.ip)):=by
 refine ab.intro (aA R.iY.2) (by simp[R.iY]) ?_;have ta:(a.ip.map u8).take 16=a.ip.map u8:=tJ (by simp[a.h]);have tb:(b.ip.map u8).take 16=b.ip.map u8:=tJ (by simp[b.h]);simp[R.iY,ah,az,h1,h2,ta,tb];refine bH ?_;simp
def abq {n m:UInt8} (h:n≠m):PV.beq (cV (iq n 0)) (cV (iq m 0))=false:=by
 have:¬(n.toNat=m.toNat):=λe=>h (UInt8.toNat_inj.1 e);simp[cV,iq,PV.beq,PV.oe,u8];intro e;omega
def eV {n m:UInt8} (h:n≠m):aP Pg 59 [gW (sY n),gW (sY m)] (.bl (Op.bytesLess (iq n 0).ip (iq m 0).ip)):=by
 refine ab.intro (aA R.eV.2) (by simp[R.eV]) ?_;simp[R.eV,ah,az,sY,abq h];refine aj.rA (iY (iq n 0) (iq m 0) rfl rfl) ?_;simp;refine bH ?_;simp
def aq1 {n m:UInt8} (h:n≠m):PV.beq (gW (sY n)) (gW (sY m))=false:=by
 simp[gW,sY,PV.beq,PV.oe,abq h]
def bO {l:List sc} {n:UInt8} (h:∀r∈l,∃m,m<n∧r.rq=sY m) (hl:l.length<16) (k:Key):aP Pg 31 [cR l,gW (sY n),bW k] (.tup [cR (l++[⟨sY n,k⟩]),.int .i64 0]):=by
 refine ab.intro T.bO (by simp[F.bO]) ?_;simp[F.bO,ah,az];refine aj.ret (fu (vy n) rfl) (by simp[sY]) (by simp) (by simp) ?_;simp(disch:=omega) [cR];refine⟨⟨by omega,by omega⟩,?_⟩;refine fa.fN l.length (λ_=>True) [0,4,5,6,7,8,17,18] (λi=>[(18,.int .i64 i)]) (λi=>[]) [.keep [0,4,5,6,7,8,17,18]] ?_;simp;refine⟨λi hi K hK=> ?_,λK=> ?_⟩
 ·have hx:l[i]? =some l[i]:=gJ hi;obtain⟨m,hm,he⟩:=h _ (JaJ hi);have hb:(gW (sY m)).beq (gW (sY n))=false:=aq1 (UInt8.ne_of_lt hm);have hw:IntKind.i64.wrap ((i:Int)+1)=(i:Int)+1:=wrap_i64 (by omega);simp[↓an,hi,he,hb,hw];refine⟨[.keep [0,4,5,6,7,8,17,18]],?_⟩;simp;exact hK _ (by simp)
 ·have AP:¬(16:Int)≤l.length:=by omega
  simp[↓an,↓an,AP];refine fa.fN l.length (λ_=>True) [0,4,5,6,7,8,10] (λi=>[(10,.int .i64 i)]) (λi=>[]) [.keep [0,4,5,6,7,8,10]] ?_;simp;refine⟨λi hi K hK=> ?_,λK=> ?_⟩
  ·have hx:l[i]? =some l[i]:=gJ hi;obtain⟨m,hm,he⟩:=h _ (JaJ hi);have hw:IntKind.i64.wrap ((i:Int)+1)=(i:Int)+1:=wrap_i64 (by omega);have hb:=eV (n:=n) (m:=m) (λe=>UInt8.ne_of_lt hm e.symm);rw[IG hm]at hb;simp[↓an,hi,he];refine aK.rA hb ?_;simp[hw];refine⟨[.keep [0,4,5,6,7,8,10]],?_⟩;simp;exact hK _ (by simp)
  ·simp[↓an,↓an];refine oG.run [61,66] rfl ?_;simp;refine⟨⟨by omega,by omega⟩,?_⟩;refine bj.plain [.keep [6,7],.dr 61,.dr 15,.fz 66,.wk 6] ?_;simp[aW,bA,ae,af,ji]
def zK:Key:=⟨List.replicate 32 0,rfl⟩
def zSl:cG:=⟨0,zK,false⟩
def uw {l:WO} (hl:l.length≤1048576) {x:Int} (h:∀s∈l,s.index≠x):aP Pg 62 [bQ l,.int .u32 x] (.tup [aZ zSl,.bl false]):=by
 refine ab.intro (aA R.en.2) (by simp[R.en]) ?_;simp[R.en,ah,az];refine fa.fN l.length (λ_=>True) [1,4,5,8,9,10] (λi=>[(10,.int .i64 i)]) (λi=>[]) [.keep [1,4,5,8,9,10]] ?_;simp;refine⟨λi hi K hK=> ?_,λK=> ?_⟩
 ·have hx:l[i]? =some l[i]:=gJ hi;have he:=h _ (JaJ hi);simp[↓an,hi,he,cT hi hl];refine⟨[.keep [1,4,5,8,9,10],.dr 7],?_⟩;simp;exact hK _ (by simp)
 ·simp[↓an,↓an];refine bH ?_;simp[aZ,zSl,zK,bW,dh,u8]
def yh {l:WO} (hl:l.length≤1048576) {x:Int} {f:Nat} (hf:f<l.length) (he:l[f].index=x) (h:∀j (hj:j<l.length),j<f->l[j].index≠x):aP Pg 62 [bQ l,.int .u32 x] (.tup [aZ l[f],.bl true]):=by
 refine ab.intro (aA R.en.2) (by simp[R.en]) ?_;simp[R.en,ah,az];refine fa.fN f (λ_=>True) [1,4,5,8,9,10] (λi=>[(10,.int .i64 i)]) (λi=>[]) [.keep [1,4,5,8,9,10]] ?_;simp;refine⟨λi hi K hK=> ?_,λK=> ?_⟩
 ·have jv:i<l.length:=by omega
  have hx:l[i]? =some l[i]:=gJ jv;have he:=h i jv hi;simp[↓an,jv,he,cT jv hl];refine⟨[.keep [1,4,5,8,9,10],.dr 7],?_⟩;simp;exact hK _ (by simp)
 ·have hx:l[f]? =some l[f]:=gJ hf;simp[↓an,hf,he];refine bH ?_;simp
def Jx (x:Int) (s:cG):Bool:=decide (s.index≠x)
def II {l:WO} (h:l.length≤1048576) (x:Int):aP Pg 112 [bQ l,.int .u32 x] (bQ (l.filter (Jx x))):=by
 refine ab.intro (aA R.kf.2) (by simp[R.kf]) ?_;simp[R.kf,ah,az,bQ];refine fa.fN l.length (λ_=>True) [1,4,5,8,9,10] (λi=>[(5,.rs 5 [] 0 ((l.take i).filter (Jx x)).length ((l.take i).filter (Jx x)).length 34 .tip),(10,.int .i64 i)]) (λi=>[(5,.arr 34 (((l.take i).filter (Jx x)).map aZ))]) [.vt 5 5 34] ?_;simp;refine⟨λi hi K hK=> ?_,λK=> ?_⟩
 ·have hx:l[i]? =some l[i]:=gJ hi;have hlen:=uz (Jx x) l i;rw[lM _ hi]at hK;generalize (l.take i).filter (Jx x)=out at*;by_cases h1:l[i].index=x
  ·simp[↓an,hi,h1,cT hi h];refine⟨[.keep [1,4,5,8,9,10],.dr 7],?_⟩;simp[aW,bA,ae,af];exact hK _ (by simp[Jx,h1])
  ·simp[↓an,hi,h1,cT hi h];refine⟨⟨by omega,by omega⟩,[.keep [1,4,5,8,9,10],.dr 7],?_⟩;simp[aW,bA,ae,af];exact hK _ (by simp[Jx,h1])
 ·simp[↓an,↓an];refine bj.plain [.keep [4],.fz 5,.wk 4] ?_;simp
def Sa {d:aR} (hl:d.aa.length≤1048576) {k:Key} {f:Nat} (hf:f<d.aa.length) (he:d.aa[f].cK=k) (h:∀j (hj:j<d.aa.length),j<f->d.aa[j].cK≠k):aP Pg 61 [bN d,bW k] (.int .i64 f):=by
 refine ab.intro (aA R.fZ.2) (by simp[R.fZ]) ?_;simp[R.fZ,ah,az];refine fa.fN f (λ_=>True) [2,3,4,8,9,10] (λi=>[(10,.int .i64 i)]) (λi=>[]) [.keep [2,3,4,8,9,10]] ?_;simp;refine⟨λi hi K hK=> ?_,λK=> ?_⟩
 ·have jv:i<d.aa.length:=by omega
  have hx:d.aa[i]? =some d.aa[i]:=gJ jv;have he:=h i jv hi;simp[↓an,jv,he,tG,cT jv hl];refine⟨[.keep [2,3,4,8,9,10],.dr 6],?_⟩;simp;exact hK _ (by simp)
 ·have hx:d.aa[f]? =some d.aa[f]:=gJ hf;simp[↓an,hf,he];refine bH ?_;simp
def lK (i:Nat):Key:=⟨[UInt8.ofNat (40*(i+1)),9,7]++List.replicate 29 0,rfl⟩
def ie {i:Nat} (h:i<3):aP Pg 28 [.int .i64 i] (bW (lK i)):=by
 refine ab.intro (aA R.ie.2) (by simp[R.ie]) ?_;have hw:IntKind.i64.wrap ((i:Int)+1)=(i:Int)+1:=wrap_i64 (by omega);have xc:IntKind.i64.wrap (40*((i:Int)+1))=40*((i:Int)+1):=wrap_i64 (by omega);have hw3:IntKind.u8.wrap (40*((i:Int)+1))=40*((i:Int)+1):=wrap_u8 (by omega);simp[R.ie,ah,az,dh,List.replicate,hw,xc,hw3];refine bH ?_;have h40:(UInt8.ofNat (40*(i+1))).toNat=40*(i+1):=by simp[UInt8.toNat_ofNat];omega
 simp[bW,lK,u8,List.replicate];omega
def vI (i:Nat):Jt:=⟨⟨false,[192,0,2,UInt8.ofNat (i+1),0,0,0,0,0,0,0,0,0,0,0,0],rfl⟩,1000+i⟩
def kW {i:Nat} (h:i<3):aP Pg 29 [.int .i64 i] (fc (vI i)):=by
 refine ab.intro (aA R.kW.2) (by simp[R.kW]) ?_;have hw:IntKind.i64.wrap ((i:Int)+1)=(i:Int)+1:=wrap_i64 (by omega);have xc:IntKind.i64.wrap (1000+(i:Int))=1000+(i:Int):=wrap_i64 (by omega);have hw3:IntKind.u8.wrap ((i:Int)+1)=(i:Int)+1:=wrap_u8 (by omega);simp[R.kW,ah,az,dh,List.replicate,hw,xc,hw3];refine bH ?_;have h40:(UInt8.ofNat (i+1)).toNat=i+1:=by simp[UInt8.toNat_ofNat];omega
 simp[fc,cV,vI,u8];omega
def gh (x:Int):WO->Nat
 |[]=>0
 |s::r=>if s.index<x then gh x r+1 else 0
def oK (l:WO) (s:cG):WO:=l.take (gh s.index l)++[s]++l.drop (gh s.index l)
theorem BB (x:Int):∀l,gh x l≤l.length
 |[]=>JaQ _
 |s::r=>by simp only[gh];split<;>simp;exact BB x r
theorem Gz (x:Int):∀(l:WO) (i:Nat) (h:i<l.length),i<gh x l->l[i].index<x
 |s::r,0,h,hi=>by simp only[gh]at hi;split at hi<;>simp_all
 |
  s::r,i+1,h,hi=>by
  simp only[gh]at hi
  split at hi
  ·simpa using Gz x r i (by simpa using h) (by omega)
  ·omega
theorem GB (x:Int):∀(l:WO) (h:gh x l<l.length),¬l[gh x l].index<x
 |[],h=>by simp at h
 |
  s::r,h=>by
  simp only[gh]at h⊢
  by_cases hx:s.index<x
  ·simp only[hx,if_true]at h⊢
   simpa using GB x r (by simpa using h)
  ·simp[hx]
theorem Take {l:WO} (hl:l.length<32) {x:Int} (hx1:1≤x) (h:∀s∈l,s.index≠x) (k:Key) (b:Bool):aP Pg 67 [bQ l,.int .u32 x,bW k,.bl b] (.tup [bQ (oK l ⟨x,k,b⟩),.int .u32 x,.int .i64 0]):=by
 refine ab.intro (aA R.gi.2) (by simp[R.gi]) ?_;have AP:¬(32:Int)≤l.length:=by omega
 have hm:max x 1=x:=by omega
 simp[R.gi,ah,az,AP,hm];refine fa.fN 0 (λ_=>True) [0,1,2,3,6,8,9,10,11] (λi=>[]) (λi=>[]) [.keep [0,1,2,3,6,8,9,10,11]] ?_;simp;intro K;simp[↓an];refine aj.rA (uw (by omega) h) ?_;simp[↓an];have hp:=BB x l;have hr:oK l ⟨x,k,b⟩=l.take (gh x l)++[⟨x,k,b⟩]++l.drop (gh x l):=rfl;refine fa.fN (gh x l) (λ_=>True) [0,3,6,8,9,10,11,14] (λi=>[(14,.int .i64 i)]) (λi=>[]) [.keep [0,3,6,8,9,10,11,14],.dr 12] ?_;simp;refine⟨λi hi K hK=> ?_,λK=> ?_⟩
 ·have jv:i<l.length:=by omega
  have hx:l[i]? =some l[i]:=gJ jv;have he:=Gz x l i jv hi;simp[↓an,jv,he,cT jv (by omega)];refine⟨[.keep [0,3,6,8,9,10,11,14]],?_⟩;simp;exact hK _ (by simp)
 ·by_cases hq:gh x l<l.length
  ·have hx:l[gh x l]? =some l[gh x l]:=gJ hq;have he:=GB x l hq;simp[↓an,↓an,hq,he,bQ,hp];refine⟨⟨by omega,by omega⟩,⟨by omega,by omega⟩,⟨by omega,by omega⟩,?_⟩;refine bj.plain [.keep [8,9,10],.fz 50,.wk 8] ?_;have h1:min (gh x l) l.length=gh x l:=by omega
   have h2:gh x l+(l.length-gh x l+1)=gh x l+1+(l.length-gh x l):=by omega
   simp[h1,h2,tJ,hr,aZ]
  ·simp[↓an,↓an,hq,bQ,hp];refine⟨⟨by omega,by omega⟩,⟨by omega,by omega⟩,⟨by omega,by omega⟩,?_⟩;refine bj.plain [.keep [8,9,10],.fz 50,.wk 8] ?_;have h1:min (gh x l) l.length=gh x l:=by omega
   have h2:gh x l+(l.length-gh x l+1)=gh x l+1+(l.length-gh x l):=by omega
   simp[h1,h2,tJ,hr,aZ]
def qF (l:WO):Prop:=(∀(i:Nat) (h:i<l.length),l[i].index≠0)∧∀(i:Nat) (h:i+1<l.length),l[i].index<l[i+1].index
def KV {l:WO} (hl:l.length≤32) (h:qF l):aP Pg 269 [bQ l] (.bl true):=by
 refine ab.intro T.eE (by simp[F.eE]) ?_;simp[F.eE,ah,az];refine fa.fN l.length (λ_=>True) [0,2,5,6,7] (λi=>[(7,.int .i64 i)]) (λi=>[]) [.keep [0,2,5,6,7]] ?_;simp;refine⟨λi hi K hK=> ?_,λK=> ?_⟩
 ·have hx:l[i]? =some l[i]:=gJ hi;have h0:=h.1 i hi;by_cases hz:i=0
  ·subst hz;simp[↓an,hi,h0];refine⟨[.keep [0,2,5,6,7],.dr 4],?_⟩;simp;exact hK _ (by simp)
  ·obtain⟨j,Fs⟩:∃j,i=j+1:=⟨i-1,by omega⟩
   have hj:j<l.length:=by omega
   have hy:l[j]? =some l[j]:=gJ hj;have dx:=h.2 j (by omega);have Bc:¬l[i].index≤l[j].index:=by subst Fs;omega
   have hw:IntKind.i64.wrap ((i:Int)-1)=j:=by rw[wrap_i64 (by omega)];omega
   simp[↓an,hi,hj,h0,hw,Bc,show 0<i by omega,cT hi (by omega)];refine⟨[.keep [0,2,5,6,7],.dr 4],?_⟩;simp;exact hK _ (by simp)
 ·simp[↓an,↓an];refine bH ?_;simp;omega
structure td where
 used:Bool
 top:Int
 w0:Int
 w1:Int
 w2:Int
 w3:Int
def wP (w:td):PV:= .st 6 [.bl w.used,.int .u64 w.top,.ar 1 4 [.int .u64 w.w0,.int .u64 w.w1,.int .u64 w.w2,.int .u64 w.w3]]
def nW (w:td):FV uo:=⟨wP w,by simp[wP,fits,iL,qi,rC,kR]⟩
def OO (w:td) (c:Int):Bool:= !w.used||decide (w.top<c)||decide (bits .and .u64 (w.w0.fdiv (2^min c.toNat 64)) 1=0)
structure SmW (w:td) (c:Int):Prop where
 t0:0≤w.top
 t8:w.top<8
 c0:0≤c
 c8:c<8
def q64 {c:Int} (h0:0≤c) (h8:c<8):c.tdiv 64=0:=Int.tdiv_eq_zero_of_lt h0 (by omega)
def r64 {c:Int} (h0:0≤c) (h8:c<8):c.tmod 64=c:=Int.tmod_eq_of_lt h0 (by omega)
theorem c9 {w:td} {c:Int} (h:SmW w c):aP Pg 113 [wP w,.int .u64 c] (.bl (OO w c)):=by
 refine ab.intro (aA R.c9.2) (by simp[R.c9]) ?_;have h0:=h.c0;have h1:=q64 h.c0 h.c8;have h2:=r64 h.c0 h.c8;have h3:=q64 h.t0 h.t8;have w0:IntKind.u64.wrap 0=0:=rfl;by_cases hu:w.used=true
 ·by_cases ht:w.top<c
  ·simp[R.c9,ah,az,wP,hu,ht,au];refine bH ?_;simp[OO,hu,ht]
  ·simp[R.c9,ah,az,wP,hu,ht,au,h1,h2,h3,w0];refine⟨h0,?_⟩;refine bH ?_;simp[OO,hu,ht];rfl
 ·simp[R.c9,ah,az,wP,hu,au];refine bH ?_;simp[OO,hu]
def tL (w:td) (c:Int):td×Bool:=
 if OO w c=true then
  let v:td:=if w.used=true then w else⟨true,c,0,0,0,0⟩
  (⟨true,max v.top c,bits .or .u64 v.w0 (IntKind.u64.wrap (2^min c.toNat 64)),v.w1,v.w2,v.w3⟩,true)
 else(w,false)
theorem bK {w:td} {c:Int} (h:SmW w c):aP Pg 70 [wP w,.int .u64 c] (.tup [wP (tL w c).1,.bl (tL w c).2]):=by
 refine ab.intro (aA R.bK.2) (by simp[R.bK]) ?_;have h0:=h.c0;have h1:=q64 h.c0 h.c8;have h2:=r64 h.c0 h.c8;have h3:=q64 h.t0 h.t8;have w0:IntKind.u64.wrap 0=0:=rfl;have hc:=c9 h;cases hk:OO w c with
 |
  false=>
  rw[hk]at hc
  simp[R.bK,ah,az,wP]
  refine aj.ret hc (by simp[wP]) (by simp) (by simp) ?_
  simp
  refine bH ?_
  simp[tL,hk]
 |
  true=>
  rw[hk]at hc
  have hp:∀x:Int,bits .or .u64 0 x=bits .or .u64 0 x:=λ_=>rfl
  by_cases hu:w.used=true
  ·by_cases ht:w.top<c
   ·have hm:max w.top c=c:=by omega
    simp[R.bK,ah,az,wP,hu]
    refine aj.ret hc (by simp[wP,hu]) (by simp) (by simp) ?_
    simp[ht]
    refine fa.fN 0 (λ_=>True) [1,2,4,5,6] (λi=>[]) (λi=>[]) [.keep [1,2,4,5,6]] ?_
    simp
    intro K
    simp[↓an,↓an,↓an,h1,h2,h3,w0,au,h0,(by omega:min (0:Int) 4=0)]
    refine bH ?_
    simp[tL,hk,hu,hm]
    rfl
   ·have hm:max w.top c=w.top:=by omega
    simp[R.bK,ah,az,wP,hu]
    refine aj.ret hc (by simp[wP,hu]) (by simp) (by simp) ?_
    simp[ht,↓an,h1,h2,w0,au,h0]
    refine bH ?_
    simp[tL,hk,hu,hm]
    rfl
  ·simp[R.bK,ah,az,wP,hu]
   refine aj.ret hc (by simp[wP,hu]) (by simp) (by simp) ?_
   simp[↓an,h1,h2,w0,au,h0,dh,List.replicate]
   refine bH ?_
   simp[tL,hk,hu]
   rfl
def XJ {w:td} {c:Int} (h:SmW w c):(tL w c).1.used=w.used∧(tL w c).1=w∨(tL w c).1.used=true:=by
 unfold tL;split
 ·right;rfl
 ·left;exact⟨rfl,rfl⟩
def IJ {w:td} {c:Int} (h:SmW w c):0≤(tL w c).1.top∧(tL w c).1.top<8:=by
 obtain⟨a1,a2,a3,a4⟩:=h;unfold tL;split
 ·by_cases hu:w.used=true<;>simp[hu]<;>omega
 ·exact⟨a1,a2⟩
def MQ:FV gV:=⟨.ar 1 32 (zr 32 (.int .u8 0)),by rw[dh];rfl⟩
def yz:FV uo:=⟨.st 6 [.bl false,.int .u64 0,.ar 1 4 (zr 4 (.int .u64 0))],by rw[dh];rfl⟩
def aq2:jx:=⟨0,0,MQ,MQ,0,0,yz,0,false⟩
def oL:nU:=⟨false,aq2⟩
def KW:gq oL=(.st 77 [(.bl false),(.st 76 [(.int .u32 0),(.int .u32 0),(.ar 1 32 (zr 32 (.int .u8 0))),(.ar 1 32 (zr 32 (.int .u8 0))),(.int .u64 0),(.int .u64 0),(.st 6 [(.bl false),(.int .u64 0),(.ar 1 4 (zr 4 (.int .u64 0)))]),(.int .i64 0),(.bl false)])]):=by first|rfl|(rw[dh];rfl)
def uB (l:List nU):WQ:=(l.filter (λp=>p.has)).map (λp=>p.eM.loc)
def De (p:nU) (l:List nU):uB (p::l)=(if p.has=true then [p.eM.loc]else [])++uB l:=by
 unfold uB;by_cases h:p.has=true<;>simp[h]
def IK {l:List nU} {i:Nat} (h:i<l.length):uB (l.take (i+1))=uB (l.take i)++(if l[i].has=true then [l[i].eM.loc]else []):=by
 unfold uB;rw[lM _ h];by_cases hk:l[i].has=true<;>simp[hk]
def wT (l:List nU):(uB l).length≤l.length:=by
 unfold uB;rw[JeW];exact JeV _ _
def dG {l:List nU} (h:l.length≤8) (b:Bool):aP Pg 110 [.sl 77 (l.map gq) b] (lr (uB l)):=by
 refine ab.intro (aA R.dG.2) (by simp[R.dG]) ?_;simp[R.dG,ah,az,lr];refine fa.fN l.length (λ_=>True) [2,3,6,7,8] (λi=>[(3,.rs 3 [] 0 (uB (l.take i)).length (uB (l.take i)).length 1 .tip),(8,.int .i64 i)]) (λi=>[(3,.arr 1 ((uB (l.take i)).map (λn:Int=>PV.int .u32 n)))]) [.vt 3 3 1] ?_;simp[show uB []=[] from rfl];refine⟨λi hi K hK=> ?_,λK=> ?_⟩
 ·have hx:l[i]? =some l[i]:=gJ hi;have hlen:=wT (l.take i);have Nj:(l.take i).length≤i:=by rw[lJ];omega
  rw[IK hi]at hK;generalize uB (l.take i)=out at*;by_cases h1:l[i].has=true
  ·simp[↓an,hi,h1,cT hi (by omega)];refine⟨⟨by omega,by omega⟩,[.keep [2,3,6,7,8],.dr 5],?_⟩;simp[aW,bA,ae,af];exact hK _ (by simp[h1])
  ·simp[↓an,hi,h1,cT hi (by omega)];refine⟨[.keep [2,3,6,7,8],.dr 5],?_⟩;simp[aW,bA,ae,af];exact hK _ (by simp[h1])
 ·simp[↓an,↓an];refine bj.plain [.keep [2],.fz 3,.wk 2] ?_;simp
def XK (p:nU):nU:=if p.has=true then p else oL
def fw (p:nU):aP Pg 111 [gq p] (gq (XK p)):=by
 refine ab.intro (aA R.fw.2) (by simp[R.fw]) ?_;by_cases h:p.has=true
 ·simp[R.fw,ah,az,h];refine bH ?_;simp[XK,h]
 ·simp[R.fw,ah,az,h];refine bH ?_;simp[XK,h,KW]
def gu (r:lU):aP Pg 243 [dt r] (lr (uB [r.p,r.c,r.n])):=by
 refine ab.intro (aA R.gu.2) (by simp[R.gu]) ?_;simp[R.gu,ah,az];refine aj.rA (dG (l:=[r.p,r.c,r.n]) (by simp) false) ?_;simp;refine bH ?_;simp
def wQ (r:lU) (s:jx):lU:=if r.n.has=true then⟨r.n,⟨true,s⟩,oL⟩else⟨XK r.c,⟨true,s⟩,oL⟩
def s6 (r:lU):WQ:=if r.n.has=true then uB [r.p,r.c]else uB [r.p]
def dT (r:lU) (s:jx):aP Pg 64 [dt r,dQ s] (.tup [dt (wQ r s),lr (s6 r)]):=by
 refine ab.intro T.dT (by simp[F.dT]) ?_;by_cases h:r.n.has=true
 ·simp[F.dT,ah,az,h];refine aK.rA (dG (l:=[r.p,r.c]) (by simp) false) ?_;simp;refine bH ?_;simp[wQ,s6,h,dt,gq];exact⟨rfl,rfl⟩
 ·simp[F.dT,ah,az,h];refine aK.rA (fw r.c) ?_;simp;refine aK.rA (dG (l:=[r.p]) (by simp) false) ?_;simp;refine bH ?_;simp[wQ,s6,h,dt,gq];exact⟨rfl,rfl⟩
def RY (r:lU) (s:jx):lU:=⟨oL,r.c,⟨true,s⟩⟩
def Iy (r:lU):WQ:=uB [r.p,r.n]
def gr (r:lU) (s:jx):aP Pg 65 [dt r,dQ s] (.tup [dt (RY r s),lr (Iy r)]):=by
 refine ab.intro (aA R.gr.2) (by simp[R.gr]) ?_;simp[R.gr,ah,az];refine aK.rA (dG (l:=[r.p,r.n]) (by simp) false) ?_;simp;refine bH ?_;simp[RY,Iy,dt,gq];exact⟨rfl,rfl⟩
def jG (loc rem:Int) (a b:FV gV) (born:Int) (Mt:Bool) (eY:Int):aP Pg 69 [.int .u32 loc,.int .u32 rem,a.p,b.p,.int .i64 born,.bl Mt,.int .u64 eY] (dQ ⟨loc,rem,a,b,0,eY,yz,born,Mt⟩):=by
 refine ab.intro (aA R.jG.2) (by simp[R.jG]) ?_;simp[R.jG,ah,az];refine bH ?_;simp[dQ,yz]
def jH {n a b:Int} (h1:a≤n) (h2:n≤b):aP Pg 201 [.int .i64 n,.int .i64 a,.int .i64 b] (.bl true):=by
 refine ab.intro (aA R.lv.2) (by simp[R.lv]) ?_;simp[R.lv,ah,az,h1,h2];refine bH ?_;simp
def KX {d:aR} {t:Int} (h1:0≤t) (h2:t≤d.now):aP Pg 109 [bN d,.int .i64 t] (.bl true):=by
 refine ab.intro (aA R.nA.2) (by simp[R.nA]) ?_;simp[R.nA,ah,az];refine aj.rA (jH h1 h2) ?_;simp;refine bH ?_;simp
def GC {r:yx} (h:qE r):aP Pg 200 [cQ r] (.bl true):=by
 refine ab.intro (aA R.jr.2) (by simp[R.jr]) ?_;obtain⟨h1,h2,h3,h4,h5,h6,h7,h8,h9,h10,h11,h12,h13,h14,h15,h16,h17⟩:=h;have n1:¬r.zd<1:=by omega
 have n2:¬r.pV<r.zd:=by omega
 have n3:¬(18446744073709543423:Int)<r.pV:=by omega
 have w1:IntKind.i64.wrap (r.Gi+r.ret)=r.Gi+r.ret:=wrap_i64 (by omega);have w2:IntKind.i64.wrap (20*r.ret)=20*r.ret:=wrap_i64 (by omega);have n4:r.Gi+r.ret<r.iP:=by omega
 simp[R.jr,ah,az,n1,n2,n3];refine aj.rA (jH (n:=r.ret) (a:=1000) (b:=1073741824) (by omega) (by omega)) ?_;simp;refine aj.rA (jH (n:=r.Gi) (a:=1000) (b:=1073741824) (by omega) (by omega)) ?_;simp;refine aj.rA (jH (n:=r.cot) (a:=1) (b:=1073741824) (by omega) (by omega)) ?_;simp;refine aj.rA (jH (n:=r.C1) (a:=1) (b:=1073741824) (by omega) (by omega)) ?_;simp;refine aj.rA (jH (n:=r.iP) (a:=1) (b:=1073741824) (by omega) (by omega)) ?_;simp[h10,w1,n4,w2];refine aj.rA (jH (n:=r.att) (a:=r.ret) (b:=20*r.ret) (by omega) (by omega)) ?_;simp;refine aj.rA (jH (n:=r.load) (a:=1) (b:=64) (by omega) (by omega)) ?_;simp;refine aj.rA (jH (n:=r.fU) (a:=1) (b:=8) (by omega) (by omega)) ?_;simp;refine bH ?_;simp
def AI (v:FV uo):Prop:=v=yz∨∃w:td,w.used=true∧(0≤w.top∧w.top<8)∧v=nW w
structure ye (d:aR) (s:jx):Prop where
 b0:0≤s.born
 b1:s.born≤d.now
 fe:s.eY=d.rules.pV
 n0:0≤s.next
 n1:s.next≤18446744073709543423
 wi:AI s.tC
def MF {d:aR} {s:jx} (h:ye d s):aP Pg 63 [bN d,dQ s] (.bl true):=by
 refine ab.intro (aA R.mw.2) (by simp[R.mw]) ?_;have h1:=h.fe;have h2:=h.n1;simp[R.mw,ah,az];refine aj.rA (KX (d:=d) h.b0 h.b1) ?_;rcases h.wi with hw|⟨w,hu,_,hw⟩
 ·simp[h1,h2,hw,yz];refine⟨by rw[dh];rfl,?_⟩;refine bH ?_;simp;rw[dh];rfl
 ·simp[h1,h2,hw,nW,wP,hu];refine bH ?_;simp
def zu:Nat->Nat->Zz
 |0,n=>[UInt8.ofNat (48+n)]
 |f+1,n=>if n<10 then [UInt8.ofNat (48+n)]else zu f (n/10)++[UInt8.ofNat (48+n%10)]
theorem si:∀f n,1≤(zu f n).length∧(zu f n).length≤f+1
 |0,n=>by simp[zu]
 |
  f+1,n=>by
  have:=si f (n/10)
  simp only[zu];split<;>simp<;>omega
def aA9 {n:Nat} (h:n<256):u8 (UInt8.ofNat n)= .int .u8 n:=by
 simp only[u8];congr 1;simp;omega
def aeL {x:Int} {n:Nat} (e:x=n) (h:n<256):gH [.int .u8 x]=some [UInt8.ofNat n]:=by
 subst e;rw[←aA9 h];exact ug [UInt8.ofNat n]
theorem MR:∀(f n:Nat),f≤100->n<10^(f+1)->n<1000000->aP Pg 124 [.int .i64 n] (.str (zu f n)):=by
 intro f;induction f with
 |
  zero=>
  intro n hf h h'
  have hn:(n:Int)<10:=by simp at h;omega
  refine ab.intro (aA R.dR.2) (by simp[R.dR]) ?_
  have w1:IntKind.i64.wrap (48+(n:Int))=48+(n:Int):=wrap_i64 (by omega)
  have w2:IntKind.u8.wrap (48+(n:Int))=48+(n:Int):=wrap_u8 (by omega)
  simp[R.dR,ah,az,hn,w1,w2,aeL (x:=48+(n:Int)) (n:=48+n) (by omega) (by omega)]
  refine bH ?_
  simp[zu]
 |
  succ f ih=>
  intro n hf h h'
  refine ab.intro (aA R.dR.2) (by simp[R.dR]) ?_
  by_cases hn:(n:Int)<10
  ·have w1:IntKind.i64.wrap (48+(n:Int))=48+(n:Int):=wrap_i64 (by omega)
   have w2:IntKind.u8.wrap (48+(n:Int))=48+(n:Int):=wrap_u8 (by omega)
   simp[R.dR,ah,az,hn,w1,w2,aeL (x:=48+(n:Int)) (n:=48+n) (by omega) (by omega)]
   refine bH ?_
   have Hb:n<10:=by omega
   simp[zu,Hb]
  ·have hl:=si f (n/10)
   obtain⟨q,hq⟩:∃q,q=n/10:=⟨_,rfl⟩
   obtain⟨t,ht⟩:∃t,t=n%10:=⟨_,rfl⟩
   have hd:IntKind.i64.wrap ((n:Int).tdiv 10)=(q:Int):=by
    rw[show(10:Int)=((10:Nat):Int) from rfl,←Int.ofNat_tdiv,hq];exact wrap_i64 (by omega)
   have JA:IntKind.i64.wrap ((n:Int)/10)=(q:Int):=by
    rw[show(n:Int)/10=((n/10:Nat):Int) by omega,hq];exact wrap_i64 (by omega)
   have hm:(n:Int).tmod 10=(t:Int):=by
    rw[show(10:Int)=((10:Nat):Int) from rfl,←JoZ,ht]
   have w1:IntKind.i64.wrap (48+(t:Int))=48+(t:Int):=wrap_i64 (by omega)
   have w2:IntKind.u8.wrap (48+(t:Int))=48+(t:Int):=wrap_u8 (by omega)
   have hi:=ih q (by omega) (by rw[Nat.pow_succ]at h;omega) (by omega)
   simp[R.dR,ah,az,hn,JA]
   refine aK.rA hi ?_
   rw[←hq]at hl
   simp[hm,w1,w2,aeL (x:=48+(t:Int)) (n:=48+t) (by omega) (by omega)]
   refine⟨by omega,?_⟩
   refine bH ?_
   have Hb:¬n<10:=by omega
   simp[zu,Hb,←hq,←ht]
def MS {n:Int} (h:n=0∨1000≤n∧n≤1073741824):aP Pg 296 [.int .i64 n] (.bl true):=by
 refine ab.intro (aA R.jT.2) (by simp[R.jT]) ?_;rcases h with h|⟨h1,h2⟩
 ·simp[R.jT,ah,az,h];refine bH ?_;simp
 ·have h0:¬n=0:=by omega
  simp[R.jT,ah,az,h0,h1,h2];refine bH ?_;simp
@[simp↓] def aiH (a b:Zz) (K:W7):yE .geq a b K=K (.bl (!Op.bytesLess a b)):=_root_.id rfl
def yi (a:iC) (n:Nat):Zz:=((a.ip.take n).map (λb=>[46]++zu 2 b.toNat)).flatten
theorem GD (a:iC):∀n,(yi a n).length≤4*n:=by
 intro n;unfold yi;generalize a.ip=l;induction l generalizing n with
 |nil=>simp
 |
  cons x l ih=>
  cases n with
  |zero=>simp
  |
   succ n=>
   have:=ih n
   have h2:=si 2 x.toNat
   simp at this⊢
   omega
def OP (a:iC) {n:Nat} {b:UInt8} (h:a.ip[n]? =some b):yi a (n+1)=yi a n++([46]++zu 2 b.toNat):=by
 unfold yi;rw[List.take_add_one,h];simp
def IL (a:iC):2≤(yi a 4).length:=by
 have h:=a.h
 obtain⟨x,l,e⟩:∃x l,a.ip=x::l:=by
  cases hx:a.ip with
  |nil=>rw[hx]at h;simp at h
  |cons x l=>exact⟨x,l,rfl⟩
 unfold yi;rw[e];have h2:=si 2 x.toNat;simp;omega
def KY {a:iC} (h:v7 a 4) (h6:a.lV=false):aP Pg 123 [cV a] (.str ((yi a 4).drop 1)):=by
 refine ab.intro T.eF (by simp[F.eF]) ?_;simp[F.eF,ah,az];refine aj.rA (fo h) ?_;simp[h6];refine fa.fN 4 (λ_=>True) [1,2,3,4] (λi=>[(3,.str (yi a i)),(4,.int .i64 i)]) (λi=>[]) [.keep [1,2,3,4]] ?_;simp[show yi a 0=[] from rfl];refine⟨λi hi K hK=> ?_,λK=> ?_⟩
 ·have jv:i<a.ip.length:=by rw[a.h];omega
  have hx:a.ip[i]? =some a.ip[i]:=gJ jv;have hb:=(a.ip[i]).toNat_lt;have hw:IntKind.i64.wrap ((a.ip[i]).toNat:Int)=((a.ip[i]).toNat:Int):=wrap_i64 (by omega);have hi4:(i:Int)<4:=by omega
  have hl:=GD a i;have LL:=si 2 (a.ip[i]).toNat;rw[OP a hx]at hK;have agn:(i:Int)<16:=by omega
  simp[↓an,hi4,agn,hx,u8,hw];refine aj.rA (MR 2 (a.ip[i]).toNat (by omega) (by omega) (by omega)) ?_;simp[cT hi (by omega)];refine⟨by omega,by omega,[.keep [1,2,3,4]],?_⟩;simp;exact hK _ (by simp)
 ·have hl:=GD a 4;have hp:=IL a;simp[↓an,↓an];refine⟨by omega,?_⟩;refine bH ?_;simp
def aeM (i:Nat):v7 (vI i).addr 4:=by
 intro j h1 h2;simp only[vI];rcases(by omega:j=4∨j=5∨j=6∨j=7∨j=8∨j=9∨j=10∨j=11∨j=12∨j=13∨j=14∨j=15)with rfl|rfl|rfl|rfl|rfl|rfl|rfl|rfl|rfl|rfl|rfl|rfl<;>rfl
def XL (i:Nat):Zz:=(yi (vI i).addr 4).drop 1++[58]++zu 3 (1000+i)
def Sb (i:Nat):XL i≠[]:=by simp[XL]
theorem Df {i:Nat} (h:i<3):aP Pg 77 [fc (vI i)] (.str (XL i)):=by
 refine ab.intro (aA R.gv.2) (by simp[R.gv]) ?_;have hf:=KY (aeM i) rfl;have hl:=GD (vI i).addr 4;have hp:=IL (vI i).addr;have hd:=si 3 (1000+i);have he:XL i=(yi (vI i).addr 4).drop 1++[58]++zu 3 (1000+i):=rfl;rw[he];obtain⟨m,hm⟩:∃m,(yi (vI i).addr 4).drop 1=m:=⟨_,rfl⟩
 have Va:m.length=(yi (vI i).addr 4).length-1:=by rw[←hm,JdX]
 rw[hm]at hf⊢;have hn:m≠[]:=by intro e;rw[e]at Va;simp at Va;omega
 have p1:(vI i).port=1000+(i:Int):=rfl;have p2:¬(1000+(i:Int))<1:=by omega
 have p3:¬(65535:Int)<1000+(i:Int):=by omega
 have p4:(vI i).addr.lV=false:=rfl;have hdc:=MR 3 (1000+i) (by omega) (by omega) (by omega);rw[show((1000+i:Nat):Int)=1000+(i:Int) by omega]at hdc;simp[R.gv,ah,az];refine aj.rA hf ?_;simp[hn,p1,p2,p3,p4];refine⟨by omega,?_⟩;refine aj.rA hdc ?_;simp;refine⟨by omega,?_⟩;refine bH ?_;simp
def zq:iC:=⟨false,List.replicate 16 0,rfl⟩
def uy:Jt:=⟨zq,0⟩
def v8:FV uq:=⟨.ar 1 16 (zr 16 (.int .u8 0)),by rw[dh];rfl⟩
def zSm:FV Wp:=⟨.ar 1 12 (zr 12 (.int .u8 0)),by rw[dh];rfl⟩
def zNo:FV KC:=⟨.st 64 [.ar 1 32 (zr 32 (.int .u8 0)),.ar 1 32 (zr 32 (.int .u8 0))],by rw[dh];rfl⟩
def kJ:G7:=⟨false,0,MQ,zNo,0,0⟩
def GF:fc uy=(.st 18 [(.st 17 [(.bl false),(.ar 1 16 (zr 16 (.int .u8 0)))]),(.int .i64 0)]):=by first|rfl|(rw[dh];rfl)
def aq4:PV.beq (.st 18 [(.st 17 [(.bl false),(.ar 1 16 (zr 16 (.int .u8 0)))]),(.int .i64 0)]) (.st 18 [(.st 17 [(.bl false),(.ar 1 16 (zr 16 (.int .u8 0)))]),(.int .i64 0)])=true:=by
 have h:=RH uy;rw[GF]at h;exact h
def abr:fits (Sh.st [Sh.st [Sh.b,Sh.ar 16 (Sh.i IntKind.u8)],Sh.i IntKind.i64]) (.st 18 [(.st 17 [(.bl false),(.ar 1 16 (zr 16 (.int .u8 0)))]),(.int .i64 0)])=true:=by
 have h:=zi uy;rw[GF]at h;exact h
def MT:v8.p=(.ar 1 16 (zr 16 (.int .u8 0))):=by first|rfl|(rw[dh];rfl)
def cB (d:aR) (p:nU):Prop:=(p.has=true∧ye d p.eM)∨(p.has=false∧p=oL)
structure lN (d:aR) (p:bE):Prop where
 ep:(p.ff=true∧∃i,i<3∧p.ep=vI i)∨(p.ff=false∧p.ep=uy)
 ik:p.ik=0∨1000≤p.ik∧p.ik≤1073741824
 pW:p.pW=0
 Al:p.oz=false
 Jq:p.jj=false
 kV:p.kV=0
 kU:p.kU=v8
 aM:p.aM=[]
 hand:p.hand=kJ
 rp:cB d p.ring.p
 rc:cB d p.ring.c
 rn:cB d p.ring.n
def Sc {d:aR} {p:bE} (h:lN d p) (hn:0≤d.now) (hs:0≤d.rules.fU):aP Pg 265 [bN d,aH p] (.bl true):=by
 refine ab.intro T.eW (by simp[F.eW]) ?_;have h2:=h.pW;have h3:=h.kV;have h4:=h.kU;have h5:=h.aM;have h6:=h.Al;have h7:=h.Jq;have hf:fits (Sh.ar 16 (Sh.i IntKind.u8)) (PV.ar 1 16 (zr 16 (PV.int IntKind.u8 0)))=true:=by rw[dh];rfl
 have Dv:¬d.rules.fU<0:=by omega
 have hp0:aP Pg 109 [bN d,.int .i64 0] (.bl true):=KX (by omega) hn;have hb:PV.beq v8.p v8.p=true:=FV.beq v8;rw[MT]at hb;rcases h.ep with⟨he,i,hi,e⟩|⟨he,e⟩
 ·simp[F.eW,ah,az,he,e];refine aj.rA (Df hi) ?_;simp[Sb,he];refine aj.rA (MS h.ik) ?_;simp[h2];refine aj.rA hp0 ?_;simp[h2,h3,h6];refine aj.rA hp0 ?_;simp[h3,h4,h5,MT,Dv,h7,hb,hf];refine fa.fN 0 (λ_=>True) [4,82,83,84] (λi=>[]) (λi=>[]) [.keep [4,82,83,84]] ?_;simp;intro K;simp[↓an,↓an];refine bH ?_;simp
 ·simp[F.eW,ah,az,he,e,GF,aq4,abr];refine aj.rA (MS h.ik) ?_;simp[h2];refine aj.rA hp0 ?_;simp[h2,h3,h6];refine aj.rA hp0 ?_;simp[h3,h4,h5,MT,Dv,h7,hb,hf];refine fa.fN 0 (λ_=>True) [4,82,83,84] (λi=>[]) (λi=>[]) [.keep [4,82,83,84]] ?_;simp;intro K;simp[↓an,↓an];refine bH ?_;simp
theorem aeN {d:aR} {p:bE} (h:lN d p):aP Pg 266 [bN d,aH p] (.bl true):=by
 refine ab.intro (aA R.nB.2) (by simp[R.nB]) ?_;have h1:=h.hand;have h2:kJ.has=false:=rfl;have hb:=RI kJ;have hf:=zj kJ;have e:ij kJ=(.st 100 [.bl false,.int .u32 0,.ar 1 32 (zr 32 (.int .u8 0)),.st 64 [.ar 1 32 (zr 32 (.int .u8 0)),.ar 1 32 (zr 32 (.int .u8 0))],.int .i64 0,.int .i64 0]):=rfl;rw[e]at hb hf;simp[R.nB,ah,az,h1,e];refine⟨hf,?_⟩;refine bH ?_;simp[hb]
theorem aeO {d:aR} {p:bE} (h:lN d p):aP Pg 267 [bN d,aH p] (.bl true):=by
 refine ab.intro (aA R.nC.2) (by simp[R.nC]) ?_
 have hg:∀i,i<3->cB d (jC p.ring (i+1)):=by
  intro i hi;rcases(by omega:i=0∨i=1∨i=2)with rfl|rfl|rfl
  ·exact h.rp
  ·exact h.rc
  ·exact h.rn
 have hb:=Ir oL;have hf:=pq oL;simp[R.nC,ah,az];refine fa.fN 3 (λ_=>True) [2,3,4,5] (λi=>[(5,.int .i64 ((i:Int)+1))]) (λi=>[]) [.keep [2,3,4,5]] ?_;simp;refine⟨λi hi K hK=> ?_,λK=> ?_⟩
 ·have PG:(i:Int)+1≤3:=by omega
  have hw:IntKind.i64.wrap ((i:Int)+1+1)=(i:Int)+1+1:=wrap_i64 (by omega);have cA:=jD p.ring (k:=i+1) (by omega);rw[show((i+1:Nat):Int)=(i:Int)+1 by omega]at cA;have hp:=hg i hi;generalize jC p.ring (i+1)=q at*;simp[↓an,PG];refine aj.rA cA ?_;rcases hp with⟨h1,h2⟩|⟨h1,h2⟩
  ·simp[h1];refine aj.rA (MF h2) ?_;simp[h1,hw];refine⟨[.keep [2,3,4,5],.dr 6],?_⟩;simp;exact hK _ (by simp)
  ·have h0:oL.has=false:=rfl;have vM:PV.beq (gq oL) (.st 77 [(.bl false),(.st 76 [(.int .u32 0),(.int .u32 0),(.ar 1 32 (zr 32 (.int .u8 0))),(.ar 1 32 (zr 32 (.int .u8 0))),(.int .u64 0),(.int .u64 0),(.st 6 [(.bl false),(.int .u64 0),(.ar 1 4 (zr 4 (.int .u64 0)))]),(.int .i64 0),(.bl false)])])=true:=Ir oL;simp[h2,h0,hw,vM];refine⟨hf,[.keep [2,3,4,5],.dr 6],?_⟩;simp;exact hK _ (by simp)
 ·simp[↓an,↓an];refine bH ?_;simp
def KZ {d:aR} (hl:d.aa.length≤8) {k:Int} (hk:k=3∨k=4∨k=5) (h:∀p∈d.aa,lN d p) (hn:0≤d.now) (hs:0≤d.rules.fU):aP Pg 203 [bN d,.int .i64 k] (.bl true):=by
 refine ab.intro (aA R.nD.2) (by simp[R.nD]) ?_;simp[R.nD,ah,az];refine fa.fN d.aa.length (λ_=>True) [1,2,4,8,9,10] (λi=>[(10,.int .i64 i)]) (λi=>[]) [.keep [1,2,4,8,9,10]] ?_;simp;refine⟨λi hi K hK=> ?_,λK=> ?_⟩
 ·have hx:d.aa[i]? =some d.aa[i]:=gJ hi;have hp:=h _ (JaJ hi);rcases hk with rfl|rfl|rfl
  ·simp[↓an,hi];refine aj.rA (Sc hp hn hs) ?_;simp[cT hi (by omega)];refine⟨[.keep [1,2,4,8,9,10],.dr 6],?_⟩;simp;exact hK _ (by simp)
  ·simp[↓an,hi];refine aj.rA (aeN hp) ?_;simp[cT hi (by omega)];refine⟨[.keep [1,2,4,8,9,10],.dr 6],?_⟩;simp;exact hK _ (by simp)
  ·simp[↓an,hi];refine aj.rA (aeO hp) ?_;simp[cT hi (by omega)];refine⟨[.keep [1,2,4,8,9,10],.dr 6],?_⟩;simp;exact hK _ (by simp)
 ·simp[↓an,↓an];refine bH ?_;simp
def XM {d:aR} (hl:d.aa.length≤8) (h:∀(i:Nat) (h:i+1<d.aa.length),UQ d.aa[i].cK d.aa[i+1].cK=true):aP Pg 202 [bN d] (.bl true):=by
 refine ab.intro T.iw (by simp[F.iw]) ?_;simp[F.iw,ah,az];refine fa.fN d.aa.length (λ_=>True) [1,2,6,7,8] (λi=>[(8,.int .i64 i)]) (λi=>[]) [.keep [1,2,6,7,8]] ?_;simp;refine⟨λi hi K hK=> ?_,λK=> ?_⟩
 ·have hx:d.aa[i]? =some d.aa[i]:=gJ hi;by_cases hz:i=0
  ·subst hz;simp[↓an,hi];refine⟨[.keep [1,2,6,7,8],.dr 4],?_⟩;simp;exact hK _ (by simp)
  ·obtain⟨j,Fs⟩:∃j,i=j+1:=⟨i-1,by omega⟩
   have hj:j<d.aa.length:=by omega
   have hy:d.aa[j]? =some d.aa[j]:=gJ hj;have dx:=h j (by omega);have afP:UQ d.aa[j].cK d.aa[i].cK=true:=by subst Fs;exact dx
   have hw:IntKind.i64.wrap ((i:Int)-1)=j:=by rw[wrap_i64 (by omega)];omega
   have ta:(d.aa[j].cK.l.map u8).take 32=d.aa[j].cK.l.map u8:=tJ (by simp[d.aa[j].cK.h]);have tb:(d.aa[i].cK.l.map u8).take 32=d.aa[i].cK.l.map u8:=tJ (by simp[d.aa[i].cK.h]);simp[↓an,hi,hj,hw,show 0<i by omega,cT hi (by omega),bW,ta,tb,(show Op.bytesLess d.aa[j].cK.l d.aa[i].cK.l=true from afP)];refine⟨[.keep [1,2,6,7,8],.dr 4],?_⟩;simp;exact hK _ (by simp)
 ·have hl8:(d.aa.length:Int)≤8:=by omega
  simp[↓an,↓an,hl8];refine bH ?_;simp
def rt (i:Nat):sc:=⟨sY (UInt8.ofNat (i+1)),lK i⟩
def s5 {i j:Nat} (hi:i<3) (hj:j<3) (h:lK i=lK j):i=j:=by
 have h2:=congrArg (λk:Key=>k.l.head?) h;rcases(by omega:i=0∨i=1∨i=2)with rfl|rfl|rfl<;>rcases(by omega:j=0∨j=1∨j=2)with rfl|rfl|rfl<;>simp[lK]at h2<;>rfl
def Sd {i j:Nat} (Nh:i<j) (hj:j<3):UQ (lK i) (lK j)=true:=by
 rcases(by omega:i=0∧j=1∨i=0∧j=2∨i=1∧j=2)with⟨rfl,rfl⟩|⟨rfl,rfl⟩|⟨rfl,rfl⟩<;>rfl
def aq5 {i j:Nat} (Nh:i<j) (hj:j<3):UInt8.ofNat (i+1)<UInt8.ofNat (j+1):=by
 rcases(by omega:i=0∧j=1∨i=0∧j=2∨i=1∧j=2)with⟨rfl,rfl⟩|⟨rfl,rfl⟩|⟨rfl,rfl⟩<;>decide
def Dc (l:List sc):Prop:=l.length≤3∧∀(i:Nat) (h:i<l.length),l[i]=rt i
def D5 {l:List sc} (h:Dc l):aP Pg 268 [cR l] (.bl true):=by
 refine ab.intro T.eo (by simp[F.eo]) ?_;have hl:=h.1;simp[F.eo,ah,az];refine fa.fN l.length (λ_=>True) [0,2,5,6,7] (λi=>[(7,.int .i64 i)]) (λi=>[]) [.keep [0,2,5,6,7]] ?_;simp;refine⟨λi hi K hK=> ?_,λK=> ?_⟩
 ·have hx:l[i]? =some l[i]:=gJ hi;have he:=h.2 i hi;have hp:l[i].rq=sY (UInt8.ofNat (i+1)):=by rw[he];rfl
  have hv:aP Pg 58 [gW l[i].rq] (.bl true):=by rw[hp];exact fu (vy _) rfl
  by_cases hz:i=0
  ·subst hz;simp[↓an,hi];refine aK.rA hv ?_;simp;refine⟨[.keep [0,2,5,6,7],.dr 4],?_⟩;simp;exact hK _ (by simp)
  ·obtain⟨j,Fs⟩:∃j,i=j+1:=⟨i-1,by omega⟩
   have hj:j<l.length:=by omega
   have hy:l[j]? =some l[j]:=gJ hj;have hq:l[j].rq=sY (UInt8.ofNat (j+1)):=by rw[h.2 j hj];rfl
   have dx:=aq5 (i:=j) (j:=i) (by omega) (by omega);have hb:=eV (UInt8.ne_of_lt dx);rw[KU dx,←hp,←hq]at hb;have hw:IntKind.i64.wrap ((i:Int)-1)=j:=by rw[wrap_i64 (by omega)];omega
   simp[↓an,hi];refine aK.rA hv ?_;simp[hj,hw,show 0<i by omega];refine aK.rA hb ?_;simp[cT hi (by omega)];refine⟨[.keep [0,2,5,6,7],.dr 4],?_⟩;simp;exact hK _ (by simp)
 ·have hl8:(l.length:Int)≤16:=by omega
  simp[↓an,↓an,hl8];refine bH ?_;simp
def yd (l:Xo):Prop:=l.length≤3∧∀(i:Nat) (h:i<l.length),l[i].cK=lK i
def KO {d:aR} (h:yd d.aa) {i:Nat} (hi:i<d.aa.length):aP Pg 61 [bN d,bW (lK i)] (.int .i64 i):=by
 have hl:=h.1;refine Sa (by omega) hi (h.2 i hi) (λj hj Fs=> ?_);rw[h.2 j hj];intro e;exact absurd (s5 (by omega) (by omega) e) (by omega)
def Se {d:aR} (h:Dc d.aX) (hp:yd d.aa) (hl:d.aX.length=d.aa.length):aP Pg 204 [bN d] (.bl true):=by
 refine ab.intro (aA R.lx.2) (by simp[R.lx]) ?_;have hl3:=h.1;simp[R.lx,ah,az];refine fa.fN d.aX.length (λ_=>True) [1,2,6,7,8] (λi=>[(8,.int .i64 i)]) (λi=>[]) [.keep [1,2,6,7,8]] ?_;simp;refine⟨λi hi K hK=> ?_,λK=> ?_⟩
 ·have hx:d.aX[i]? =some d.aX[i]:=gJ hi;have he:d.aX[i].peer=lK i:=by rw[h.2 i hi];rfl
  have hf:=KO hp (i:=i) (by omega);rw[←he]at hf;have hn:¬(i:Int)<0:=by omega
  simp[↓an,hi];refine aj.rA hf ?_;simp[hn,cT hi (by omega)];refine⟨[.keep [1,2,6,7,8],.dr 4],?_⟩;simp;exact hK _ (by simp)
 ·simp[↓an,↓an];refine aj.rA (D5 h) ?_;simp;refine bH ?_;simp
def aeP {d:aR} (h0:0≤d.iM) (h1:d.iM≤d.now) (h2:d.aY=[]) (h3:d.buckets=[]):aP Pg 207 [bN d] (.bl true):=by
 refine ab.intro T.iZ (by simp[F.iZ]) ?_;simp[F.iZ,ah,az];refine aj.rA (KX h0 h1) ?_;simp[h2,h3];refine fa.fN 0 (λ_=>True) [1,2,25,26,27] (λi=>[]) (λi=>[]) [.keep [1,2,25,26,27]] ?_;simp;intro K;simp[↓an,↓an,h3];refine fa.fN 0 (λ_=>True) [1,2,52,53,54] (λi=>[]) (λi=>[]) [.keep [1,2,52,53,54]] ?_;simp;intro K;simp[↓an,↓an];refine bH ?_;simp
end Go.Ab
