/- Walks of functions, part 3. No condition. -/
import Derived.Test.YtddacpkeacbjfaaGreatDoorB2
set_option maxRecDepth 10000
set_option maxHeartbeats 4000000
set_option linter.all false
noncomputable section
namespace Go.Ab
structure Sf (d:aR):Prop where
 so:∀(i:Nat) (h:i+1<d.timers.length),ej d.timers[i] d.timers[i+1]=true
 rg:∀t∈d.timers,2≤t.kind∧t.kind≤5∧d.now<t.at_∧t.at_≤4398046511104∧∃i,∃h:i<d.aa.length,t.peer=lK i∧(t.kind=4->d.aa[i].ik≠0)
 un:∀(i j:Nat) (hi:i<d.timers.length) (hj:j<d.timers.length),i<j->¬(d.timers[j].peer=d.timers[i].peer∧d.timers[j].kind=d.timers[i].kind)
 len:d.timers.length≤1000
def aeQ {l:Wu} (hl:l.length≤1000) {k:Key} {n:Int} (h:∀t∈l,t.kind≠n):aP Pg 211 [bM l,bW k,.int .i64 n] (.bl false):=by
 refine ab.intro (aA R.eJ.2) (by simp[R.eJ]) ?_;simp[R.eJ,ah,az];refine fa.fN l.length (λ_=>True) [2,4,6,9,10,11] (λi=>[(11,.int .i64 i)]) (λi=>[]) [.keep [2,4,6,9,10,11]] ?_;simp;refine⟨λi hi K hK=> ?_,λK=> ?_⟩
 ·have hx:l[i]? =some l[i]:=gJ hi;have he:=h _ (JaJ hi);by_cases h1:l[i].peer=k
  ·simp[↓an,hi,he,h1,cT hi (by omega)];refine⟨[.keep [2,4,6,9,10,11],.dr 8],?_⟩;simp;exact hK _ (by simp)
  ·simp[↓an,hi,he,tG,h1,cT hi (by omega)];refine⟨[.keep [2,4,6,9,10,11],.dr 8],?_⟩;simp;exact hK _ (by simp)
 ·simp[↓an,↓an];refine bH ?_;simp
def D6 {l:Wu} (hl:l.length≤1000) (hso:∀(i:Nat) (h:i+1<l.length),ej l[i] l[i+1]=true)
  (hrg:∀t∈l,2≤t.kind∧t.kind≤5∧0≤t.at_∧t.at_≤4398046511104)
  (Fq:∀(i j:Nat) (hi:i<l.length) (hj:j<l.length),i<j->¬(l[j].peer=l[i].peer∧l[j].kind=l[i].kind)):aP Pg 270 [bM l] (.bl true):=by
 refine ab.intro T.eu (by simp[F.eu]) ?_;simp[F.eu,ah,az];refine fa.fN l.length (λ_=>True) [0,2,7,8,9] (λi=>[(9,.int .i64 i)]) (λi=>[]) [.keep [0,2,7,8,9]] ?_;simp;refine⟨λi hi K hK=> ?_,λK=> ?_⟩
 ·have hx:l[i]? =some l[i]:=gJ hi;obtain⟨r1,r2,r3,r4⟩:=hrg _ (JaJ hi);have g1:¬l[i].kind<1:=by omega
  have g2:¬5<l[i].kind:=by omega
  have g3:¬l[i].at_<0:=by omega
  have g4:¬4398046511104<l[i].at_:=by omega
  by_cases hz:i=0
  ·subst hz;simp[↓an,hi,g1,g2,g3,g4,bM];refine fa.fN 0 (λ_=>True) [0,2,4,7,8,9,48,49,50] (λi=>[]) (λi=>[]) [.keep [0,2,4,7,8,9,48,49,50]] ?_;simp;intro K2;simp[↓an,↓an];refine⟨[.keep [0,2,7,8,9],.dr 4],?_⟩;simp;exact hK _ (by simp[bM])
  ·obtain⟨j,Fs⟩:∃j,i=j+1:=⟨i-1,by omega⟩
   have hj:j<l.length:=by omega
   have hy:l[j]? =some l[j]:=gJ hj;have dx:ej l[j] l[i]=true:=by subst Fs;exact hso j hi
   have hw:IntKind.i64.wrap ((i:Int)-1)=j:=by rw[wrap_i64 (by omega)];omega
   have hlc:=cE l[j] l[i];rw[dx]at hlc;simp[↓an,hi,hj,g1,g2,g3,g4,hw,show 0<i by omega];refine aK.rA hlc ?_;simp[bM,show i≤l.length by omega];refine fa.fN i (λ_=>True) [0,2,4,7,8,9,48,49,50] (λm=>[(50,.int .i64 m)]) (λi=>[]) [.keep [0,2,4,7,8,9,48,49,50]] ?_;simp;refine⟨λm hm K2 yu=> ?_,λK2=> ?_⟩
   ·have Va:m<l.length:=by omega
    have vE:m<min i l.length:=by omega
    have hxm:l[m]? =some l[m]:=gJ Va;have hu:=Fq m i Va hi hm;by_cases hp:l[i].peer=l[m].peer
    ·have hk:¬l[i].kind=l[m].kind:=λe=>hu ⟨hp,e⟩;simp[↓an,hm,Va,hp,hk,cT hm (by omega)];refine⟨vE,[.keep [0,2,4,7,8,9,48,49,50],.dr 6],?_⟩;simp;exact yu _ (by simp)
    ·simp[↓an,hm,Va,tG,hp,cT hm (by omega)];refine⟨vE,[.keep [0,2,4,7,8,9,48,49,50],.dr 6],?_⟩;simp;exact yu _ (by simp)
   ·simp[↓an,↓an,cT hi (by omega)];refine⟨[.keep [0,2,7,8,9],.dr 4],?_⟩;simp;exact hK _ (by simp[bM])
 ·simp[↓an,↓an];refine bH ?_;simp
def Sg {d:aR} (h:Sf d) (hn:0≤d.now) (hp:yd d.aa) (hh:∀p∈d.aa,lN d p):aP Pg 206 [bN d] (.bl true):=by
 refine ab.intro T.gx (by simp[F.gx]) ?_;have hl:=h.len;have mV:=hp.1
 have hv:aP Pg 270 [bM d.timers] (.bl true):=
  D6 hl h.so (λt ht=>by obtain⟨r1,r2,r3,r4,_⟩:=h.rg t ht;exact⟨r1,r2,by omega,r4⟩) h.un
 simp[F.gx,ah,az];refine aj.rA hv ?_;simp;refine fa.fN d.timers.length (λ_=>True) [1,2,13,14,15] (λi=>[(15,.int .i64 i)]) (λi=>[]) [.keep [1,2,13,14,15]] ?_;simp;refine⟨λi hi K hK=> ?_,λK=> ?_⟩
 ·have hx:d.timers[i]? =some d.timers[i]:=gJ hi;obtain⟨r1,r2,r3,r4,j,hj,he,h4⟩:=h.rg _ (JaJ hi);have hf:=KO hp hj;rw[←he]at hf;have Ft:¬d.timers[i].at_≤d.now:=by omega
  have PE:¬(j:Int)<0:=by omega
  have hy:d.aa[j]? =some d.aa[j]:=gJ hj;simp[↓an,hi];refine aj.rA hf ?_;by_cases hk:d.timers[i].kind=4
  ·have h4':=h4 hk;simp[Ft,PE,hk,hj,h4',cT hi (by omega)];refine⟨[.keep [1,2,13,14,15],.dr 4],?_⟩;simp;exact hK _ (by simp)
  ·simp[Ft,PE,hk,cT hi (by omega)];refine⟨[.keep [1,2,13,14,15],.dr 4],?_⟩;simp;exact hK _ (by simp)
 ·simp[↓an,↓an];refine fa.fN d.aa.length (λ_=>True) [1,2,48,49,50] (λi=>[(50,.int .i64 i)]) (λi=>[]) [.keep [1,2,48,49,50]] ?_;simp;refine⟨λi hi K hK=> ?_,λK=> ?_⟩
  ·have hx:d.aa[i]? =some d.aa[i]:=gJ hi;have h5:=(hh _ (JaJ hi)).hand;have h6:d.aa[i].hand.has=false:=by rw[h5];rfl
   have hs:aP Pg 211 [bM d.timers,bW d.aa[i].cK,.int .i64 1] (.bl false):=
    aeQ hl (λt ht=>by have:=(h.rg t ht).1;omega)
   simp[↓an,hi];refine aK.rA hs ?_;simp[h6,cT hi (by omega)];refine⟨[.keep [1,2,48,49,50],.dr 7],?_⟩;simp;exact hK _ (by simp)
  ·simp[↓an,↓an];refine bH ?_;simp
def D7 (r:lU):WQ:=uB [r.p,r.c,r.n]
def pZ (p:bE):WO:=(D7 p.ring).map (λx=>⟨x,p.cK,true⟩)
def Si (r:lU):(D7 r).length≤3:=wT _
structure sj (d:aR):Prop where
 so:qF d.aE
 pm:d.aE.Perm (d.aa.flatMap pZ)
theorem qF.lt {l:WO} (h:qF l):∀(k i:Nat) (hk:i+k+1<l.length),l[i].index<l[i+k+1].index
 |0,i,hk=>h.2 i hk
 |k+1,i,hk=>Int.lt_trans (qF.lt h k i (by omega)) (h.2 (i+k+1) (by omega))
def qF.lt' {l:WO} (h:qF l) {i j:Nat} (Nh:i<j) (hj:j<l.length):l[i].index<l[j].index:=by
 obtain⟨k,rfl⟩:∃k,j=i+k+1:=⟨j-i-1,by omega⟩
 exact h.lt k i hj
def qF.nodup {l:WO} (h:qF l):(l.map (λs=>s.index)).Nodup:=by
 rw[List.nodup_iff_pairwise_ne,List.pairwise_map,JfV];intro i j hi hj Nh e;have:=h.lt' Nh hj;omega
def Sj (p:bE):(pZ p).map (λs=>s.index)=D7 p.ring:=by simp[pZ,Function.comp_def]
def sj.nd {d:aR} (h:sj d):(d.aa.flatMap (λp=>D7 p.ring)).Nodup:=by
 have h1:=h.so.nodup
 have h2:(d.aE.map (λs=>s.index)).Perm (d.aa.flatMap (λp=>D7 p.ring)):=by
  have:=h.pm.map (λs=>s.index);rw[List.map_flatMap]at this;simpa[Sj]using this
 exact h2.nodup_iff.1 h1
theorem MU {α β:Type} {f:α->List β}:∀ {l:List α},(l.flatMap f).Nodup->∀x∈l,(f x).Nodup
 |
  y::l,h,x,hx=>by
  rw[JeX,JeQ]at h
  rcases cJ.1 hx with rfl|hx
  ·exact h.1
  ·exact MU h.2.1 x hx
def sj.nd1 {d:aR} (h:sj d) {p:bE} (hp:p∈d.aa):(D7 p.ring).Nodup:=MU h.nd p hp
theorem MV {l:Xo}:(l.flatMap pZ).length≤3*l.length:=by
 induction l with
 |nil=>simp
 |
  cons p l ih=>
  rw[JeX,JaV,JbZ]
  have:(pZ p).length≤3:=by rw[pZ,JeW];exact Si _
  omega
def sj.len {d:aR} (h:sj d) (hp:d.aa.length≤3):d.aE.length≤9:=by
 have h1:=h.pm.length_eq;have h2:=MV (l:=d.aa);omega
def sj.find {d:aR} (h:sj d) (hp:d.aa.length≤3) {p:bE} (hm:p∈d.aa) {x:Int} (hx:x∈D7 p.ring):
  aP Pg 62 [bQ d.aE,.int .u32 x] (.tup [aZ ⟨x,p.cK,true⟩,.bl true]):=by
 have fQ:(⟨x,p.cK,true⟩:cG)∈d.aE:=by
  rw[h.pm.mem_iff,JlV];exact⟨p,hm,by rw[pZ,JcV];exact⟨x,hx,rfl⟩⟩
 obtain⟨f,hf,he⟩:=JiX.1 fQ;have hl:=h.len hp;have:=yh (l:=d.aE) (by omega) (x:=x) hf (by rw[he]) (λj hj hjf=>by have:=h.so.lt' hjf hf;rw[he]at this;simp at this;omega);rw[he]at this;exact this
def Pz (l:Xo) (i:Nat):Nat:=((l.take i).flatMap pZ).length
def Sk {l:Xo} {i:Nat} (h:i<l.length):Pz l (i+1)=Pz l i+(D7 l[i].ring).length:=by
 unfold Pz;rw[JcJ h,List.flatMap_append,JaV];simp[pZ]
def aeR (l:Xo) (i:Nat):Pz l i≤3*i:=by
 have:=MV (l:=l.take i);rw[lJ]at this;unfold Pz;omega
theorem XN {d:aR} (h:sj d) (hp:yd d.aa) (hh:∀p∈d.aa,lN d p):aP Pg 205 [bN d] (.bl true):=by
 refine ab.intro T.iy (by simp[F.iy]) ?_;have hl:=h.len hp.1;have mV:=hp.1;have hv:=KV (by omega) h.so;simp[F.iy,ah,az];refine aj.rA hv ?_;simp;refine fa.fN d.aa.length (λ_=>True) [1,2,3,22,23,24] (λi=>[(3,.int .i64 (Pz d.aa i)),(24,.int .i64 i)]) (λi=>[]) [.keep [1,2,3,22,23,24]] ?_;simp[show Pz d.aa 0=0 from rfl];refine⟨λi hi K hK=> ?_,λK=> ?_⟩
 ·have hx:d.aa[i]? =some d.aa[i]:=gJ hi;have hm:=JaJ hi;have h5:=(hh _ hm).hand;have h6:d.aa[i].hand.has=false:=by rw[h5];rfl
  have u9:=h.nd1 hm;have hfn:∀x∈D7 d.aa[i].ring,aP Pg 62 [bQ d.aE,.int .u32 x] (.tup [aZ ⟨x,d.aa[i].cK,true⟩,.bl true]):=λx hx=>h.find mV hm hx;have hLc:=gu d.aa[i].ring;have hc:=Sk hi;have vL:=aeR d.aa i;have hl3:=Si d.aa[i].ring;have e3:uB [d.aa[i].ring.p,d.aa[i].ring.c,d.aa[i].ring.n]=D7 d.aa[i].ring:=rfl;rw[e3]at hLc;generalize D7 d.aa[i].ring=L at*;rw[hc]at hK;simp[↓an,hi,h6];refine aj.rA hLc ?_;simp;refine fa.fN L.length (λ_=>True) [1,2,3,5,22,23,24,57,58,59] (λj=>[(3,.int .i64 ((Pz d.aa i:Int)+j)),(59,.int .i64 j)]) (λi=>[]) [.keep [1,2,3,5,22,23,24,57,58,59]] ?_;simp;refine⟨λj hj K2 yu=> ?_,λK2=> ?_⟩
  ·have hy:L[j]? =some L[j]:=gJ hj;have hf:=hfn _ (JaJ hj);have hw3:IntKind.i64.wrap ((Pz d.aa i:Int)+j+1)=(Pz d.aa i:Int)+((j:Int)+1):=by rw[wrap_i64 (by omega)];omega
   simp[↓an,hj];refine aj.rA hf ?_;simp[hw3,cT hj (by omega)];refine⟨[.keep [1,2,3,5,22,23,24,57,58,59],.dr 10],?_⟩;simp;exact yu _ (by simp)
  ·simp[↓an,↓an];refine aj.rA hLc ?_;simp;refine fa.fN L.length (λ_=>True) [1,2,3,5,12,22,23,24,90,91,92] (λj=>[(92,.int .i64 j)]) (λi=>[]) [.keep [1,2,3,5,12,22,23,24,90,91,92]] ?_;simp;refine⟨λj hj K3 hK3=> ?_,λK3=> ?_⟩
   ·have hy:L[j]? =some L[j]:=gJ hj;simp[↓an,hj,lr,show j≤L.length by omega];refine fa.fN j (λ_=>True) [1,2,3,5,12,14,22,23,24,90,91,92,99,100,101] (λm=>[(101,.int .i64 m)]) (λi=>[]) [.keep [1,2,3,5,12,14,22,23,24,90,91,92,99,100,101]] ?_;simp;refine⟨λm hm2 K4 hK4=> ?_,λK4=> ?_⟩
    ·have Va:m<L.length:=by omega
     have vE:m<min j L.length:=by omega
     have hxm:L[m]? =some L[m]:=gJ Va
     have bY:¬L[j]=L[m]:=by
      intro e;exact JfV.1 (List.nodup_iff_pairwise_ne.1 u9) m j Va hj hm2 e.symm
     simp[↓an,hm2,vE,bY,cT hm2 (by omega)];refine⟨[.keep [1,2,3,5,12,14,22,23,24,90,91,92,99,100,101]],?_⟩;simp;exact hK4 _ (by simp)
    ·simp[↓an,↓an,cT hj (by omega)];refine⟨[.keep [1,2,3,5,12,22,23,24,90,91,92]],?_⟩;simp;exact hK3 _ (by simp[lr])
   ·simp[↓an,↓an,cT hi (by omega)];refine⟨[.keep [1,2,3,22,23,24],.dr 5],?_⟩;simp;exact hK _ (by simp)
 ·have hcn:Pz d.aa d.aa.length=d.aE.length:=by
   unfold Pz;rw[JmV];exact h.pm.length_eq.symm
  simp[↓an,↓an,hcn];refine bH ?_;simp
structure VD (d:aR):Prop where
 ru:qE d.rules
 n0:0≤d.now
 n1:d.now≤16777216
 p0:0≤d.port
 p1:d.port≤65535
 bad:d.bad=0
 qV:yd d.aa
 tO:∀p∈d.aa,lN d p
 Jv:Dc d.aX
 KN:d.aX.length=d.aa.length
 XD:sj d
 tis:Sf d
 s0:0≤d.iM
 s1:d.iM≤d.now
 rcn:d.aY=[]
 buc:d.buckets=[]
def XO {d:aR} (h:VD d):aP Pg 108 [bN d] (.int .i64 0):=by
 refine ab.intro (aA R.my.2) (by simp[R.my]) ?_;have hl:=h.qV.1;have hs:0≤d.rules.fU:=by have:=h.ru.2.2.2.2.2.2.2.2.2.2.2.2.2.2.2.1;omega
 have Ps:∀(i:Nat) (h:i+1<d.aa.length),UQ d.aa[i].cK d.aa[i+1].cK=true:=by
  intro i hi;rw[h.qV.2 i (by omega),h.qV.2 (i+1) hi];exact Sd (by omega) (by omega)
 have hb:=h.bad;simp[R.my,ah,az];refine aj.rA (GC h.ru) ?_;simp;refine aj.rA (jH (n:=d.now) (a:=0) (b:=1099511627776) h.n0 (by have:=h.n1;omega)) ?_;simp;refine aj.rA (jH (n:=d.port) (a:=0) (b:=65535) h.p0 h.p1) ?_;simp[hb];refine aj.rA (jH (n:=0) (a:=0) (b:=1099511627776) (by omega) (by omega)) ?_;simp;refine aj.rA (XM (d:=d) (by omega) Ps) ?_;simp;refine aj.rA (KZ (d:=d) (k:=3) (by omega) (by omega) h.tO h.n0 hs) ?_;simp;refine aj.rA (KZ (d:=d) (k:=4) (by omega) (by omega) h.tO h.n0 hs) ?_;simp;refine aj.rA (KZ (d:=d) (k:=5) (by omega) (by omega) h.tO h.n0 hs) ?_;simp;refine aj.rA (Se (d:=d) h.Jv h.qV h.KN) ?_;simp;refine aj.rA (XN (d:=d) h.XD h.qV h.tO) ?_;simp;refine aj.rA (Sg (d:=d) h.tis h.n0 h.qV h.tO) ?_;simp;refine aj.rA (aeP (d:=d) h.s0 h.s1 h.rcn h.buc) ?_;simp;refine bH ?_;simp
def XE {d:aR} (h:VD d):aP Pg 60 [bN d] (.bl true):=by
 refine ab.intro (aA R.mA.2) (by simp[R.mA]) ?_;simp[R.mA,ah,az];refine aj.rA (XO h) ?_;simp;refine bH ?_;simp
def Sl:PV:= .sl 86 [] true
@[simp] def aiJ:Pure Sl:=by simp[Sl]
@[simp] theorem aeS:Sl.width=1:=rfl
def E0 (d:aR) (p:PV):PV:= .st 149 [bq d p,Sl]
@[simp↓] def aq6 (d:aR) (p:PV) (r:Zy):aO (E0 d p) (.f 0 0::r)=aO (bq d p) r:=by simp[E0]
def Sm (c:PV):PV:= .st 149 [c,Sl]
@[simp↓] def aq7 (d:aR) (p:PV) (r:Zy) (x:PV):cu (E0 d p) (.f 0 0::r) x=(cu (bq d p) r x).bind λc=>some (Sm c):=by
 simp[E0,Sm]
@[simp↓] def au3 (d:aR) (p:PV):Sm (bq d p)=E0 d p:=_root_.id rfl
@[simp] theorem aq8 (f:Nat->Bool) (d:aR) (p:PV):ae f (E0 d p)=ae f p:=by
 simp[E0,al]
@[simp] def au4 (ρ:Nat->Nat) (d:aR) (p:PV):aI ρ (E0 d p)=E0 d (aI ρ p):=by
 simp[E0,bw]
theorem abk (d:aR) (p:PV):PV.st 149 [bq d p,.sl 86 [] true]=E0 d p:=rfl
def xg (d:aR) (s:WO):aR:= {d with aE:=s}
def vu (d:aR) (s:Wu):aR:= {d with timers:=s}
@[simp] theorem aiK (d:aR) (s:WO):(xg d s).aE=s:=rfl
@[simp] theorem aBa (d:aR) (s t:WO):xg (xg d s) t=xg d t:=rfl
def dD (s:WO) (l:WQ):WO:=l.foldl (λs x=>s.filter (Jx x)) s
theorem pY:∀(l:WQ) (s:WO),(dD s l).length≤s.length
 |[],s=>JaQ _
 |x::l,s=>JgJ (pY l _) (JeV _ _)
def yj {s:WO} {l:WQ} {i:Nat} (h:i<l.length):dD s (l.take (i+1))=(dD s (l.take i)).filter (Jx l[i]):=by
 rw[JcJ h];unfold dD;rw[List.foldl_append];rfl
def yf {d:aR} (hs:d.aE.length≤1048576) {l:WQ} (hl:l.length≤8) (ps:Xo):
  ab Pg 66 [.pt KB [] 0,lr l] [.box (E0 d (.rs (KB+1) [] 0 ps.length ps.length 464 .tip)),.arr 464 (ps.map aH)]
   (λr fp=>r= .tup []∧fp=[.box (E0 (xg d (dD d.aE l)) (.rs (KB+1) [] 0 ps.length ps.length 464 .tip)),.arr 464 (ps.map aH)]):=by
 refine ab.intro (aA R.du.2) (by simp[R.du]) ?_;simp[R.du,ah,az];refine fa.fN l.length (λ_=>True) [0,6,7,8] (λi=>[(8,.int .i64 i)]) (λi=>[(KB,.box (E0 (xg d (dD d.aE (l.take i))) (.rs (KB+1) [] 0 ps.length ps.length 464 .tip)))]) [.keep [0,6,7,8]] ?_;simp[show∀s,dD s []=s from λ_=>rfl,show xg d d.aE=d from rfl];refine⟨λi hi K hK=> ?_,λK=> ?_⟩
 ·have hx:l[i]? =some l[i]:=gJ hi;rw[yj hi]at hK;have hle:=pY (l.take i) d.aE;generalize dD d.aE (l.take i)=S at*;simp[↓an,hi];refine aj.rA (II (l:=S) (by omega) l[i]) ?_;simp[cT hi (by omega)];refine⟨[.keep [0,6,7,8]],?_⟩;simp;exact hK _ (by simp[xg])
 ·simp[↓an];refine bj.with [] [KB,KB+1] ?_;simp[dN]
theorem AG {d:aR} (ht:d.timers.length≤1048575) {ps:Xo} {i:Nat} (hi:i<ps.length) (k:Int) {n:Int} (h1:0≤d.now) (h2:d.now≤16777216) (h3:0≤n) (h4:n≤16777216):
  ab Pg 68 [.pt KB [] 0,.int .i64 i,.int .i64 k,.int .i64 n] [.box (E0 d (.rs (KB+1) [] 0 ps.length ps.length 464 .tip)),.arr 464 (ps.map aH)]
   (λr fp=>r= .tup []∧fp=[.box (E0 (vu d (im d.timers ⟨d.now+n,ps[i].cK,k⟩)) (.rs (KB+1) [] 0 ps.length ps.length 464 .tip)),.arr 464 (ps.map aH)]):=by
 refine ab.intro T.cF (by simp[F.cF]) ?_;have hx:ps[i]? =some ps[i]:=gJ hi;have hw:IntKind.i64.wrap (d.now+n)=d.now+n:=wrap_i64 (by omega);have e:PV.st 34 [.int .i64 (d.now+n),bW ps[i].cK,.int .i64 k]=bn ⟨d.now+n,ps[i].cK,k⟩:=rfl;simp[F.cF,ah,az,hi,hw,e];refine aK.rA (dI (l:=d.timers) ht ⟨d.now+n,ps[i].cK,k⟩) ?_;simp;refine bj.with [] [KB,KB+1] ?_;simp[dN,vu]
def VD.Ix {d:aR} (h:VD d):G9 d where
 aa:=by have:=h.qV.1;omega
 aX:=by have:=h.Jv.1;omega
 aE:=by have:=h.XD.len h.qV.1;omega
 timers:=by have:=h.tis.len;omega
 aY:=by rw[h.rcn];simp
 buckets:=by rw[h.buc];simp
 aM:=λp hp=>by rw[(h.tO p hp).aM];simp
def vZ (r:lU) (s:jx) (own:Bool):lU:=if own=true then wQ r s else RY r s
def ka (r:lU) (own:Bool):WQ:=if own=true then s6 r else Iy r
def pR (p:bE) (r:lU):bE:= {p with ring:=r}
def lL (d:aR) (i:Nat) (hi:i<d.aa.length) (s:jx) (own:Bool):aR:=
 {d with aa:=d.aa.set i (pR d.aa[i] (vZ d.aa[i].ring s own)),aE:=oK (dD d.aE (ka d.aa[i].ring own)) ⟨s.loc,lK i,true⟩,timers:=im d.timers ⟨d.now+3*d.rules.iP,lK i,5⟩}
def EZ (r:lU) (own:Bool):(ka r own).length≤8:=by
 unfold ka s6 Iy;split
 ·split
  ·exact JgJ (wT _) (by simp)
  ·exact JgJ (wT _) (by simp)
 ·exact JgJ (wT _) (by simp)
theorem ux {x:cG}:∀ {l:WQ} {s:WO},x∈dD s l->x∈s
 |[],s,h=>h
 |y::l,s,h=>(JgQ.1 (ux (l:=l) h)).1
def zx {l:WO}:qF l↔(∀s∈l,s.index≠0)∧l.Pairwise (λa b=>a.index<b.index):=by
 constructor
 ·intro h;refine⟨λs hs=> ?_,JfV.2 (λi j hi hj Nh=>h.lt' Nh hj)⟩;obtain⟨i,hi,rfl⟩:=JiX.1 hs;exact h.1 i hi
 ·rintro⟨h1,h2⟩;exact⟨λi hi=>h1 _ (JaJ hi),λi hi=>JfV.1 h2 i (i+1) (by omega) hi (by omega)⟩
theorem Sn (s:cG):oK [] s=[s]:=rfl
def E3 (a:cG) (l:WO) (s:cG):oK (a::l) s=if a.index<s.index then a::oK l s else s::a::l:=by
 unfold oK;by_cases h:a.index<s.index<;>simp[gh,h]
theorem nE (s:cG):∀l,(oK l s).Perm (s::l)
 |[]=> .refl _
 |
  a::l=>by
  rw[E3];split
  ·exact((nE s l).cons a).trans (.swap s a l)
  ·exact .refl _
theorem zy {s:cG}:∀ {l:WO},l.Pairwise (λa b=>a.index<b.index)->(∀x∈l,x.index≠s.index)->(oK l s).Pairwise (λa b=>a.index<b.index)
 |[],_,_=>by simp[Sn]
 |
  a::l,h,hn=>by
  obtain⟨h1,h2⟩:=JfJ.1 h
  have hna:=hn a (by simp)
  rw[E3];split
  ·rename_i dx
   refine JfJ.2 ⟨λx hx=> ?_,zy h2 (λx hx=>hn x (by simp[hx]))⟩
   rcases cJ.1 ((nE s l).mem_iff.1 hx)with rfl|hx
   ·exact dx
   ·exact h1 x hx
  ·rename_i dx
   refine JfJ.2 ⟨λx hx=> ?_,h⟩
   rcases cJ.1 hx with rfl|hx
   ·omega
   ·have:=h1 x hx;omega
theorem Dg:∀(l:WQ) (s:WO),dD s l=s.filter (λx=>decide (x.index∉l))
 |
  [],s=>by
  have:s.filter (λx=>decide (x.index∉([]:WQ)))=s:=JdQ.2 (by simp)
  rw[this];rfl
 |
  y::l,s=>by
  have h:dD s (y::l)=dD (s.filter (Jx y)) l:=rfl
  rw[h,Dg l,List.filter_filter]
  congr 1;funext x
  by_cases h1:x.index=y<;>by_cases h2:x.index∈l<;>simp[Jx,h1,h2]
def K0 (r:lU) (s:jx) (own:Bool) (h:(D7 r).Nodup):
  (D7 (vZ r s own)).Perm (s.loc::(D7 r).filter (λx=>decide (x∉ka r own))):=by
 obtain⟨⟨ph,ps⟩,⟨ch,cs⟩,⟨nh,ns⟩⟩:=r
 cases own<;>cases ph<;>cases ch<;>cases nh<;>
  simp_all [D7,uB,vZ,ka,wQ,s6,RY,Iy,XK,oL,JoW]<;>
  first
   |exact List.Perm.swap _ _ _
   |(rw[if_neg (λe=>h e.symm)];exact List.Perm.swap _ _ _)
   |(rw[if_neg (λe=>h.1.1 e.symm)];exact List.Perm.swap _ _ _)
   |(rw[if_pos ⟨λe=>h.1.2 e.symm,λe=>h.2 e.symm⟩];exact List.Perm.swap _ _ _)
def K1 {r:lU} {own:Bool} {x:Int} (h:x∈ka r own):x∈D7 r:=by
 obtain⟨⟨ph,ps⟩,⟨ch,cs⟩,⟨nh,ns⟩⟩:=r
 cases own<;>cases ph<;>cases ch<;>cases nh<;>
  simp_all [D7,uB,ka,s6,Iy]<;>first|done|(rcases h with h|h<;>simp[h])
def So {α:Type} {l:List α} {i:Nat} (h:i<l.length):l=l.take i++l[i]::l.drop (i+1):=by
 rw[←List.drop_eq_getElem_cons h,JbV]
def OQ {α:Type} {l:List α} {i:Nat} (h:i<l.length) (x:α):l.set i x=l.take i++x::l.drop (i+1):=by
 rw[JmX,if_pos h]
theorem XP (p:bE) (r:lU):pZ (pR p r)=(D7 r).map (λx=>⟨x,p.cK,true⟩):=rfl
def sj.inst {d:aR} (h:sj d) {i:Nat} (hi:i<d.aa.length) (hk:d.aa[i].cK=lK i) {s:jx} (h1:1≤s.loc) (n7:∀x∈d.aE,x.index≠s.loc) (own:Bool):sj (lL d i hi s own):=by
 obtain⟨Ef,DM⟩:=zx.1 h.so;have u9:=h.nd;have rv:=h.pm;have hE:dD d.aE (ka d.aa[i].ring own)=d.aE.filter (λx=>decide (x.index∉ka d.aa[i].ring own)):=Dg _ _;constructor
 ·show qF (oK (dD d.aE (ka d.aa[i].ring own)) ⟨s.loc,lK i,true⟩);rw[zx,hE];refine⟨λx hx=> ?_,zy (DM.filter _) (λx hx=>n7 x (JgQ.1 hx).1)⟩;rcases cJ.1 ((nE _ _).mem_iff.1 hx)with rfl|hx
  ·show s.loc≠0;omega
  ·exact Ef x (JgQ.1 hx).1
 ·show(oK (dD d.aE (ka d.aa[i].ring own)) ⟨s.loc,lK i,true⟩).Perm ((d.aa.set i (pR d.aa[i] (vZ d.aa[i].ring s own))).flatMap pZ);rw[hE];refine(nE _ _).trans ?_;rw[OQ hi,List.flatMap_append,JeX,XP];have G1:=So hi;obtain⟨A,hA⟩:∃A,A=d.aa.take i:=⟨_,rfl⟩
  obtain⟨B,hB⟩:∃B,B=d.aa.drop (i+1):=⟨_,rfl⟩
  obtain⟨p,hp⟩:∃p,p=d.aa[i]:=⟨_,rfl⟩
  rw[←hA,←hB,←hp]at G1;rw[←hA,←hB,←hp];rw[←hp]at hk;rw[G1,List.flatMap_append,JeX]at rv u9;have Ft:=JeQ.1 u9;have PE:=JeQ.1 Ft.2.1;have hI:=K0 p.ring s own PE.1;have hf:=rv.filter (λx=>decide (x.index∉ka p.ring own))
  have key:∀ {l:Xo},(∀q∈l,∀x∈D7 q.ring,x∉D7 p.ring)->(l.flatMap pZ).filter (λx=>decide (x.index∉ka p.ring own))=l.flatMap pZ:=by
   intro l hl;refine JdQ.2 (λx hx=> ?_);obtain⟨q,hq,hx⟩:=JlV.1 hx;obtain⟨y,hy,rfl⟩:=JcV.1 hx;simp only[decide_eq_true_eq];exact λhd=>hl q hq y hy (K1 hd)
  have kA:=key (l:=A) (λq hq x hx hxp=>Ft.2.2 x (JlV.2 ⟨q,hq,hx⟩) x (JaX.2 (.inl hxp)) rfl);have kB:=key (l:=B) (λq hq x hx hxp=>PE.2.2 x hxp x (JlV.2 ⟨q,hq,hx⟩) rfl)
  have kp:(pZ p).filter (λx=>decide (x.index∉ka p.ring own))=((D7 p.ring).filter (λx=>decide (x∉ka p.ring own))).map (λx=>⟨x,p.cK,true⟩):=by
   unfold pZ;rw[List.filter_map];rfl
  rw[JhJ,JhJ,kA,kB,kp]at hf;have hI2:=hI.map (λx=>(⟨x,p.cK,true⟩:cG));refine((hf.cons _).trans ?_);refine List.Perm.trans ?_ ((hI2.symm.append_right _).append_left _);rw[JcQ,hk,JdV];exact List.perm_middle.symm
def Tok (t:cZ):Prop:=∃i,i<3∧t.peer=lK i
def sk {a b:cZ} {i j:Nat} (hi:i<3) (hj:j<3) (ha:a.peer=lK i) (hb:b.peer=lK j):
  ej a b=true↔a.at_<b.at_∨a.at_=b.at_∧(i<j∨i=j∧a.kind<b.kind):=by
 unfold ej;by_cases h1:a.at_=b.at_
 ·by_cases h2:i=j
  ·subst h2;have:a.peer=b.peer:=by rw[ha,hb]
   simp[h1,this]
  ·have h3:¬a.peer=b.peer:=by rw[ha,hb];exact λe=>h2 (s5 hi hj e)
   rcases Nat.lt_or_gt_of_ne h2 with h4|h4
   ·have:=Sd h4 hj;simp[h1,ha,hb,this,h4];exact Or.inl (λe=>h2 (s5 hi hj e))
   ·have h5:UQ (lK i) (lK j)=false:=by
     rcases(by omega:i=1∧j=0∨i=2∧j=0∨i=2∧j=1)with⟨rfl,rfl⟩|⟨rfl,rfl⟩|⟨rfl,rfl⟩<;>rfl
    have h6:¬i<j:=by omega
    simp[h1,ha,hb,h5,h6,h2];intro e;exact absurd (s5 hi hj e) h2
 ·simp[h1]
def D8 (t:cZ):Wu->Wu
 |[]=>[t]
 |x::r=>if ej t x=true then t::x::r else x::D8 t r
def BE (l:Wu) (t:cZ):im l t=D8 t (bI l t.peer t.kind):=by
 have:∀r:Wu,r.take (iu t r)++[t]++r.drop (iu t r)=D8 t r:=by
  intro r;induction r with
  |nil=>rfl
  |
   cons x r ih=>
   by_cases h:ej t x=true
   ·simp[iu,D8,h]
   ·simp[iu,D8,h]at ih⊢
    exact ih
 exact this _
theorem nF (t:cZ):∀l,(D8 t l).Perm (t::l)
 |[]=> .refl _
 |
  x::l=>by
  simp only[D8];split
  ·exact .refl _
  ·exact((nF t l).cons x).trans (.swap t x l)
theorem zB {t:cZ} (ht:Tok t):∀ {l:Wu},(∀x∈l,Tok x)->(∀x∈l,¬(x.peer=t.peer∧x.kind=t.kind))->l.Pairwise (λa b=>ej a b=true)->(D8 t l).Pairwise (λa b=>ej a b=true)
 |[],_,_,_=>by simp[D8]
 |
  x::l,hT,hn,h=>by
  obtain⟨h1,h2⟩:=JfJ.1 h
  obtain⟨i,hi,YY⟩:=ht
  obtain⟨j,hj,hxj⟩:=hT x (by simp)
  have hxn:=hn x (by simp)
  simp only[D8];split
  ·rename_i dx
   refine JfJ.2 ⟨λy hy=> ?_,h⟩
   rcases cJ.1 hy with rfl|hy
   ·exact dx
   ·obtain⟨k,hk,U4⟩:=hT y (by simp[hy])
    have:=h1 y hy
    rw[sk hj hk hxj U4]at this
    rw[sk hi hj YY hxj]at dx
    rw[sk hi hk YY U4]
    omega
  ·rename_i dx
   refine JfJ.2 ⟨λy hy=> ?_,zB ⟨i,hi,YY⟩ (λz hz=>hT z (by simp[hz])) (λz hz=>hn z (by simp[hz])) h2⟩
   rcases cJ.1 ((nF t l).mem_iff.1 hy)with rfl|hy
   ·rw[sk hi hj YY hxj]at dx
    rw[sk hj hi hxj YY]
    have bY:¬(j=i∧x.kind=y.kind):=λe=>hxn ⟨by rw[hxj,YY,e.1],e.2⟩
    omega
   ·exact h1 y hy
structure js (d:aR) (l:Wu) (m:Nat):Prop where
 so:l.Pairwise (λa b=>ej a b=true)
 rg:∀t∈l,2≤t.kind∧t.kind≤5∧d.now<t.at_∧t.at_≤4398046511104∧∃i,∃h:i<d.aa.length,t.peer=lK i∧(t.kind=4->d.aa[i].ik≠0)
 un:l.Pairwise (λa b=>¬(b.peer=a.peer∧b.kind=a.kind))
 len:l.length≤m
def js.toT {d:aR} {m:Nat} (hm:m≤1000) (h:js d d.timers m):Sf d where
 so:=λi hi=>JfV.1 h.so i (i+1) (by omega) hi (by omega)
 rg:=h.rg
 un:=λi j hi hj Nh=>JfV.1 h.un i j hi hj Nh
 len:=JgJ h.len hm
def qG {l:Wu} {k:Key} {n:Int} {x:cZ} (h:x∈bI l k n):x∈l∧¬(x.peer=k∧x.kind=n):=by
 obtain⟨h1,h2⟩:=JgQ.1 h;refine⟨h1,λe=> ?_⟩;simp[tc,e.1,e.2]at h2
def js.set {d:aR} {l:Wu} {m:Nat} (h:js d l m) (hp:d.aa.length≤3) {t:cZ} (k1:2≤t.kind) (k2:t.kind≤5) (a1:d.now<t.at_) (a2:t.at_≤4398046511104) {i:Nat} (hi:i<d.aa.length) (ht:t.peer=lK i) (h4:t.kind=4->d.aa[i].ik≠0):js d (im l t) (m+1):=by
 have ago:∀x∈l,Tok x:=λx hx=>by obtain⟨_,_,_,_,j,hj,e,_⟩:=h.rg x hx;exact⟨j,by omega,e⟩
 have Hc:Tok t:=⟨i,by omega,ht⟩
 rw[BE];have hc:∀x∈bI l t.peer t.kind,x∈l∧¬(x.peer=t.peer∧x.kind=t.kind):=λx hx=>qG hx;have Fu:=nF t (bI l t.peer t.kind);constructor
 ·exact zB Hc (λx hx=>ago x (hc x hx).1) (λx hx=>(hc x hx).2) (h.so.filter _)
 ·intro x hx;rcases cJ.1 (Fu.mem_iff.1 hx)with rfl|hx
  ·exact⟨k1,k2,a1,a2,i,hi,ht,h4⟩
  ·exact h.rg x (hc x hx).1
 ·have agp:∀ {a b:cZ},¬(b.peer=a.peer∧b.kind=a.kind)->¬(a.peer=b.peer∧a.kind=b.kind):=λhn e=>hn ⟨e.1.symm,e.2.symm⟩;refine(Fu.pairwise_iff agp).2 (JfJ.2 ⟨λx hx=>(hc x hx).2,h.un.filter _⟩)
 ·rw[Fu.length_eq,JbZ];have:(bI l t.peer t.kind).length≤l.length:=JeV _ _;have:=h.len;omega
structure VM (d:aR) (m:Nat):Prop where
 vd:VD d
 ti:js d d.timers m
def ye.of {d e:aR} (hn:e.now=d.now) (hr:e.rules=d.rules) {s:jx} (h:ye d s):ye e s:=by
 obtain⟨h1,h2,h3,h4,h5,h6⟩:=h;exact⟨h1,by rw[hn];exact h2,by rw[hr];exact h3,h4,h5,h6⟩
def cB.of {d e:aR} (hn:e.now=d.now) (hr:e.rules=d.rules) {s:nU} (h:cB d s):cB e s:=by
 rcases h with⟨h1,h2⟩|h
 ·exact Or.inl ⟨h1,h2.of hn hr⟩
 ·exact Or.inr h
def cB.z (d:aR):cB d oL:=Or.inr ⟨rfl,rfl⟩
def cB.XK {d:aR} {p:nU} (h:cB d p):cB d (XK p):=by
 unfold Ab.XK;split
 ·exact h
 ·exact .z d
def lN.of {d e:aR} (hn:e.now=d.now) (hr:e.rules=d.rules) {p:bE} (h:lN d p):lN e p:=by
 obtain⟨h1,h2,h3,h4,h5,h6,h7,h8,h9,h10,h11,h12⟩:=h;exact⟨h1,h2,h3,h4,h5,h6,h7,h8,h9,h10.of hn hr,h11.of hn hr,h12.of hn hr⟩
def lN.pR {d:aR} {p:bE} (h:lN d p) {r:lU} (h1:cB d r.p) (h2:cB d r.c) (h3:cB d r.n):lN d (pR p r):=by
 obtain⟨g1,g2,g3,g4,g5,g6,g7,g8,g9,g10,g11,g12⟩:=h;exact⟨g1,g2,g3,g4,g5,g6,g7,g8,g9,h1,h2,h3⟩
def Sp {d:aR} {p:bE} (h:lN d p) {s:jx} (hs:ye d s) (own:Bool):cB d (vZ p.ring s own).p∧cB d (vZ p.ring s own).c∧cB d (vZ p.ring s own).n:=by
 have Dy:cB d ⟨true,s⟩:=Or.inl ⟨rfl,hs⟩;unfold vZ;split
 ·unfold wQ;split
  ·exact⟨h.rn,Dy,.z d⟩
  ·exact⟨h.rc.XK,Dy,.z d⟩
 ·exact⟨.z d,h.rc,Dy⟩
def VM.inst {d:aR} {m:Nat} (h:VM d m) (hm:m≤999) {i:Nat} (hi:i<d.aa.length) {s:jx} (hs:ye d s) (h1:1≤s.loc) (n7:∀x∈d.aE,x.index≠s.loc) (own:Bool):VM (lL d i hi s own) (m+1):=by
 obtain⟨v,t⟩:=h;have mV:=v.qV.1;have Fp:d.aa[i].cK=lK i:=v.qV.2 i hi;have hlen:(lL d i hi s own).aa.length=d.aa.length:=JnW;have Pr:=Sp (v.tO _ (JaJ hi)) hs own;obtain⟨q1,q2,q3,q4,q5,q6,q7,q8,q9,q10,q11,_⟩:=v.ru;have T6:=v.n0;have Ft:=v.n1
 have cA:∀(j:Nat) (hj:j<d.aa.length) (Zm:j<(lL d i hi s own).aa.length),(lL d i hi s own).aa[j].cK=d.aa[j].cK∧(lL d i hi s own).aa[j].ik=d.aa[j].ik:=by
  intro j hj Zm;simp only[lL,List.getElem_set];split
  ·rename_i e;subst e;exact⟨rfl,rfl⟩
  ·exact⟨rfl,rfl⟩
 have ht0:=t.set mV (t:=⟨d.now+3*d.rules.iP,lK i,5⟩) (by show(2:Int)≤5;omega) (by show(5:Int)≤5;omega) (by show d.now<d.now+3*d.rules.iP;omega) (by show d.now+3*d.rules.iP≤4398046511104;omega) hi rfl (λe=>absurd e (by show¬(5:Int)=4;omega))
 have ht1:js (lL d i hi s own) (lL d i hi s own).timers (m+1):=by
  obtain⟨a,b,c,e⟩:=ht0;refine⟨a,λx hx=> ?_,c,e⟩;obtain⟨r1,r2,r3,r4,j,hj,r5,r6⟩:=b x hx;exact⟨r1,r2,r3,r4,j,by rw[hlen];exact hj,r5,λhk=>by rw[(cA j hj _).2];exact r6 hk⟩
 refine⟨?_,ht1⟩;constructor
 ·exact v.ru
 ·exact v.n0
 ·exact v.n1
 ·exact v.p0
 ·exact v.p1
 ·exact v.bad
 ·refine⟨by rw[hlen];exact mV,λj hj=> ?_⟩;rw[(cA j (by rw[hlen]at hj;exact hj) hj).1];exact v.qV.2 j _
 ·intro p hp;have hp':p∈d.aa.set i (Ab.pR d.aa[i] (vZ d.aa[i].ring s own)):=hp;refine lN.of (d:=d) (e:=lL d i hi s own) rfl rfl ?_;rcases JjZ hp' with hp|rfl
  ·exact v.tO p hp
  ·exact(v.tO _ (JaJ hi)).pR Pr.1 Pr.2.1 Pr.2.2
 ·exact v.Jv
 ·rw[hlen];exact v.KN
 ·exact v.XD.inst hi Fp h1 n7 own
 ·exact ht1.toT (by omega)
 ·exact v.s0
 ·exact v.s1
 ·exact v.rcn
 ·exact v.buc
def Key.put (k:Key) (j:Nat) (b:UInt8):Key:=⟨k.l.set j b,by rw[JnW];exact k.h⟩
def Dh (k:Key) {j:Nat} (hj:j<32) {n:Int} (h0:0≤n) (h1:n<256):cu (bW k) [.i j 1] (.int .u8 n)=some (bW (k.put j (UInt8.ofNat n.toNat))):=by
 have hn:(UInt8.ofNat n.toNat).toNat=n.toNat:=by simp;omega
 have hx:(k.l.map u8)[j]? =some (u8 (k.l[j]'(by rw[k.h];exact hj))):=by
  rw[List.getElem?_map,gJ (by rw[k.h];exact hj)];rfl
 have hu:PV.int .u8 n=u8 (UInt8.ofNat n.toNat):=by simp only[u8,hn];congr 1;omega
 have h2:cu (.ar 1 32 (k.l.map u8)) [.i j 1] (.int .u8 n)=some (.ar 1 32 ((k.l.map u8).set j (.int .u8 n))):=by simp[hx,u8]
 have h3:bW (k.put j (UInt8.ofNat n.toNat))= .ar 1 32 ((k.l.map u8).set j (.int .u8 n)):=by
  show PV.ar 1 32 ((k.l.set j (UInt8.ofNat n.toNat)).map u8)=_;rw[JeJ,hu]
 rw[h3];exact h2
theorem OR (s:jx) (k:Key):Gc s (bW k)=dQ {s with send:=k.fv}:=rfl
theorem OS (s:jx) (k:Key):Ge s (bW k)=dQ {s with recv:=k.fv}:=rfl
@[simp] def au5 (w:td):Pure (wP w):=by simp[wP]
@[simp] theorem aFa (w:td):wk (wP w)=wP w:=by simp[wP]
@[simp↓] theorem aBb (g:Bool) (w:td) (K:W7):eT g (wP w) K=K (wP w):=_root_.id rfl
@[simp] theorem aq9 (w:td):(wP w).width=6:=_root_.id rfl
@[simp] theorem au6 (w:td):(wP w).aV=true:=_root_.id rfl
def zW:td:=⟨false,0,0,0,0,0⟩
def Sq:nW zW=yz:=by
 unfold nW yz;congr 1;rw[dh];rfl
theorem zC (s:jx) (w:td):Bz s (wP w)=dQ {s with tC:=nW w}:=rfl
theorem K5 (w:td):(nW w).p=wP w:=rfl
def WI (w:td):Prop:=0≤w.top∧w.top<8∧(w.used=true∨w=zW)
def WI.z:WI zW:=⟨by decide,by decide,Or.inr rfl⟩
def WI.acc {w:td} (h:WI w) {c:Int} (c0:0≤c) (c8:c<8):SmW w c∧WI (tL w c).1:=by
 have hs:SmW w c:=⟨h.1,h.2.1,c0,c8⟩
 refine⟨hs,(IJ hs).1,(IJ hs).2,?_⟩;rcases XJ hs with⟨_,h2⟩|h2
 ·rw[h2];exact h.2.2
 ·exact Or.inl h2
def WI.ok {w:td} (h:WI w):AI (nW w):=by
 rcases h.2.2 with h2|h2
 ·exact Or.inr ⟨w,h2,⟨h.1,h.2.1⟩,rfl⟩
 ·rw[h2];exact Or.inl Sq
def tQ (c:ql):Nat->td×ql
 |0=>(zW,c)
 |i+1=>((tL (tQ c i).1 ((lg (tQ c i).2 8).1:Int)).1,(lg (tQ c i).2 8).2)
theorem wU {c:ql} (h:eC c):∀i,WI (tQ c i).1∧eC (tQ c i).2
 |0=>⟨.z,h⟩
 |
  i+1=>by
  obtain⟨h1,h2⟩:=wU h i
  have hl:=cS (tQ c i).2 (n:=8) (by omega)
  exact⟨(h1.acc (by omega) (by omega)).2,cq h2 8⟩
def sW (s:jx) (w:td):jx:= {s with tC:=nW w}
def aeT {s:jx} (h:s.tC=yz):sW s zW=s:=by unfold sW;rw[Sq,←h]
theorem ef {c:ql} (h:eC c) {d:aR} (h0:0≤d.now) (h1:d.now≤16777216) (hr:qE d.rules) {n:Nat} (Ft:1≤n) (PE:n≤100):
  ab Pg 34 [.pt KB [] 0,bN d,.int .u32 n] [.box (dV c)] (λr fp=>∃w:jx×ql,(ye d w.1∧w.1.loc=n∧eC w.2)∧r=dQ w.1∧fp=[.box (dV w.2)]):=by
 refine ab.intro T.ef (by simp[F.ef]) ?_;simp[F.ef,ah,az];refine oG.run [KB] rfl ?_;simp;refine aj.fj KB (aT h 12 (by omega)) ?_;have l0:=cS c (n:=12) (by omega);have o0:=cq h 12;generalize lg c 12=x0 at*;have w1:IntKind.i64.wrap ((x0.1:Int)*5000)=(x0.1:Int)*5000:=wrap_i64 (by omega);have w2:IntKind.i64.wrap (d.now-min d.now ((x0.1:Int)*5000))=d.now-min d.now ((x0.1:Int)*5000):=wrap_i64 (by omega);simp[w1,w2];obtain⟨b,hb⟩:∃b,b=d.now-min d.now ((x0.1:Int)*5000):=⟨_,rfl⟩
 rw[←hb];refine oG.run [KB,8] rfl ?_;have w3:IntKind.u32.wrap (7000+(n:Int))=7000+(n:Int):=by simp[IntKind.wrap,IntKind.bits,IntKind.signed];omega
 simp[w3];refine aj.tH KB (pr o0) ?_;rintro⟨k1,c1⟩ o1;simp;refine aj.tH KB (pr o1) ?_;rintro⟨k2,c2⟩ o2;simp;refine aj.fj KB (nu o2) ?_;have o3:eC (bool c2).2:=cq o2 2;generalize bool c2=x3 at*;simp;refine aK.ret (jG n (7000+n) k1.fv k2.fv b x3.1 d.rules.pV) (by simp[Key.fv]) (by simp) (by simp) ?_;have w5:IntKind.u8.wrap (n:Int)=(n:Int):=wrap_u8 (by omega)
 have e1:∀k:Key,cu (bW k) [.i 0 1] (.int .u8 (n:Int))=some (bW (k.put 0 (UInt8.ofNat n))):=λk=>by
  have:=Dh k (j:=0) (by omega) (n:=(n:Int)) (by omega) (by omega);simpa using this
 have e2:∀k:Key,cu (bW k) [.i 1 1] (.int .u8 1)=some (bW (k.put 1 1)):=λk=>by
  have:=Dh k (j:=1) (by omega) (n:=1) (by omega) (by omega);simpa using this
 have e3:∀k:Key,cu (bW k) [.i 1 1] (.int .u8 2)=some (bW (k.put 1 2)):=λk=>by
  have:=Dh k (j:=1) (by omega) (n:=2) (by omega) (by omega);simpa using this
 simp[w5,e1,e2,e3,OR,OS];refine aj.fj KB (aT o3 4 (by omega)) ?_;have l4:=cS x3.2 (n:=4) (by omega);have o4:=cq o3 4;generalize lg x3.2 4=x4 at*;obtain⟨s0,G4⟩:∃s0:jx,s0=⟨n,7000+n,((k1.put 0 (UInt8.ofNat n)).put 1 1).fv,((k2.put 0 (UInt8.ofNat n)).put 1 2).fv,0,d.rules.pV,yz,b,x3.1⟩:=⟨_,rfl⟩
 rw[←G4];simp;have agq:s0.tC=yz:=by rw[G4]
 refine⟨λhx=> ?_,λhx=>⟨λY0=> ?_,λY0=> ?_⟩⟩
 ·refine aj.fj KB (aT o4 40 (by omega)) ?_;have l5:=cS x4.2 (n:=40) (by omega);have o5:=cq o4 40;generalize lg x4.2 40=x5 at*;have w8:IntKind.u64.wrap (x5.1:Int)=(x5.1:Int):=by simp[IntKind.wrap,IntKind.bits,IntKind.signed];omega
  simp[w8];obtain⟨s1,Ef⟩:∃s1:jx,s1= {s0 with next:=(x5.1:Int)}:=⟨_,rfl⟩
  rw[←Ef];have Uo:s1.tC=yz:=by rw[Ef];exact agq
  have hnx:0≤s1.next∧s1.next≤18446744073709543423:=by rw[Ef];show 0≤(x5.1:Int)∧(x5.1:Int)≤18446744073709543423;omega
  have Zn:s1.eY=s0.eY∧s1.born=s0.born∧s1.loc=s0.loc:=by rw[Ef];exact⟨rfl,rfl,rfl⟩
  refine aj.fj KB (aT o5 4 (by omega)) ?_;have l6:=cS x5.2 (n:=4) (by omega);have o6:=cq o5 4;generalize lg x5.2 4=x6 at*;simp;refine fa.fN x6.1 (λ_=>True) [0,6,8,9] (λi=>[(9,.int .i64 ((x6.1:Int)-i))]) (λi=>[(8,.box (dQ (sW s1 (tQ x6.2 i).1))),(KB,.box (dV (tQ x6.2 i).2))]) [.keep [0,6,8,9]] ?_;simp[show(tQ x6.2 0)=(zW,x6.2) from rfl,aeT Uo];refine⟨λi hi K hK=> ?_,λK=> ?_⟩
  ·obtain⟨g1,g2⟩:=wU o6 i;have gl:=cS (tQ x6.2 i).2 (n:=8) (by omega);have Be:tQ x6.2 (i+1)=((tL (tQ x6.2 i).1 ((lg (tQ x6.2 i).2 8).1:Int)).1,(lg (tQ x6.2 i).2 8).2):=rfl;rw[Be]at hK;generalize tQ x6.2 i=y at*;have hgt:(0:Int)<(x6.1:Int)-i:=by omega
   have hw9:IntKind.i64.wrap ((x6.1:Int)-i-1)=(x6.1:Int)-(i+1):=by rw[wrap_i64 (by omega)];omega
   simp[↓an,hi];refine oG.run [KB] rfl ?_;simp[sW];refine aj.fj KB (aT g2 8 (by omega)) ?_;generalize lg y.2 8=z at*;have hw8:IntKind.u64.wrap (z.1:Int)=(z.1:Int):=by simp[IntKind.wrap,IntKind.bits,IntKind.signed];omega
   simp[hw8,K5];refine aK.rA (bK (g1.acc (c:=(z.1:Int)) (by omega) (by omega)).1) ?_;simp[zC,hw9];refine⟨[.keep [0,6,8,9]],?_⟩;simp;exact hK _ (by simp[sW])
  ·obtain⟨g1,g2⟩:=wU o6 x6.1;generalize tQ x6.2 x6.1=y at*;simp[↓an,↓an];refine bj.with [] [KB] ?_;simp[af,aG];refine⟨sW s1 y.1,y.2,⟨⟨?_,?_,?_,?_,?_,?_⟩,?_,g2⟩,rfl,rfl⟩
   ·show 0≤s1.born;rw[Zn.2.1,G4];dsimp only;omega
   ·show s1.born≤d.now;rw[Zn.2.1,G4];dsimp only;omega
   ·show s1.eY=d.rules.pV;rw[Zn.1,G4]
   ·show 0≤s1.next;have:=hnx;omega
   ·show s1.next≤_;have:=hnx;omega
   ·exact g1.ok
   ·show s1.loc=n;rw[Zn.2.2,G4]
 ·obtain⟨q1,q2,q3,_⟩:=hr;have hfe:s0.eY=d.rules.pV:=by rw[G4]
  refine oG.run [KB] rfl ?_;simp;refine aj.fj KB (aT o4 4 (by omega)) ?_;have l5:=cS x4.2 (n:=4) (by omega);have o5:=cq o4 4;generalize lg x4.2 4=x5 at*;have w8:IntKind.u64.wrap (x5.1:Int)=(x5.1:Int):=by simp[IntKind.wrap,IntKind.bits,IntKind.signed];omega
  have w9:IntKind.u64.wrap (s0.eY-min s0.eY (x5.1:Int))=s0.eY-min s0.eY (x5.1:Int):=by rw[hfe];simp[IntKind.wrap,IntKind.bits,IntKind.signed];omega
  simp[w8,w9];obtain⟨s1,Ef⟩:∃s1:jx,s1= {s0 with next:=s0.eY-min s0.eY (x5.1:Int)}:=⟨_,rfl⟩
  rw[←Ef];have Uo:s1.tC=yz:=by rw[Ef];exact agq
  have hnx:0≤s1.next∧s1.next≤18446744073709543423:=by rw[Ef];show 0≤s0.eY-min s0.eY (x5.1:Int)∧s0.eY-min s0.eY (x5.1:Int)≤18446744073709543423;rw[hfe];omega
  have Zn:s1.eY=s0.eY∧s1.born=s0.born∧s1.loc=s0.loc:=by rw[Ef];exact⟨rfl,rfl,rfl⟩
  refine aj.fj KB (aT o5 4 (by omega)) ?_;have l6:=cS x5.2 (n:=4) (by omega);have o6:=cq o5 4;generalize lg x5.2 4=x6 at*;simp;refine fa.fN x6.1 (λ_=>True) [0,6,8,9] (λi=>[(9,.int .i64 ((x6.1:Int)-i))]) (λi=>[(8,.box (dQ (sW s1 (tQ x6.2 i).1))),(KB,.box (dV (tQ x6.2 i).2))]) [.keep [0,6,8,9]] ?_;simp[show(tQ x6.2 0)=(zW,x6.2) from rfl,aeT Uo];refine⟨λi hi K hK=> ?_,λK=> ?_⟩
  ·obtain⟨g1,g2⟩:=wU o6 i;have gl:=cS (tQ x6.2 i).2 (n:=8) (by omega);have Be:tQ x6.2 (i+1)=((tL (tQ x6.2 i).1 ((lg (tQ x6.2 i).2 8).1:Int)).1,(lg (tQ x6.2 i).2 8).2):=rfl;rw[Be]at hK;generalize tQ x6.2 i=y at*;have hgt:(0:Int)<(x6.1:Int)-i:=by omega
   have hw9:IntKind.i64.wrap ((x6.1:Int)-i-1)=(x6.1:Int)-(i+1):=by rw[wrap_i64 (by omega)];omega
   simp[↓an,hi];refine oG.run [KB] rfl ?_;simp[sW];refine aj.fj KB (aT g2 8 (by omega)) ?_;generalize lg y.2 8=z at*;have hw8:IntKind.u64.wrap (z.1:Int)=(z.1:Int):=by simp[IntKind.wrap,IntKind.bits,IntKind.signed];omega
   simp[hw8,K5];refine aK.rA (bK (g1.acc (c:=(z.1:Int)) (by omega) (by omega)).1) ?_;simp[zC,hw9];refine⟨[.keep [0,6,8,9]],?_⟩;simp;exact hK _ (by simp[sW])
  ·obtain⟨g1,g2⟩:=wU o6 x6.1;generalize tQ x6.2 x6.1=y at*;simp[↓an,↓an];refine bj.with [] [KB] ?_;simp[af,aG];refine⟨sW s1 y.1,y.2,⟨⟨?_,?_,?_,?_,?_,?_⟩,?_,g2⟩,rfl,rfl⟩
   ·show 0≤s1.born;rw[Zn.2.1,G4];dsimp only;omega
   ·show s1.born≤d.now;rw[Zn.2.1,G4];dsimp only;omega
   ·show s1.eY=d.rules.pV;rw[Zn.1,G4]
   ·show 0≤s1.next;have:=hnx;omega
   ·show s1.next≤_;have:=hnx;omega
   ·exact g1.ok
   ·show s1.loc=n;rw[Zn.2.2,G4]
 ·refine aj.fj KB (aT o4 4 (by omega)) ?_;have l6:=cS x4.2 (n:=4) (by omega);have o6:=cq o4 4;generalize lg x4.2 4=x6 at*;simp;refine fa.fN x6.1 (λ_=>True) [0,6,8,9] (λi=>[(9,.int .i64 ((x6.1:Int)-i))]) (λi=>[(8,.box (dQ (sW s0 (tQ x6.2 i).1))),(KB,.box (dV (tQ x6.2 i).2))]) [.keep [0,6,8,9]] ?_;simp[show(tQ x6.2 0)=(zW,x6.2) from rfl,aeT agq];refine⟨λi hi K hK=> ?_,λK=> ?_⟩
  ·obtain⟨g1,g2⟩:=wU o6 i;have gl:=cS (tQ x6.2 i).2 (n:=8) (by omega);have Be:tQ x6.2 (i+1)=((tL (tQ x6.2 i).1 ((lg (tQ x6.2 i).2 8).1:Int)).1,(lg (tQ x6.2 i).2 8).2):=rfl;rw[Be]at hK;generalize tQ x6.2 i=y at*;have hgt:(0:Int)<(x6.1:Int)-i:=by omega
   have hw9:IntKind.i64.wrap ((x6.1:Int)-i-1)=(x6.1:Int)-(i+1):=by rw[wrap_i64 (by omega)];omega
   simp[↓an,hi];refine oG.run [KB] rfl ?_;simp[sW];refine aj.fj KB (aT g2 8 (by omega)) ?_;generalize lg y.2 8=z at*;have hw8:IntKind.u64.wrap (z.1:Int)=(z.1:Int):=by simp[IntKind.wrap,IntKind.bits,IntKind.signed];omega
   simp[hw8,K5];refine aK.rA (bK (g1.acc (c:=(z.1:Int)) (by omega) (by omega)).1) ?_;simp[zC,hw9];refine⟨[.keep [0,6,8,9]],?_⟩;simp;exact hK _ (by simp[sW])
  ·obtain⟨g1,g2⟩:=wU o6 x6.1;generalize tQ x6.2 x6.1=y at*;simp[↓an,↓an];refine bj.with [] [KB] ?_;simp[af,aG];refine⟨sW s0 y.1,y.2,⟨⟨?_,?_,?_,?_,?_,?_⟩,?_,g2⟩,rfl,rfl⟩
   ·show 0≤s0.born;rw[G4];dsimp only;omega
   ·show s0.born≤d.now;rw[G4];dsimp only;omega
   ·show s0.eY=d.rules.pV;rw[G4]
   ·show 0≤s0.next;rw[G4];dsimp only;omega
   ·show s0.next≤_;rw[G4];dsimp only;omega
   ·exact g1.ok
   ·show s0.loc=n;rw[G4]
structure VP (d:aR) (i:Nat):Prop where
 vm:VM d i
 sl:d.aE=[]
 len:d.aa.length=i
 rg:∀p∈d.aa,pZ p=[]
def sd (d:aR) (p:bE) (i:Nat) (T:Wu):aR:= {d with aa:=d.aa++[p],aX:=d.aX++[rt i],timers:=T}
def VP.add {d:aR} {i:Nat} (h:VP d i) (hi:i<3) {p:bE} (hp:lN d p) (hk:p.cK=lK i) (hr:pZ p=[]) {T:Wu}
  (hT:T=d.timers∨∃a,d.now<a∧a≤4398046511104∧p.ik≠0∧T=im d.timers ⟨a,lK i,4⟩):VP (sd d p i T) (i+1):=by
 obtain⟨⟨v,t⟩,xd,hlen,hrg⟩:=h;have mO:(sd d p i T).aa.length=i+1:=by show(d.aa++[p]).length=i+1;simp[hlen]
 have cA:∀(j:Nat) (hj:j<d.aa.length) (Zm:j<(sd d p i T).aa.length),(sd d p i T).aa[j]=d.aa[j]:=by
  intro j hj Zm;show(d.aa++[p])[j]=d.aa[j];exact List.getElem_append_left hj
 have ab3:∀(Zm:i<(sd d p i T).aa.length),(sd d p i T).aa[i]=p:=by
  intro Zm;have:(d.aa++[p])[d.aa.length]'(by simp)=p:=by simp
  show(d.aa++[p])[i]'(by simpa[hlen]using Zm)=p;simp only[←hlen,List.getElem_concat_length]
 have t0:js (sd d p i T) d.timers i:=by
  obtain⟨a,b,c,e⟩:=t;refine⟨a,λx hx=> ?_,c,e⟩;obtain⟨r1,r2,r3,r4,j,hj,r5,r6⟩:=b x hx;exact⟨r1,r2,r3,r4,j,by rw[mO];omega,r5,λhk=>by rw[cA j hj];exact r6 hk⟩
 have t1:js (sd d p i T) (sd d p i T).timers (i+1):=by
  show js (sd d p i T) T (i+1);rcases hT with rfl|⟨a,a1,a2,a3,e⟩
  ·obtain⟨a,b,c,e⟩:=t0;exact⟨a,b,c,by omega⟩
  ·have:=t0.set (by rw[mO];omega) (t:=⟨a,lK i,4⟩) (by show(2:Int)≤4;omega) (by show(4:Int)≤5;omega) a1 a2 (i:=i) (by rw[mO];omega) rfl (λ_=>by rw[ab3];exact a3);rw[←e]at this;exact this
 have asO:∀q∈(sd d p i T).aa,pZ q=[]:=by
  intro q hq;rcases JaX.1 (show q∈d.aa++[p] from hq)with hq|hq
  ·exact hrg q hq
  ·rw[List.mem_singleton.1 hq];exact hr
 refine⟨⟨?_,t1⟩,xd,mO,asO⟩;constructor
 ·exact v.ru
 ·exact v.n0
 ·exact v.n1
 ·exact v.p0
 ·exact v.p1
 ·exact v.bad
 ·refine⟨by rw[mO];omega,λj hj=> ?_⟩;rw[mO]at hj;by_cases e:j<d.aa.length
  ·rw[cA j e];exact v.qV.2 j e
  ·have:j=i:=by omega
   subst this;rw[ab3];exact hk
 ·intro q hq;refine lN.of (d:=d) (e:=sd d p i T) rfl rfl ?_;rcases JaX.1 (show q∈d.aa++[p] from hq)with hq|hq
  ·exact v.tO q hq
  ·rw[List.mem_singleton.1 hq];exact hp
 ·have Hd:=v.KN;refine⟨?_,λj hj=> ?_⟩
  ·show(d.aX++[rt i]).length≤3;simp;omega
  ·have Ek:j<(d.aX++[rt i]).length:=hj;show(d.aX++[rt i])[j]=rt j;by_cases e:j<d.aX.length
   ·rw[List.getElem_append_left e];exact v.Jv.2 j e
   ·have:j=d.aX.length:=by simp at Ek;omega
    have h2:j=i:=by omega
    rw[List.getElem_append_right (by omega)];simp[h2]
 ·show(d.aX++[rt i]).length=(d.aa++[p]).length;have Hd:=v.KN;simp;omega
 ·constructor
  ·show qF d.aE;exact v.XD.so
  ·show d.aE.Perm ((d.aa++[p]).flatMap pZ);rw[xd]
   have:(d.aa++[p]).flatMap pZ=[]:=by
    rw[List.flatMap_eq_nil_iff];exact asO
   rw[this]
 ·exact t1.toT (by omega)
 ·exact v.s0
 ·exact v.s1
 ·exact v.rcn
 ·exact v.buc
def zD:PV:=PV.st 148 [PV.st 10 [.int .u64 0,.int .u64 0,.int .i64 0,.int .i64 0,.int .i64 0,.int .i64 0,.int .i64 0,.int .i64 0,.int .i64 0,.int .i64 0],
 .ar 1 32 (zr 32 (.int .u8 0)),.ar 1 32 (zr 32 (.int .u8 0)),.int .i64 0,.ar 1 32 (zr 32 (.int .u8 0)),.int .i64 0,.sl 464 [] true,.sl 50 [] true,.sl 34 [] true,.sl 34 [] true,
 .ar 1 32 (zr 32 (.int .u8 0)),.int .i64 0,.sl 1 [] true,.sl 19 [] true,.int .i64 0]
@[simp] theorem ara:zD.width=148:=rfl
@[simp] theorem aBc (ρ:Nat->Nat):aI ρ zD=zD:=by simp[zD]
@[simp] theorem au7 (f:Nat->Bool):ae f zD=true:=by simp[zD]
@[simp] theorem aBd (k sz:Nat) (l:WG):eG k sz l zD=zD:=by simp[zD]
theorem js.mono {d:aR} {l:Wu} {m k:Nat} (h:js d l m) (hk:m≤k):js d l k:=⟨h.so,h.rg,h.un,JgJ h.len hk⟩
def aA4 (d:aR) (m:Int):Prop:=∀x∈d.aE,0≤x.index∧x.index<m
def Bd (d:aR):Prop:=∀x∈d.aE,0≤x.index∧x.index≤1000
def OH {d:aR} {i:Nat} {hi:i<d.aa.length} {s:jx} {own:Bool} {x:cG} (h:x∈(lL d i hi s own).aE):x.index=s.loc∨x∈d.aE:=by
 rcases cJ.1 ((nE _ _).mem_iff.1 h)with h|h
 ·left;rw[h]
 ·right;exact ux h
def E1 {d:aR} {i:Nat} {hi:i<d.aa.length} {s:jx} {own:Bool}:(lL d i hi s own).aa.length=d.aa.length:=JnW
def aeU:lU:=⟨oL,oL,oL⟩
def pz (i:Nat) (e:Bool) (k:Int):bE:=⟨lK i,MQ,e,if e=true then vI i else uy,k,zSm,false,0,kJ,false,v8,0,v8,aeU,[]⟩
def R1:fc uy= .st 18 [.st 17 [.bl false,.ar 1 16 (zr 16 (.int .u8 0))],.int .i64 0]:=by rw[dh];rfl
def aqT (i:Nat) (k:Int):aH (pz i false k)= .st 464 [bW (lK i),MQ.p,.bl false,.st 18 [.st 17 [.bl false,.ar 1 16 (zr 16 (.int .u8 0))],.int .i64 0],.int .i64 k,zSm.p,.bl false,.int .i64 0,ij kJ,.bl false,v8.p,.int .i64 0,v8.p,dt aeU,ey []]:=by
 show PV.st 464 [bW (lK i),MQ.p,.bl false,fc uy,.int .i64 k,zSm.p,.bl false,.int .i64 0,ij kJ,.bl false,v8.p,.int .i64 0,v8.p,dt aeU,ey []]=_;rw[R1]
def MG {d:aR} {i:Nat} (hi:i<3) {e:Bool} {k:Int} (hk:k=0∨1000≤k∧k≤1073741824):lN d (pz i e k):=by
 refine⟨?_,hk,rfl,rfl,rfl,rfl,rfl,rfl,rfl,.z d,.z d,.z d⟩;cases e
 ·exact Or.inr ⟨rfl,rfl⟩
 ·exact Or.inl ⟨rfl,i,hi,rfl⟩
def aj.aeI {P:Program} {s:St} {d:Option Nat} {f:FuncId} {args cC:WG} {R:W7} {K:UD} {t:Tg K} (hA:ab P f cC [] (λr fp=>R r∧fp=[])) (ha:gI args=cC) (hp:aB args) (hv:∀r,R r->Pure r) (h:∀r,R r->K (s.put d r)):aj P s d f args K t:=by
 subst ha;refine aj.Wc [] [] [] hA (by simp) (by simp) (by simp) (hp.refs _) (by simp) (by rw[hp.aI]) (by simp) ?_;rintro r fp ⟨hr,rfl⟩;exact⟨⟨rfl,(hv r hr).refs _,by simp⟩,by simpa[aQ,(hv r hr).aI]using h r hr⟩
def aj.zF {P:Program} {s:St} {d:Option Nat} {f:FuncId} {args cC:WG} {v v' r r':PV} {K:UD} {t:Tg K} (k:Nat) (hb:get s.bx k=some (.box v)) (hA:ab P f cC [.box v] (λx fp=>x=r∧fp=[.box v']))
  (sr:al (cW [k]) args=true) (ha:bw (bV [k]) args=cC) (hv:Pure v) (hv':Pure v') (hr:ae (dL 1) r=true) (hr':aI (cN [k]) r=r')
  (h:K ({s with bx:=put s.bx k (.box v')}.put d r')):aj P s d f args K t:=by
 refine⟨[k],[],[.box v],(λx fp=>x=r∧fp=[.box v']),by simp[getAll,hb],by simp,by simp,sr,by simp[af,hv.refs],?_,?_⟩
 ·rw[ha];simp only[JcQ,List.map_nil,aG,hv.aI];exact hA
 ·rintro x fp ⟨rfl,rfl⟩;refine⟨⟨rfl,hr,by simp[af,hv'.refs]⟩,?_⟩;simpa[aQ,aG,hv'.aI,hr']using h
@[simp] def aFb (f:Fn) (a b:WG):wk (.fn f a b)= .fn f a b:=by simp only[wk]
def fst (p:Nat->Bool):Nat->Nat
 |0=>0
 |n+1=>if fst p n<n then fst p n else if p n=true then n else n+1
theorem om (p:Nat->Bool):∀n,fst p n≤n
 |0=>JaQ _
 |
  n+1=>by
  have:=om p n
  unfold fst;(repeat' split)<;>omega
theorem oo {p:Nat->Bool}:∀ {n i},i<fst p n->p i=false
 |0,i,h=>by simp[fst]at h
 |
  n+1,i,h=>by
  have hl:=om p n
  unfold fst at h
  split at h
  ·exact oo h
  ·rename_i h1
   have he:fst p n=n:=by omega
   split at h
   ·exact oo (n:=n) (by omega)
   ·rename_i h2
    by_cases e:i=n
    ·subst e;simpa using h2
    ·exact oo (n:=n) (by omega)
theorem qY {p:Nat->Bool}:∀ {n},fst p n<n->p (fst p n)=true
 |0,h=>by simp[fst]at h
 |
  n+1,h=>by
  have hl:=om p n
  unfold fst at h⊢
  split
  ·rename_i h1;exact qY h1
  ·rename_i h1
   rw[if_neg h1]at h
   split
   ·assumption
   ·rename_i h2;rw[if_neg h2]at h;omega
def te {p:Nat->Bool} {n:Nat}:fst p n=n↔∀i,i<n->p i=false:=by
 refine⟨λh i hi=>oo (n:=n) (by omega),λh=> ?_⟩;have h1:=om p n;by_cases h2:fst p n<n
 ·have:=qY h2;rw[h _ h2]at this;cases this
 ·omega
def kK (sz:Nat) (g:Bool):dP:=⟨19,[.mv (.t 4)],.seq (.region [⟨(some 4),none,true,.mv (.c (.int .i64 0))⟩]) (.seq (.seq (.region [⟨(some 6),none,true,.mv (.t 0)⟩,⟨(some 7),none,true,.len (.t 6)⟩,⟨(some 8),none,true,.mv (.c (.int .i64 0))⟩]) (.block 0 (.loop (lk (.seq (.region [⟨(some 9),none,true,.bin .lss .no (.t 8) (.t 7)⟩]) (.seq (.cond (.t 9) (.skip) (.exit 0)) (.seq (.block 1 (.seq (.region [⟨(some 10),none,true,.mv (.t 8)⟩,⟨(some 5),none,true,.mv (.t 10)⟩]) (.seq (.region [⟨(some 11),none,true,.mv (.t 1)⟩,⟨(some 12),none,true,.mv (.t 0)⟩,⟨(some 13),none,true,.mv (.t 5)⟩,⟨(some 14),none,false,.indexA (.sl sz) (.t 12) (.t 13)⟩,⟨(some 15),none,true,.load g sz (.t 14)⟩,⟨(some 16),none,false,.call (.t 11) [(.t 15)]⟩]) (.cond (.t 16) (.seq (.region [⟨(some 17),none,true,.mv (.t 5)⟩,⟨(some 4),none,true,.mv (.t 17)⟩]) (.ret)) (.skip))))) (.region [⟨(some 18),none,true,.bin .add .no (.t 8) (.c (.int .i64 1))⟩,⟨(some 8),none,true,.mv (.t 18)⟩])))))))) (lk (.seq (.region [⟨(some 4),none,true,.mv (.c (.int .i64 (-1)))⟩]) (.ret))))⟩
def oq (ix:FuncId):dP:=⟨9,[.mv (.t 4)],.seq (.region [⟨(some 4),none,true,.mv (.c (.bl false))⟩]) (.seq (.region [⟨(some 5),none,true,.mv (.t 0)⟩,⟨(some 6),none,true,.mv (.t 1)⟩,⟨(some 7),none,false,.call (.c (.fn (.func ix) [] [])) [(.t 5),(.t 6)]⟩,⟨(some 8),none,true,.bin .geq .no (.t 7) (.c (.int .i64 0))⟩,⟨(some 4),none,true,.mv (.t 8)⟩]) (.ret))⟩
structure OT {α:Type} (sz:Nat) (g:Bool) (e:α->PV) (l:List α):Prop where
 len:l.length≤1048576
 el:∀x:α,((e x).width=sz∧(e x).isAgg=g)∧Pure (e x)∧wk (e x)=e x∧∀K:W7,eT true (e x) K=K (e x)
def fi {α:Type} (p:α->Bool) (l:List α):Int:=if l.any p=true then(l.findIdx p:Int)else-1
def GG {α:Type} (p:α->Bool) (l:List α):decide (0≤fi p l)=l.any p:=by
 unfold fi;split
 ·rename_i h;simp[h]
 ·rename_i h;simp only[Bool.not_eq_true]at h;rw[h];simp
section
variable {α:Type} {sz:Nat} {ag:Bool} {f ix:FuncId} {e:α->PV} {l:List α} {p:α->Bool} {g:FuncId} {v w:PV}
def aBe (ht:eI Pg [] [] f=some (kK sz ag).er) (hL:OT sz ag e l)
  (hp:∀x∈l,ab Pg g [e x] [] (λr fp=>r= .bl (p x)∧fp=[])):
  ab Pg f [.sl sz (l.map e) false,.fn (.func g) [] []] [] (λr fp=>r= .int .i64 (fi p l)∧fp=[]):=by
 refine ab.intro ht (by simp[kK]) ?_;have hl:=hL.len;obtain⟨m,hm⟩:∃m,m=l.findIdx p:=⟨_,rfl⟩
 have hle:m≤l.length:=by rw[hm];exact List.findIdx_le_length
 have hb:∀i (h:i<l.length),i<m->p l[i]=false:=λi h h2=>List.not_of_lt_findIdx (by rw[←hm];exact h2)
 have ha:∀(h:m<l.length),p l[m]=true∧fi p l=m:=λh=>by
  have h2:p l[m]=true:=by subst hm;exact List.findIdx_getElem
  exact⟨h2,by unfold fi;rw[if_pos (List.any_eq_true.2 ⟨_,JaJ h,h2⟩),hm]⟩
 have hc:¬m<l.length->fi p l= -1:=λh=>by
  unfold fi;rw[if_neg];intro h2;exact h (by rw[hm];exact List.findIdx_lt_length.2 (List.any_eq_true.1 h2))
 clear hm;simp[kK,ah,az];refine fa.fN m (λ_=>True) [0,1,4,6,7,8] (λi=>[(8,.int .i64 i)]) (λ_=>[]) [.keep [0,1,4,6,7,8]] ?_;simp;refine⟨λi hi K hK=> ?_,λK=> ?_⟩
 ·have jv:i<l.length:=by omega
  have hx:l[i]? =some l[i]:=gJ jv;obtain⟨⟨e1,e2⟩,e3,e4,e5⟩:=hL.el l[i];have hc:=hp l[i] (JaJ jv);have hf:=hb i jv hi;rw[hf]at hc;have wi:IntKind.i64.wrap ((i:Int)+1)=(i:Int)+1:=wrap_i64 (by omega);generalize l[i]=x at*;simp[↓an,hx,jv,e1,e2,e5,-getElem?_pos];refine aj.gen [] [] [] (hc) (by simp) (by simp) (by simp) (by simp[al,e3.refs]) (by simp) (by simp[bw,e3.aI,e4]) (by simp) (by simp[ae]) ?_;simp[aQ,aI];simp[wi];refine⟨[.keep [0,1,4,6,7,8]],?_⟩;simp;exact hK _ (by simp)
 ·by_cases hn:m<l.length
  ·have hx:l[m]? =some l[m]:=gJ hn;obtain⟨⟨e1,e2⟩,e3,e4,e5⟩:=hL.el l[m];have hc:=hp l[m] (JaJ hn);obtain⟨hf,yv⟩:=ha hn;rw[hf]at hc;generalize l[m]=x at*;simp[↓an,hx,hn,e1,e2,e5,-getElem?_pos];refine aj.gen [] [] [] (hc) (by simp) (by simp) (by simp) (by simp[al,e3.refs]) (by simp) (by simp[bw,e3.aI,e4]) (by simp) (by simp[ae]) ?_;simp[aQ,aI];refine bj.with [] [] ?_;simp[yv]
  ·have yv:=hc hn;have Em:¬(m:Int)<l.length:=by omega
   simp[↓an,Em];refine bj.with [] [] ?_;simp[yv]
def aBf (hf:eI Pg [] [] f=some (oq ix).er) (ht:eI Pg [] [] ix=some (kK sz ag).er) (hL:OT sz ag e l)
  (hp:∀x∈l,ab Pg g [e x] [] (λr fp=>r= .bl (p x)∧fp=[])):
  ab Pg f [.sl sz (l.map e) false,.fn (.func g) [] []] [] (λr fp=>r= .bl (l.any p)∧fp=[]):=by
 refine ab.intro hf (by simp[oq]) ?_;have mV:aB (l.map e):=aL (λx=>(hL.el x).2.1) l;have Ni:gI (l.map e)=l.map e:=sO (λx=>(hL.el x).2.2.1) l;simp[oq,ah,az];refine aj.gen [] [] [] (aBe (p:=p) ht hL hp) (by simp) (by simp) (by simp) (by simp[al,ae,mV.refs]) (by simp) (by simp[bw,aI,mV.aI,Ni]) (by simp) (by simp[ae]) ?_;simp[aQ,aI];refine bj.with [] [] ?_;simp[GG]
def aBg (ht:eI Pg [] [] f=some (kK sz ag).er) (hL:OT sz ag e l) (hv:Pure v)
  (hp:∀x∈l,ab Pg g [e x,.pt KB [] 0] [.box v] (λr fp=>r= .bl (p x)∧fp=[.box v])):
  ab Pg f [.sl sz (l.map e) false,.fn (.func g) [] [.pt KB [] 0]] [.box v] (λr fp=>r= .int .i64 (fi p l)∧fp=[.box v]):=by
 refine ab.intro ht (by simp[kK]) ?_;have hl:=hL.len;obtain⟨m,hm⟩:∃m,m=l.findIdx p:=⟨_,rfl⟩
 have hle:m≤l.length:=by rw[hm];exact List.findIdx_le_length
 have hb:∀i (h:i<l.length),i<m->p l[i]=false:=λi h h2=>List.not_of_lt_findIdx (by rw[←hm];exact h2)
 have ha:∀(h:m<l.length),p l[m]=true∧fi p l=m:=λh=>by
  have h2:p l[m]=true:=by subst hm;exact List.findIdx_getElem
  exact⟨h2,by unfold fi;rw[if_pos (List.any_eq_true.2 ⟨_,JaJ h,h2⟩),hm]⟩
 have hc:¬m<l.length->fi p l= -1:=λh=>by
  unfold fi;rw[if_neg];intro h2;exact h (by rw[hm];exact List.findIdx_lt_length.2 (List.any_eq_true.1 h2))
 clear hm;simp[kK,ah,az];refine fa.fN m (λ_=>True) [0,1,4,6,7,8] (λi=>[(8,.int .i64 i)]) (λ_=>[]) [.keep [0,1,4,6,7,8]] ?_;simp;refine⟨λi hi K hK=> ?_,λK=> ?_⟩
 ·have jv:i<l.length:=by omega
  have hx:l[i]? =some l[i]:=gJ jv;obtain⟨⟨e1,e2⟩,e3,e4,e5⟩:=hL.el l[i];have hc:=hp l[i] (JaJ jv);have hf:=hb i jv hi;rw[hf]at hc;have wi:IntKind.i64.wrap ((i:Int)+1)=(i:Int)+1:=wrap_i64 (by omega);generalize l[i]=x at*;simp[↓an,hx,jv,e1,e2,e5,-getElem?_pos];refine aj.gen [KB] [] [.box v] (hc) (by simp[getAll]) (by simp) (by simp) (by simp[al,ae,cW,idx,e3.refs]) (by simp[hv.refs,af]) (by simp[bw,aI,bV,idx,e3.aI,e4]) (by simp[hv.aI,aG]) (by simp[hv.refs,af,ae]) ?_;simp[hv.aI,aQ,aG,aI];simp[wi];refine⟨[.keep [0,1,4,6,7,8]],?_⟩;simp;exact hK _ (by simp)
 ·by_cases hn:m<l.length
  ·have hx:l[m]? =some l[m]:=gJ hn;obtain⟨⟨e1,e2⟩,e3,e4,e5⟩:=hL.el l[m];have hc:=hp l[m] (JaJ hn);obtain⟨hf,yv⟩:=ha hn;rw[hf]at hc;generalize l[m]=x at*;simp[↓an,hx,hn,e1,e2,e5,-getElem?_pos];refine aj.gen [KB] [] [.box v] (hc) (by simp[getAll]) (by simp) (by simp) (by simp[al,ae,cW,idx,e3.refs]) (by simp[hv.refs,af]) (by simp[bw,aI,bV,idx,e3.aI,e4]) (by simp[hv.aI,aG]) (by simp[hv.refs,af,ae]) ?_;simp[hv.aI,aQ,aG,aI];refine bj.with [] [KB] ?_;simp[hv.refs,hv.aI,af,aG,yv]
  ·have yv:=hc hn;have Em:¬(m:Int)<l.length:=by omega
   simp[↓an,Em];refine bj.with [] [KB] ?_;simp[hv.refs,hv.aI,af,aG,yv]
def XQ (hf:eI Pg [] [] f=some (oq ix).er) (ht:eI Pg [] [] ix=some (kK sz ag).er) (hL:OT sz ag e l) (hv:Pure v)
  (hp:∀x∈l,ab Pg g [e x,.pt KB [] 0] [.box v] (λr fp=>r= .bl (p x)∧fp=[.box v])):
  ab Pg f [.sl sz (l.map e) false,.fn (.func g) [] [.pt KB [] 0]] [.box v] (λr fp=>r= .bl (l.any p)∧fp=[.box v]):=by
 refine ab.intro hf (by simp[oq]) ?_;have mV:aB (l.map e):=aL (λx=>(hL.el x).2.1) l;have Ni:gI (l.map e)=l.map e:=sO (λx=>(hL.el x).2.2.1) l;simp[oq,ah,az];refine aj.gen [KB] [] [.box v] (aBg (p:=p) ht hL hv hp) (by simp[getAll]) (by simp) (by simp) (by simp[al,ae,cW,idx,mV.refs]) (by simp[hv.refs,af]) (by simp[bw,aI,bV,idx,mV.aI,Ni]) (by simp[hv.aI,aG]) (by simp[hv.refs,af,ae]) ?_;simp[hv.aI,aQ,aG,aI];refine bj.with [] [KB] ?_;simp[hv.refs,hv.aI,af,aG,GG]
def aBh (ht:eI Pg [] [] f=some (kK sz ag).er) (hL:OT sz ag e l) (hv:ae (cW [KB,KB+1]) v=true∧ae (dL 2) v=true∧aI (bV [KB,KB+1]) v=v∧aI (cN [KB,KB+1]) v=v) (hw:Pure w)
  (hp:∀x∈l,ab Pg g [e x,.pt KB [] 0] [.box v,.box w] (λr fp=>r= .bl (p x)∧fp=[.box v,.box w])):
  ab Pg f [.sl sz (l.map e) false,.fn (.func g) [] [.pt KB [] 0]] [.box v,.box w] (λr fp=>r= .int .i64 (fi p l)∧fp=[.box v,.box w]):=by
 refine ab.intro ht (by simp[kK]) ?_;have hl:=hL.len;obtain⟨m,hm⟩:∃m,m=l.findIdx p:=⟨_,rfl⟩
 have hle:m≤l.length:=by rw[hm];exact List.findIdx_le_length
 have hb:∀i (h:i<l.length),i<m->p l[i]=false:=λi h h2=>List.not_of_lt_findIdx (by rw[←hm];exact h2)
 have ha:∀(h:m<l.length),p l[m]=true∧fi p l=m:=λh=>by
  have h2:p l[m]=true:=by subst hm;exact List.findIdx_getElem
  exact⟨h2,by unfold fi;rw[if_pos (List.any_eq_true.2 ⟨_,JaJ h,h2⟩),hm]⟩
 have hc:¬m<l.length->fi p l= -1:=λh=>by
  unfold fi;rw[if_neg];intro h2;exact h (by rw[hm];exact List.findIdx_lt_length.2 (List.any_eq_true.1 h2))
 clear hm;simp[kK,ah,az];refine fa.fN m (λ_=>True) [0,1,4,6,7,8] (λi=>[(8,.int .i64 i)]) (λ_=>[]) [.keep [0,1,4,6,7,8]] ?_;simp;refine⟨λi hi K hK=> ?_,λK=> ?_⟩
 ·have jv:i<l.length:=by omega
  have hx:l[i]? =some l[i]:=gJ jv;obtain⟨⟨e1,e2⟩,e3,e4,e5⟩:=hL.el l[i];have hc:=hp l[i] (JaJ jv);have hf:=hb i jv hi;rw[hf]at hc;have wi:IntKind.i64.wrap ((i:Int)+1)=(i:Int)+1:=wrap_i64 (by omega);generalize l[i]=x at*;simp[↓an,hx,jv,e1,e2,e5,-getElem?_pos];refine aj.gen [KB,KB+1] [] [.box v,.box w] (hc) (by simp[getAll]) (by simp) (by simp) (by simp[al,ae,cW,idx,e3.refs]) (by simp[hv.1,hw.refs,af]) (by simp[bw,aI,bV,idx,e3.aI,e4]) (by simp[hv.2.2.1,hw.aI,aG]) (by simp[hv.2.1,hw.refs,af,ae]) ?_;simp[hv.2.2.2,hw.aI,aQ,aG,aI];simp[wi];refine⟨[.keep [0,1,4,6,7,8]],?_⟩;simp;exact hK _ (by simp)
 ·by_cases hn:m<l.length
  ·have hx:l[m]? =some l[m]:=gJ hn;obtain⟨⟨e1,e2⟩,e3,e4,e5⟩:=hL.el l[m];have hc:=hp l[m] (JaJ hn);obtain⟨hf,yv⟩:=ha hn;rw[hf]at hc;generalize l[m]=x at*;simp[↓an,hx,hn,e1,e2,e5,-getElem?_pos];refine aj.gen [KB,KB+1] [] [.box v,.box w] (hc) (by simp[getAll]) (by simp) (by simp) (by simp[al,ae,cW,idx,e3.refs]) (by simp[hv.1,hw.refs,af]) (by simp[bw,aI,bV,idx,e3.aI,e4]) (by simp[hv.2.2.1,hw.aI,aG]) (by simp[hv.2.1,hw.refs,af,ae]) ?_;simp[hv.2.2.2,hw.aI,aQ,aG,aI];refine bj.with [] [KB,KB+1] ?_;simp[hv.1,hv.2.2.1,hw.refs,hw.aI,af,aG,yv]
  ·have yv:=hc hn;have Em:¬(m:Int)<l.length:=by omega
   simp[↓an,Em];refine bj.with [] [KB,KB+1] ?_;simp[hv.1,hv.2.2.1,hw.refs,hw.aI,af,aG,yv]
def aBi (hf:eI Pg [] [] f=some (oq ix).er) (ht:eI Pg [] [] ix=some (kK sz ag).er) (hL:OT sz ag e l) (hv:ae (cW [KB,KB+1]) v=true∧ae (dL 2) v=true∧aI (bV [KB,KB+1]) v=v∧aI (cN [KB,KB+1]) v=v) (hw:Pure w)
  (hp:∀x∈l,ab Pg g [e x,.pt KB [] 0] [.box v,.box w] (λr fp=>r= .bl (p x)∧fp=[.box v,.box w])):
  ab Pg f [.sl sz (l.map e) false,.fn (.func g) [] [.pt KB [] 0]] [.box v,.box w] (λr fp=>r= .bl (l.any p)∧fp=[.box v,.box w]):=by
 refine ab.intro hf (by simp[oq]) ?_;have mV:aB (l.map e):=aL (λx=>(hL.el x).2.1) l;have Ni:gI (l.map e)=l.map e:=sO (λx=>(hL.el x).2.2.1) l;simp[oq,ah,az];refine aj.gen [KB,KB+1] [] [.box v,.box w] (aBh (p:=p) ht hL hv hw hp) (by simp[getAll]) (by simp) (by simp) (by simp[al,ae,cW,idx,mV.refs]) (by simp[hv.1,hw.refs,af]) (by simp[bw,aI,bV,idx,mV.aI,Ni]) (by simp[hv.2.2.1,hw.aI,aG]) (by simp[hv.2.1,hw.refs,af,ae]) ?_;simp[hv.2.2.2,hw.aI,aQ,aG,aI];refine bj.with [] [KB,KB+1] ?_;simp[hv.1,hv.2.2.1,hw.refs,hw.aI,af,aG,GG]
end
end Go.Ab
