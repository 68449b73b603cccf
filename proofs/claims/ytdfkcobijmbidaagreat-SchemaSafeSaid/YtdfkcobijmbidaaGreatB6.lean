/- Made sessions, and made peers. No condition. -/
import Derived.Test.YtdfkcobijmbidaaGreatB5
set_option maxRecDepth 10000
set_option maxHeartbeats 4000000
set_option linter.all false
noncomputable section H1s
namespace Go.Ab
open Go.Ab
def Key.put (k:Key) (j:Nat) (b:UInt8):Key:=⟨k.l.set j b,by rw[List.length_set];exact k.h⟩
theorem Az (k:Key) {j:Nat} (hj:j<32) {n:Int} (h0:0≤n) (h1:n<256):dD (ey k) [.i j 1] (.int .u8 n)=some (ey (k.put j (UInt8.ofNat n.toNat))):=by
 have hn:(UInt8.ofNat n.toNat).toNat=n.toNat:=by simp;omega
 have hx:(k.l.map u8)[j]? =some (u8 (k.l[j]'(by rw[k.h];exact hj))):=by
  rw[List.getElem?_map,gJ (by rw[k.h];exact hj)];rfl
 have hu:PV.int .u8 n=u8 (UInt8.ofNat n.toNat):=by simp only[u8,hn];congr 1;omega
 have h2:dD (.ar 1 32 (k.l.map u8)) [.i j 1] (.int .u8 n)=some (.ar 1 32 ((k.l.map u8).set j (.int .u8 n))):=by simp[hx,u8]
 have h3:ey (k.put j (UInt8.ofNat n.toNat))= .ar 1 32 ((k.l.map u8).set j (.int .u8 n)):=by
  show PV.ar 1 32 ((k.l.set j (UInt8.ofNat n.toNat)).map u8)=_
  rw[List.map_set,hu]
 rw[h3];exact h2
theorem Ks (s:jt) (k:Key):Dp s (ey k)=eX {s with send:=k.fv}:=rfl
theorem Kt (s:jt) (k:Key):Dq s (ey k)=eX {s with recv:=k.fv}:=rfl
@[simp] theorem anQ (w:oM):Pure (wP w):=by simp[wP]
@[simp] theorem av9 (w:oM):wk (wP w)=wP w:=by simp[wP]
@[simp↓] theorem aqj (g:Bool) (w:oM) (K:PV->Prop):gN g (wP w) K=K (wP w):=_root_.id rfl
@[simp] theorem afE (w:oM):(wP w).width=6:=_root_.id rfl
@[simp] theorem anR (w:oM):(wP w).bj=true:=_root_.id rfl
def zW:oM:=⟨false,0,0,0,0,0⟩
theorem NF:ot zW=Hm:=by
 unfold ot Hm;congr 1;rw[gC];rfl
theorem wI (s:jt) (w:oM):yB s (wP w)=eX {s with nY:=ot w}:=rfl
theorem Hu (w:oM):(ot w).p=wP w:=rfl
def WI (w:oM):Prop:=0≤w.top∧w.top<8∧(w.used=true∨w=zW)
theorem WI.z:WI zW:=⟨by decide,by decide,Or.inr rfl⟩
theorem WI.acc {w:oM} (h:WI w) {c:Int} (c0:0≤c) (c8:c<8):SmW w c∧WI (qY w c).1:=by
 have hs:SmW w c:=⟨h.1,h.2.1,c0,c8⟩
 refine⟨hs,(FB hs).1,(FB hs).2,?_⟩
 rcases RM hs with⟨_,h2⟩|h2
 ·rw[h2];exact h.2.2
 ·exact Or.inl h2
theorem WI.ok {w:oM} (h:WI w):FD (ot w):=by
 rcases h.2.2 with h2|h2
 ·exact Or.inr ⟨w,h2,⟨h.1,h.2.1⟩,rfl⟩
 ·rw[h2];exact Or.inl NF
def rb (c:pr):Nat->oM×pr
 |0=>(zW,c)
 |i+1=>((qY (rb c i).1 ((k9 (rb c i).2 8).1:Int)).1,(k9 (rb c i).2 8).2)
theorem tE {c:pr} (h:gn c):∀i,WI (rb c i).1∧gn (rb c i).2
 |0=>⟨.z,h⟩
 |
  i+1=>by
  obtain⟨h1,h2⟩:=tE h i
  have hl:=ej (rb c i).2 (n:=8) (by omega)
  exact⟨(h1.acc (by omega) (by omega)).2,dq h2 8⟩
def sW (s:jt) (w:oM):jt:= {s with nY:=ot w}
theorem Yc {s:jt} (h:s.nY=Hm):sW s zW=s:=by unfold sW;rw[NF,←h]
theorem dK {c:pr} (h:gn c) {d:bU} (h0:0≤d.now) (h1:d.now≤16777216) (hr:xr d.rules) {n:Nat} (CH:1≤n) (OQ:n≤100):
  ah Pg I.dK [.pt KB [] 0,gO d,.int .u32 n] [.box (gu c)] (λr fp=>∃w:jt×pr,(u4 d w.1∧w.1.loc=n∧gn w.2)∧r=eX w.1∧fp=[.box (gu w.2)]):=by
 refine ah.intro T.dK (by simp[F.dK]) ?_
 simp[F.dK,au,aG]
 refine nj.run [KB] rfl ?_
 simp
 refine al.mR KB (aY h 12 (by omega)) (by simp) (by simp[ae,ab,bg,idx]) (by simp[aK,aF,aT,idx]) (by simp) ?_
 have l0:=ej c (n:=12) (by omega)
 have o0:=dq h 12
 generalize k9 c 12=x0 at*
 have w1:IntKind.i64.wrap ((x0.1:Int)*5000)=(x0.1:Int)*5000:=wrap_i64 (by omega)
 have w2:IntKind.i64.wrap (d.now-min d.now ((x0.1:Int)*5000))=d.now-min d.now ((x0.1:Int)*5000):=wrap_i64 (by omega)
 simp[w1,w2]
 obtain⟨b,hb⟩:∃b,b=d.now-min d.now ((x0.1:Int)*5000):=⟨_,rfl⟩
 rw[←hb]
 refine nj.run [KB,8] rfl ?_
 have w3:IntKind.u32.wrap (7000+(n:Int))=7000+(n:Int):=by simp[IntKind.wrap,IntKind.bits,IntKind.signed];omega
 simp[w3]
 refine al.xQ KB (nV o0) (by simp) (by simp[ae,ab,bg,idx]) (by simp[aK,aF,aT,idx]) (by simp) ?_
 rintro⟨k1,c1⟩ o1
 simp
 refine al.xQ KB (nV o1) (by simp) (by simp[ae,ab,bg,idx]) (by simp[aK,aF,aT,idx]) (by simp) ?_
 rintro⟨k2,c2⟩ o2
 simp
 refine al.mR KB (mA o2) (by simp) (by simp[ae,ab,bg,idx]) (by simp[aK,aF,aT,idx]) (by simp) ?_
 have o3:gn (bool c2).2:=dq o2 2
 generalize bool c2=x3 at*
 simp
 refine a8.ret (eB n (7000+n) k1.fv k2.fv b x3.1 d.rules.tz) (by simp[Key.fv]) (by simp) (by simp) ?_
 have w5:IntKind.u8.wrap (n:Int)=(n:Int):=wrap_u8 (by omega)
 have e1:∀k:Key,dD (ey k) [.i 0 1] (.int .u8 (n:Int))=some (ey (k.put 0 (UInt8.ofNat n))):=λk=>by
  have:=Az k (j:=0) (by omega) (n:=(n:Int)) (by omega) (by omega)
  simpa using this
 have e2:∀k:Key,dD (ey k) [.i 1 1] (.int .u8 1)=some (ey (k.put 1 1)):=λk=>by
  have:=Az k (j:=1) (by omega) (n:=1) (by omega) (by omega)
  simpa using this
 have e3:∀k:Key,dD (ey k) [.i 1 1] (.int .u8 2)=some (ey (k.put 1 2)):=λk=>by
  have:=Az k (j:=1) (by omega) (n:=2) (by omega) (by omega)
  simpa using this
 simp[w5,e1,e2,e3,Ks,Kt]
 refine al.mR KB (aY o3 4 (by omega)) (by simp) (by simp[ae,ab,bg,idx]) (by simp[aK,aF,aT,idx]) (by simp) ?_
 have l4:=ej x3.2 (n:=4) (by omega)
 have o4:=dq o3 4
 generalize k9 x3.2 4=x4 at*
 obtain⟨s0,D1⟩:∃s0:jt,s0=⟨n,7000+n,((k1.put 0 (UInt8.ofNat n)).put 1 1).fv,((k2.put 0 (UInt8.ofNat n)).put 1 2).fv,0,d.rules.tz,Hm,b,x3.1⟩:=⟨_,rfl⟩
 rw[←D1]
 simp
 have Zs:s0.nY=Hm:=by rw[D1]
 refine⟨λhx=> ?_,λhx=>⟨λSQ=> ?_,λSQ=> ?_⟩⟩
 ·refine al.mR KB (aY o4 40 (by omega)) (by simp) (by simp[ae,ab,bg,idx]) (by simp[aK,aF,aT,idx]) (by simp) ?_
  have l5:=ej x4.2 (n:=40) (by omega)
  have o5:=dq o4 40
  generalize k9 x4.2 40=x5 at*
  have w8:IntKind.u64.wrap (x5.1:Int)=(x5.1:Int):=by simp[IntKind.wrap,IntKind.bits,IntKind.signed];omega
  simp[w8]
  obtain⟨s1,xz⟩:∃s1:jt,s1= {s0 with next:=(x5.1:Int)}:=⟨_,rfl⟩
  rw[←xz]
  have OS:s1.nY=Hm:=by rw[xz];exact Zs
  have YY:0≤s1.next∧s1.next≤18446744073709543423:=by rw[xz];show 0≤(x5.1:Int)∧(x5.1:Int)≤18446744073709543423;omega
  have Tj:s1.ij=s0.ij∧s1.born=s0.born∧s1.loc=s0.loc:=by rw[xz];exact⟨rfl,rfl,rfl⟩
  refine al.mR KB (aY o5 4 (by omega)) (by simp) (by simp[ae,ab,bg,idx]) (by simp[aK,aF,aT,idx]) (by simp) ?_
  have l6:=ej x5.2 (n:=4) (by omega)
  have o6:=dq o5 4
  generalize k9 x5.2 4=x6 at*
  simp
  refine jx.kl x6.1 (λ_=>True) [0,6,8,9] (λi=>[(9,.int .i64 ((x6.1:Int)-i))]) (λi=>[(8,.box (eX (sW s1 (rb x6.2 i).1))),(KB,.box (gu (rb x6.2 i).2))]) [.keep [0,6,8,9]] ?_
  simp[show(rb x6.2 0)=(zW,x6.2) from rfl,Yc OS]
  refine⟨λi hi K hK=> ?_,λK=> ?_⟩
  ·obtain⟨g1,g2⟩:=tE o6 i
   have gl:=ej (rb x6.2 i).2 (n:=8) (by omega)
   have A3:rb x6.2 (i+1)=((qY (rb x6.2 i).1 ((k9 (rb x6.2 i).2 8).1:Int)).1,(k9 (rb x6.2 i).2 8).2):=rfl
   rw[A3]at hK
   generalize rb x6.2 i=y at*
   have hgt:(0:Int)<(x6.1:Int)-i:=by omega
   have hw9:IntKind.i64.wrap ((x6.1:Int)-i-1)=(x6.1:Int)-(i+1):=by rw[wrap_i64 (by omega)];omega
   simp[↓aA,hi]
   refine nj.run [KB] rfl ?_
   simp[sW]
   refine al.mR KB (aY g2 8 (by omega)) (by simp) (by simp[ae,ab,bg,idx]) (by simp[aK,aF,aT,idx]) (by simp) ?_
   generalize k9 y.2 8=z at*
   have hw8:IntKind.u64.wrap (z.1:Int)=(z.1:Int):=by simp[IntKind.wrap,IntKind.bits,IntKind.signed];omega
   simp[hw8,Hu]
   refine a8.ret (aV (g1.acc (c:=(z.1:Int)) (by omega) (by omega)).1) (by simp) (by simp) (by simp) ?_
   simp[wI,hw9]
   refine⟨[.keep [0,6,8,9]],?_⟩
   simp
   exact hK _ (by simp[sW])
  ·obtain⟨g1,g2⟩:=tE o6 x6.1
   generalize rb x6.2 x6.1=y at*
   simp[↓aA,↓aA]
   refine aL.with [] [KB] ?_
   simp[af,a0]
   refine⟨sW s1 y.1,y.2,⟨⟨?_,?_,?_,?_,?_,?_⟩,?_,g2⟩,rfl,rfl⟩
   ·show 0≤s1.born;rw[Tj.2.1,D1];dsimp only;omega
   ·show s1.born≤d.now;rw[Tj.2.1,D1];dsimp only;omega
   ·show s1.ij=d.rules.tz;rw[Tj.1,D1]
   ·show 0≤s1.next;have:=YY;omega
   ·show s1.next≤_;have:=YY;omega
   ·exact g1.ok
   ·show s1.loc=n;rw[Tj.2.2,D1]
 ·obtain⟨q1,q2,q3,_⟩:=hr
  have VJ:s0.ij=d.rules.tz:=by rw[D1]
  refine nj.run [KB] rfl ?_
  simp
  refine al.mR KB (aY o4 4 (by omega)) (by simp) (by simp[ae,ab,bg,idx]) (by simp[aK,aF,aT,idx]) (by simp) ?_
  have l5:=ej x4.2 (n:=4) (by omega)
  have o5:=dq o4 4
  generalize k9 x4.2 4=x5 at*
  have w8:IntKind.u64.wrap (x5.1:Int)=(x5.1:Int):=by simp[IntKind.wrap,IntKind.bits,IntKind.signed];omega
  have w9:IntKind.u64.wrap (s0.ij-min s0.ij (x5.1:Int))=s0.ij-min s0.ij (x5.1:Int):=by rw[VJ];simp[IntKind.wrap,IntKind.bits,IntKind.signed];omega
  simp[w8,w9]
  obtain⟨s1,xz⟩:∃s1:jt,s1= {s0 with next:=s0.ij-min s0.ij (x5.1:Int)}:=⟨_,rfl⟩
  rw[←xz]
  have OS:s1.nY=Hm:=by rw[xz];exact Zs
  have YY:0≤s1.next∧s1.next≤18446744073709543423:=by rw[xz];show 0≤s0.ij-min s0.ij (x5.1:Int)∧s0.ij-min s0.ij (x5.1:Int)≤18446744073709543423;rw[VJ];omega
  have Tj:s1.ij=s0.ij∧s1.born=s0.born∧s1.loc=s0.loc:=by rw[xz];exact⟨rfl,rfl,rfl⟩
  refine al.mR KB (aY o5 4 (by omega)) (by simp) (by simp[ae,ab,bg,idx]) (by simp[aK,aF,aT,idx]) (by simp) ?_
  have l6:=ej x5.2 (n:=4) (by omega)
  have o6:=dq o5 4
  generalize k9 x5.2 4=x6 at*
  simp
  refine jx.kl x6.1 (λ_=>True) [0,6,8,9] (λi=>[(9,.int .i64 ((x6.1:Int)-i))]) (λi=>[(8,.box (eX (sW s1 (rb x6.2 i).1))),(KB,.box (gu (rb x6.2 i).2))]) [.keep [0,6,8,9]] ?_
  simp[show(rb x6.2 0)=(zW,x6.2) from rfl,Yc OS]
  refine⟨λi hi K hK=> ?_,λK=> ?_⟩
  ·obtain⟨g1,g2⟩:=tE o6 i
   have gl:=ej (rb x6.2 i).2 (n:=8) (by omega)
   have A3:rb x6.2 (i+1)=((qY (rb x6.2 i).1 ((k9 (rb x6.2 i).2 8).1:Int)).1,(k9 (rb x6.2 i).2 8).2):=rfl
   rw[A3]at hK
   generalize rb x6.2 i=y at*
   have hgt:(0:Int)<(x6.1:Int)-i:=by omega
   have hw9:IntKind.i64.wrap ((x6.1:Int)-i-1)=(x6.1:Int)-(i+1):=by rw[wrap_i64 (by omega)];omega
   simp[↓aA,hi]
   refine nj.run [KB] rfl ?_
   simp[sW]
   refine al.mR KB (aY g2 8 (by omega)) (by simp) (by simp[ae,ab,bg,idx]) (by simp[aK,aF,aT,idx]) (by simp) ?_
   generalize k9 y.2 8=z at*
   have hw8:IntKind.u64.wrap (z.1:Int)=(z.1:Int):=by simp[IntKind.wrap,IntKind.bits,IntKind.signed];omega
   simp[hw8,Hu]
   refine a8.ret (aV (g1.acc (c:=(z.1:Int)) (by omega) (by omega)).1) (by simp) (by simp) (by simp) ?_
   simp[wI,hw9]
   refine⟨[.keep [0,6,8,9]],?_⟩
   simp
   exact hK _ (by simp[sW])
  ·obtain⟨g1,g2⟩:=tE o6 x6.1
   generalize rb x6.2 x6.1=y at*
   simp[↓aA,↓aA]
   refine aL.with [] [KB] ?_
   simp[af,a0]
   refine⟨sW s1 y.1,y.2,⟨⟨?_,?_,?_,?_,?_,?_⟩,?_,g2⟩,rfl,rfl⟩
   ·show 0≤s1.born;rw[Tj.2.1,D1];dsimp only;omega
   ·show s1.born≤d.now;rw[Tj.2.1,D1];dsimp only;omega
   ·show s1.ij=d.rules.tz;rw[Tj.1,D1]
   ·show 0≤s1.next;have:=YY;omega
   ·show s1.next≤_;have:=YY;omega
   ·exact g1.ok
   ·show s1.loc=n;rw[Tj.2.2,D1]
 ·refine al.mR KB (aY o4 4 (by omega)) (by simp) (by simp[ae,ab,bg,idx]) (by simp[aK,aF,aT,idx]) (by simp) ?_
  have l6:=ej x4.2 (n:=4) (by omega)
  have o6:=dq o4 4
  generalize k9 x4.2 4=x6 at*
  simp
  refine jx.kl x6.1 (λ_=>True) [0,6,8,9] (λi=>[(9,.int .i64 ((x6.1:Int)-i))]) (λi=>[(8,.box (eX (sW s0 (rb x6.2 i).1))),(KB,.box (gu (rb x6.2 i).2))]) [.keep [0,6,8,9]] ?_
  simp[show(rb x6.2 0)=(zW,x6.2) from rfl,Yc Zs]
  refine⟨λi hi K hK=> ?_,λK=> ?_⟩
  ·obtain⟨g1,g2⟩:=tE o6 i
   have gl:=ej (rb x6.2 i).2 (n:=8) (by omega)
   have A3:rb x6.2 (i+1)=((qY (rb x6.2 i).1 ((k9 (rb x6.2 i).2 8).1:Int)).1,(k9 (rb x6.2 i).2 8).2):=rfl
   rw[A3]at hK
   generalize rb x6.2 i=y at*
   have hgt:(0:Int)<(x6.1:Int)-i:=by omega
   have hw9:IntKind.i64.wrap ((x6.1:Int)-i-1)=(x6.1:Int)-(i+1):=by rw[wrap_i64 (by omega)];omega
   simp[↓aA,hi]
   refine nj.run [KB] rfl ?_
   simp[sW]
   refine al.mR KB (aY g2 8 (by omega)) (by simp) (by simp[ae,ab,bg,idx]) (by simp[aK,aF,aT,idx]) (by simp) ?_
   generalize k9 y.2 8=z at*
   have hw8:IntKind.u64.wrap (z.1:Int)=(z.1:Int):=by simp[IntKind.wrap,IntKind.bits,IntKind.signed];omega
   simp[hw8,Hu]
   refine a8.ret (aV (g1.acc (c:=(z.1:Int)) (by omega) (by omega)).1) (by simp) (by simp) (by simp) ?_
   simp[wI,hw9]
   refine⟨[.keep [0,6,8,9]],?_⟩
   simp
   exact hK _ (by simp[sW])
  ·obtain⟨g1,g2⟩:=tE o6 x6.1
   generalize rb x6.2 x6.1=y at*
   simp[↓aA,↓aA]
   refine aL.with [] [KB] ?_
   simp[af,a0]
   refine⟨sW s0 y.1,y.2,⟨⟨?_,?_,?_,?_,?_,?_⟩,?_,g2⟩,rfl,rfl⟩
   ·show 0≤s0.born;rw[D1];dsimp only;omega
   ·show s0.born≤d.now;rw[D1];dsimp only;omega
   ·show s0.ij=d.rules.tz;rw[D1]
   ·show 0≤s0.next;rw[D1];dsimp only;omega
   ·show s0.next≤_;rw[D1];dsimp only;omega
   ·exact g1.ok
   ·show s0.loc=n;rw[D1]
end Go.Ab
end H1s
noncomputable section H2s
namespace Go.Ab
open Go.Ab
structure VP (d:bU) (i:Nat):Prop where
 vm:VM d i
 sl:d.aM=[]
 len:d.aj.length=i
 rg:∀p∈d.aj,pW p=[]
def p8 (d:bU) (p:dC) (i:Nat) (T:List fS):bU:= {d with aj:=d.aj++[p],bD:=d.bD++[rt i],timers:=T}
theorem VP.add {d:bU} {i:Nat} (h:VP d i) (hi:i<3) {p:dC} (hp:lU d p) (hk:p.gF=nn i) (hr:pW p=[]) {T:List fS}
  (hT:T=d.timers∨∃a,d.now<a∧a≤4398046511104∧p.pq≠0∧T=lT d.timers ⟨a,nn i,4⟩):VP (p8 d p i T) (i+1):=by
 obtain⟨⟨v,t⟩,DX,hlen,hrg⟩:=h
 have lZ:(p8 d p i T).aj.length=i+1:=by show(d.aj++[p]).length=i+1;simp[hlen]
 have eH:∀(j:Nat) (hj:j<d.aj.length) (Zp:j<(p8 d p i T).aj.length),(p8 d p i T).aj[j]=d.aj[j]:=by
  intro j hj Zp
  show(d.aj++[p])[j]=d.aj[j]
  exact List.getElem_append_left hj
 have VK:∀(Zp:i<(p8 d p i T).aj.length),(p8 d p i T).aj[i]=p:=by
  intro Zp
  have:(d.aj++[p])[d.aj.length]'(by simp)=p:=by simp
  show(d.aj++[p])[i]'(by simpa[hlen]using Zp)=p
  simp only[←hlen,List.getElem_concat_length]
 have t0:mB (p8 d p i T) d.timers i:=by
  obtain⟨a,b,c,e⟩:=t
  refine⟨a,λx hx=> ?_,c,e⟩
  obtain⟨r1,r2,r3,r4,j,hj,r5,r6⟩:=b x hx
  exact⟨r1,r2,r3,r4,j,by rw[lZ];omega,r5,λhk=>by rw[eH j hj];exact r6 hk⟩
 have t1:mB (p8 d p i T) (p8 d p i T).timers (i+1):=by
  show mB (p8 d p i T) T (i+1)
  rcases hT with rfl|⟨a,a1,a2,a3,e⟩
  ·obtain⟨a,b,c,e⟩:=t0
   exact⟨a,b,c,by omega⟩
  ·have:=t0.set (by rw[lZ];omega) (t:=⟨a,nn i,4⟩) (by show(2:Int)≤4;omega) (by show(4:Int)≤5;omega) a1 a2 (i:=i) (by rw[lZ];omega) rfl (λ_=>by rw[VK];exact a3)
   rw[←e]at this
   exact this
 have alK:∀q∈(p8 d p i T).aj,pW q=[]:=by
  intro q hq
  rcases List.mem_append.1 (show q∈d.aj++[p] from hq)with hq|hq
  ·exact hrg q hq
  ·rw[List.mem_singleton.1 hq];exact hr
 refine⟨⟨?_,t1⟩,DX,lZ,alK⟩
 constructor
 ·exact v.ru
 ·exact v.n0
 ·exact v.n1
 ·exact v.p0
 ·exact v.p1
 ·exact v.bad
 ·refine⟨by rw[lZ];omega,λj hj=> ?_⟩
  rw[lZ]at hj
  by_cases e:j<d.aj.length
  ·rw[eH j e];exact v.Gf.2 j e
  ·have:j=i:=by omega
   subst this
   rw[VK];exact hk
 ·intro q hq
  refine lU.of (d:=d) (e:=p8 d p i T) rfl rfl ?_
  rcases List.mem_append.1 (show q∈d.aj++[p] from hq)with hq|hq
  ·exact v.xR q hq
  ·rw[List.mem_singleton.1 hq];exact hp
 ·have Jd:=v.rtl
  refine⟨?_,λj hj=> ?_⟩
  ·show(d.bD++[rt i]).length≤3;simp;omega
  ·have DW:j<(d.bD++[rt i]).length:=hj
   show(d.bD++[rt i])[j]=rt j
   by_cases e:j<d.bD.length
   ·rw[List.getElem_append_left e];exact v.Ya.2 j e
   ·have:j=d.bD.length:=by simp at DW;omega
    have h2:j=i:=by omega
    rw[List.getElem_append_right (by omega)]
    simp[h2]
 ·show(d.bD++[rt i]).length=(d.aj++[p]).length
  have Jd:=v.rtl
  simp;omega
 ·constructor
  ·show qT d.aM;exact v.sls.so
  ·show d.aM.Perm ((d.aj++[p]).flatMap pW)
   rw[DX]
   have:(d.aj++[p]).flatMap pW=[]:=by
    rw[List.flatMap_eq_nil_iff]
    exact alK
   rw[this]
 ·exact t1.toT (by omega)
 ·exact v.s0
 ·exact v.s1
 ·exact v.rcn
 ·exact v.buc
end Go.Ab
end H2s
