/- Made sessions, and made peers. No condition. -/
import Derived.Test.YtdfkcobijmbidaaGreatB5
set_option maxRecDepth 10000
set_option maxHeartbeats 4000000
set_option linter.all false
noncomputable section H1s
namespace Go.Ab
open Go.Ab
def Key.put (k:Key) (j:Nat) (b:UInt8):Key:=⟨k.l.set j b,by rw[List.length_set];exact k.h⟩
theorem Bu (k:Key) {j:Nat} (hj:j<32) {n:Int} (h0:0≤n) (h1:n<256):di (eF k) [.i j 1] (.int .u8 n)=some (eF (k.put j (UInt8.ofNat n.toNat))):=by
 have hn:(UInt8.ofNat n.toNat).toNat=n.toNat:=by simp;omega
 have hx:(k.l.map u8)[j]? =some (u8 (k.l[j]'(by rw[k.h];exact hj))):=by
  rw[List.getElem?_map,gJ (by rw[k.h];exact hj)];rfl
 have hu:PV.int .u8 n=u8 (UInt8.ofNat n.toNat):=by simp only[u8,hn];congr 1;omega
 have h2:di (.ar 1 32 (k.l.map u8)) [.i j 1] (.int .u8 n)=some (.ar 1 32 ((k.l.map u8).set j (.int .u8 n))):=by simp[hx,u8]
 have h3:eF (k.put j (UInt8.ofNat n.toNat))= .ar 1 32 ((k.l.map u8).set j (.int .u8 n)):=by
  show PV.ar 1 32 ((k.l.set j (UInt8.ofNat n.toNat)).map u8)=_
  rw[List.map_set,hu]
 rw[h3];exact h2
theorem Lo (s:j9) (k:Key):Ec s (eF k)=fO {s with send:=k.fv}:=rfl
theorem Lq (s:j9) (k:Key):Ed s (eF k)=fO {s with recv:=k.fv}:=rfl
@[simp] theorem apw (w:sy):Pure (wP w):=by simp[wP]
@[simp] theorem axT (w:sy):wk (wP w)=wP w:=by simp[wP]
@[simp↓] theorem ar0 (g:Bool) (w:sy) (K:PV->Prop):il g (wP w) K=K (wP w):=_root_.id rfl
@[simp] theorem ahe (w:sy):(wP w).width=6:=_root_.id rfl
@[simp] theorem apx (w:sy):(wP w).bp=true:=_root_.id rfl
def zW:sy:=⟨false,0,0,0,0,0⟩
theorem OH:pr zW=Ib:=by
 unfold pr Ib;congr 1;rw[gX];rfl
theorem xG (s:j9) (w:sy):zC s (wP w)=fO {s with py:=pr w}:=rfl
theorem Il (w:sy):(pr w).p=wP w:=rfl
def WI (w:sy):Prop:=0≤w.top∧w.top<8∧(w.used=true∨w=zW)
theorem WI.z:WI zW:=⟨by decide,by decide,Or.inr rfl⟩
theorem WI.acc {w:sy} (h:WI w) {c:Int} (c0:0≤c) (c8:c<8):SmW w c∧WI (rS w c).1:=by
 have hs:SmW w c:=⟨h.1,h.2.1,c0,c8⟩
 refine⟨hs,(Gt hs).1,(Gt hs).2,?_⟩
 rcases SG hs with⟨_,h2⟩|h2
 ·rw[h2];exact h.2.2
 ·exact Or.inl h2
theorem WI.ok {w:sy} (h:WI w):Gv (pr w):=by
 rcases h.2.2 with h2|h2
 ·exact Or.inr ⟨w,h2,⟨h.1,h.2.1⟩,rfl⟩
 ·rw[h2];exact Or.inl OH
def rW (c:qe):Nat->sy×qe
 |0=>(zW,c)
 |i+1=>((rS (rW c i).1 ((lN (rW c i).2 8).1:Int)).1,(lN (rW c i).2 8).2)
theorem uv {c:qe} (h:gK c):∀i,WI (rW c i).1∧gK (rW c i).2
 |0=>⟨.z,h⟩
 |
  i+1=>by
  obtain⟨h1,h2⟩:=uv h i
  have hl:=eI (rW c i).2 (n:=8) (by omega)
  exact⟨(h1.acc (by omega) (by omega)).2,dF h2 8⟩
def sW (s:j9) (w:sy):j9:= {s with py:=pr w}
theorem Y7 {s:j9} (h:s.py=Ib):sW s zW=s:=by unfold sW;rw[OH,←h]
theorem dW {c:qe} (h:gK c) {d:bK} (h0:0≤d.now) (h1:d.now≤16777216) (hr:yz d.rules) {n:Nat} (Dr:1≤n) (PD:n≤100):
  af Pg I.dW [.pt KB [] 0,dY d,.int .u32 n] [.box (gQ c)] (λr fp=>∃w:j9×qe,(vV d w.1∧w.1.loc=n∧gK w.2)∧r=fO w.1∧fp=[.box (gQ w.2)]):=by
 refine af.intro T.dW (by simp[F.dW]) ?_
 simp[F.dW,an,aG]
 refine ny.run [KB] rfl ?_
 simp
 refine al.nJ KB (bf h 12 (by omega)) (by simp) (by simp[ae,ab,bj,idx]) (by simp[aO,aI,aV,idx]) (by simp) ?_
 have l0:=eI c (n:=12) (by omega)
 have o0:=dF h 12
 generalize lN c 12=x0 at*
 have w1:IntKind.i64.wrap ((x0.1:Int)*5000)=(x0.1:Int)*5000:=wrap_i64 (by omega)
 have w2:IntKind.i64.wrap (d.now-min d.now ((x0.1:Int)*5000))=d.now-min d.now ((x0.1:Int)*5000):=wrap_i64 (by omega)
 simp[w1,w2]
 obtain⟨b,hb⟩:∃b,b=d.now-min d.now ((x0.1:Int)*5000):=⟨_,rfl⟩
 rw[←hb]
 refine ny.run [KB,8] rfl ?_
 have w3:IntKind.u32.wrap (7000+(n:Int))=7000+(n:Int):=by simp[IntKind.wrap,IntKind.bits,IntKind.signed];omega
 simp[w3]
 refine al.yU KB (oE o0) (by simp) (by simp[ae,ab,bj,idx]) (by simp[aO,aI,aV,idx]) (by simp) ?_
 rintro⟨k1,c1⟩ o1
 simp
 refine al.yU KB (oE o1) (by simp) (by simp[ae,ab,bj,idx]) (by simp[aO,aI,aV,idx]) (by simp) ?_
 rintro⟨k2,c2⟩ o2
 simp
 refine al.nJ KB (na o2) (by simp) (by simp[ae,ab,bj,idx]) (by simp[aO,aI,aV,idx]) (by simp) ?_
 have o3:gK (bool c2).2:=dF o2 2
 generalize bool c2=x3 at*
 simp
 refine a0.ret (eR n (7000+n) k1.fv k2.fv b x3.1 d.rules.uj) (by simp[Key.fv]) (by simp) (by simp) ?_
 have w5:IntKind.u8.wrap (n:Int)=(n:Int):=wrap_u8 (by omega)
 have e1:∀k:Key,di (eF k) [.i 0 1] (.int .u8 (n:Int))=some (eF (k.put 0 (UInt8.ofNat n))):=λk=>by
  have:=Bu k (j:=0) (by omega) (n:=(n:Int)) (by omega) (by omega)
  simpa using this
 have e2:∀k:Key,di (eF k) [.i 1 1] (.int .u8 1)=some (eF (k.put 1 1)):=λk=>by
  have:=Bu k (j:=1) (by omega) (n:=1) (by omega) (by omega)
  simpa using this
 have e3:∀k:Key,di (eF k) [.i 1 1] (.int .u8 2)=some (eF (k.put 1 2)):=λk=>by
  have:=Bu k (j:=1) (by omega) (n:=2) (by omega) (by omega)
  simpa using this
 simp[w5,e1,e2,e3,Lo,Lq]
 refine al.nJ KB (bf o3 4 (by omega)) (by simp) (by simp[ae,ab,bj,idx]) (by simp[aO,aI,aV,idx]) (by simp) ?_
 have l4:=eI x3.2 (n:=4) (by omega)
 have o4:=dF o3 4
 generalize lN x3.2 4=x4 at*
 obtain⟨s0,EV⟩:∃s0:j9,s0=⟨n,7000+n,((k1.put 0 (UInt8.ofNat n)).put 1 1).fv,((k2.put 0 (UInt8.ofNat n)).put 1 2).fv,0,d.rules.uj,Ib,b,x3.1⟩:=⟨_,rfl⟩
 rw[←EV]
 simp
 have aaQ:s0.py=Ib:=by rw[EV]
 refine⟨λhx=> ?_,λhx=>⟨λTR=> ?_,λTR=> ?_⟩⟩
 ·refine al.nJ KB (bf o4 40 (by omega)) (by simp) (by simp[ae,ab,bj,idx]) (by simp[aO,aI,aV,idx]) (by simp) ?_
  have l5:=eI x4.2 (n:=40) (by omega)
  have o5:=dF o4 40
  generalize lN x4.2 40=x5 at*
  have w8:IntKind.u64.wrap (x5.1:Int)=(x5.1:Int):=by simp[IntKind.wrap,IntKind.bits,IntKind.signed];omega
  simp[w8]
  obtain⟨s1,yG⟩:∃s1:j9,s1= {s0 with next:=(x5.1:Int)}:=⟨_,rfl⟩
  rw[←yG]
  have PF:s1.py=Ib:=by rw[yG];exact aaQ
  have hnx:0≤s1.next∧s1.next≤18446744073709543423:=by rw[yG];show 0≤(x5.1:Int)∧(x5.1:Int)≤18446744073709543423;omega
  have T6:s1.iI=s0.iI∧s1.born=s0.born∧s1.loc=s0.loc:=by rw[yG];exact⟨rfl,rfl,rfl⟩
  refine al.nJ KB (bf o5 4 (by omega)) (by simp) (by simp[ae,ab,bj,idx]) (by simp[aO,aI,aV,idx]) (by simp) ?_
  have l6:=eI x5.2 (n:=4) (by omega)
  have o6:=dF o5 4
  generalize lN x5.2 4=x6 at*
  simp
  refine jh.jY x6.1 (λ_=>True) [0,6,8,9] (λi=>[(9,.int .i64 ((x6.1:Int)-i))]) (λi=>[(8,.box (fO (sW s1 (rW x6.2 i).1))),(KB,.box (gQ (rW x6.2 i).2))]) [.keep [0,6,8,9]] ?_
  simp[show(rW x6.2 0)=(zW,x6.2) from rfl,Y7 PF]
  refine⟨λi hi K hK=> ?_,λK=> ?_⟩
  ·obtain⟨g1,g2⟩:=uv o6 i
   have gl:=eI (rW x6.2 i).2 (n:=8) (by omega)
   have yd:rW x6.2 (i+1)=((rS (rW x6.2 i).1 ((lN (rW x6.2 i).2 8).1:Int)).1,(lN (rW x6.2 i).2 8).2):=rfl
   rw[yd]at hK
   generalize rW x6.2 i=y at*
   have hgt:(0:Int)<(x6.1:Int)-i:=by omega
   have hw9:IntKind.i64.wrap ((x6.1:Int)-i-1)=(x6.1:Int)-(i+1):=by rw[wrap_i64 (by omega)];omega
   simp[↓av,hi]
   refine ny.run [KB] rfl ?_
   simp[sW]
   refine al.nJ KB (bf g2 8 (by omega)) (by simp) (by simp[ae,ab,bj,idx]) (by simp[aO,aI,aV,idx]) (by simp) ?_
   generalize lN y.2 8=z at*
   have hw8:IntKind.u64.wrap (z.1:Int)=(z.1:Int):=by simp[IntKind.wrap,IntKind.bits,IntKind.signed];omega
   simp[hw8,Il]
   refine a0.ret (aX (g1.acc (c:=(z.1:Int)) (by omega) (by omega)).1) (by simp) (by simp) (by simp) ?_
   simp[xG,hw9]
   refine⟨[.keep [0,6,8,9]],?_⟩
   simp
   exact hK _ (by simp[sW])
  ·obtain⟨g1,g2⟩:=uv o6 x6.1
   generalize rW x6.2 x6.1=y at*
   simp[↓av,↓av]
   refine aM.with [] [KB] ?_
   simp[ah,aZ]
   refine⟨sW s1 y.1,y.2,⟨⟨?_,?_,?_,?_,?_,?_⟩,?_,g2⟩,rfl,rfl⟩
   ·show 0≤s1.born;rw[T6.2.1,EV];dsimp only;omega
   ·show s1.born≤d.now;rw[T6.2.1,EV];dsimp only;omega
   ·show s1.iI=d.rules.uj;rw[T6.1,EV]
   ·show 0≤s1.next;have:=hnx;omega
   ·show s1.next≤_;have:=hnx;omega
   ·exact g1.ok
   ·show s1.loc=n;rw[T6.2.2,EV]
 ·obtain⟨q1,q2,q3,_⟩:=hr
  have J3:s0.iI=d.rules.uj:=by rw[EV]
  refine ny.run [KB] rfl ?_
  simp
  refine al.nJ KB (bf o4 4 (by omega)) (by simp) (by simp[ae,ab,bj,idx]) (by simp[aO,aI,aV,idx]) (by simp) ?_
  have l5:=eI x4.2 (n:=4) (by omega)
  have o5:=dF o4 4
  generalize lN x4.2 4=x5 at*
  have w8:IntKind.u64.wrap (x5.1:Int)=(x5.1:Int):=by simp[IntKind.wrap,IntKind.bits,IntKind.signed];omega
  have w9:IntKind.u64.wrap (s0.iI-min s0.iI (x5.1:Int))=s0.iI-min s0.iI (x5.1:Int):=by rw[J3];simp[IntKind.wrap,IntKind.bits,IntKind.signed];omega
  simp[w8,w9]
  obtain⟨s1,yG⟩:∃s1:j9,s1= {s0 with next:=s0.iI-min s0.iI (x5.1:Int)}:=⟨_,rfl⟩
  rw[←yG]
  have PF:s1.py=Ib:=by rw[yG];exact aaQ
  have hnx:0≤s1.next∧s1.next≤18446744073709543423:=by rw[yG];show 0≤s0.iI-min s0.iI (x5.1:Int)∧s0.iI-min s0.iI (x5.1:Int)≤18446744073709543423;rw[J3];omega
  have T6:s1.iI=s0.iI∧s1.born=s0.born∧s1.loc=s0.loc:=by rw[yG];exact⟨rfl,rfl,rfl⟩
  refine al.nJ KB (bf o5 4 (by omega)) (by simp) (by simp[ae,ab,bj,idx]) (by simp[aO,aI,aV,idx]) (by simp) ?_
  have l6:=eI x5.2 (n:=4) (by omega)
  have o6:=dF o5 4
  generalize lN x5.2 4=x6 at*
  simp
  refine jh.jY x6.1 (λ_=>True) [0,6,8,9] (λi=>[(9,.int .i64 ((x6.1:Int)-i))]) (λi=>[(8,.box (fO (sW s1 (rW x6.2 i).1))),(KB,.box (gQ (rW x6.2 i).2))]) [.keep [0,6,8,9]] ?_
  simp[show(rW x6.2 0)=(zW,x6.2) from rfl,Y7 PF]
  refine⟨λi hi K hK=> ?_,λK=> ?_⟩
  ·obtain⟨g1,g2⟩:=uv o6 i
   have gl:=eI (rW x6.2 i).2 (n:=8) (by omega)
   have yd:rW x6.2 (i+1)=((rS (rW x6.2 i).1 ((lN (rW x6.2 i).2 8).1:Int)).1,(lN (rW x6.2 i).2 8).2):=rfl
   rw[yd]at hK
   generalize rW x6.2 i=y at*
   have hgt:(0:Int)<(x6.1:Int)-i:=by omega
   have hw9:IntKind.i64.wrap ((x6.1:Int)-i-1)=(x6.1:Int)-(i+1):=by rw[wrap_i64 (by omega)];omega
   simp[↓av,hi]
   refine ny.run [KB] rfl ?_
   simp[sW]
   refine al.nJ KB (bf g2 8 (by omega)) (by simp) (by simp[ae,ab,bj,idx]) (by simp[aO,aI,aV,idx]) (by simp) ?_
   generalize lN y.2 8=z at*
   have hw8:IntKind.u64.wrap (z.1:Int)=(z.1:Int):=by simp[IntKind.wrap,IntKind.bits,IntKind.signed];omega
   simp[hw8,Il]
   refine a0.ret (aX (g1.acc (c:=(z.1:Int)) (by omega) (by omega)).1) (by simp) (by simp) (by simp) ?_
   simp[xG,hw9]
   refine⟨[.keep [0,6,8,9]],?_⟩
   simp
   exact hK _ (by simp[sW])
  ·obtain⟨g1,g2⟩:=uv o6 x6.1
   generalize rW x6.2 x6.1=y at*
   simp[↓av,↓av]
   refine aM.with [] [KB] ?_
   simp[ah,aZ]
   refine⟨sW s1 y.1,y.2,⟨⟨?_,?_,?_,?_,?_,?_⟩,?_,g2⟩,rfl,rfl⟩
   ·show 0≤s1.born;rw[T6.2.1,EV];dsimp only;omega
   ·show s1.born≤d.now;rw[T6.2.1,EV];dsimp only;omega
   ·show s1.iI=d.rules.uj;rw[T6.1,EV]
   ·show 0≤s1.next;have:=hnx;omega
   ·show s1.next≤_;have:=hnx;omega
   ·exact g1.ok
   ·show s1.loc=n;rw[T6.2.2,EV]
 ·refine al.nJ KB (bf o4 4 (by omega)) (by simp) (by simp[ae,ab,bj,idx]) (by simp[aO,aI,aV,idx]) (by simp) ?_
  have l6:=eI x4.2 (n:=4) (by omega)
  have o6:=dF o4 4
  generalize lN x4.2 4=x6 at*
  simp
  refine jh.jY x6.1 (λ_=>True) [0,6,8,9] (λi=>[(9,.int .i64 ((x6.1:Int)-i))]) (λi=>[(8,.box (fO (sW s0 (rW x6.2 i).1))),(KB,.box (gQ (rW x6.2 i).2))]) [.keep [0,6,8,9]] ?_
  simp[show(rW x6.2 0)=(zW,x6.2) from rfl,Y7 aaQ]
  refine⟨λi hi K hK=> ?_,λK=> ?_⟩
  ·obtain⟨g1,g2⟩:=uv o6 i
   have gl:=eI (rW x6.2 i).2 (n:=8) (by omega)
   have yd:rW x6.2 (i+1)=((rS (rW x6.2 i).1 ((lN (rW x6.2 i).2 8).1:Int)).1,(lN (rW x6.2 i).2 8).2):=rfl
   rw[yd]at hK
   generalize rW x6.2 i=y at*
   have hgt:(0:Int)<(x6.1:Int)-i:=by omega
   have hw9:IntKind.i64.wrap ((x6.1:Int)-i-1)=(x6.1:Int)-(i+1):=by rw[wrap_i64 (by omega)];omega
   simp[↓av,hi]
   refine ny.run [KB] rfl ?_
   simp[sW]
   refine al.nJ KB (bf g2 8 (by omega)) (by simp) (by simp[ae,ab,bj,idx]) (by simp[aO,aI,aV,idx]) (by simp) ?_
   generalize lN y.2 8=z at*
   have hw8:IntKind.u64.wrap (z.1:Int)=(z.1:Int):=by simp[IntKind.wrap,IntKind.bits,IntKind.signed];omega
   simp[hw8,Il]
   refine a0.ret (aX (g1.acc (c:=(z.1:Int)) (by omega) (by omega)).1) (by simp) (by simp) (by simp) ?_
   simp[xG,hw9]
   refine⟨[.keep [0,6,8,9]],?_⟩
   simp
   exact hK _ (by simp[sW])
  ·obtain⟨g1,g2⟩:=uv o6 x6.1
   generalize rW x6.2 x6.1=y at*
   simp[↓av,↓av]
   refine aM.with [] [KB] ?_
   simp[ah,aZ]
   refine⟨sW s0 y.1,y.2,⟨⟨?_,?_,?_,?_,?_,?_⟩,?_,g2⟩,rfl,rfl⟩
   ·show 0≤s0.born;rw[EV];dsimp only;omega
   ·show s0.born≤d.now;rw[EV];dsimp only;omega
   ·show s0.iI=d.rules.uj;rw[EV]
   ·show 0≤s0.next;rw[EV];dsimp only;omega
   ·show s0.next≤_;rw[EV];dsimp only;omega
   ·exact g1.ok
   ·show s0.loc=n;rw[EV]
end Go.Ab
end H1s
noncomputable section H2s
namespace Go.Ab
open Go.Ab
structure VP (d:bK) (i:Nat):Prop where
 vm:VM d i
 sl:d.aD=[]
 len:d.aj.length=i
 rg:∀p∈d.aj,qJ p=[]
def qO (d:bK) (p:dC) (i:Nat) (T:List fX):bK:= {d with aj:=d.aj++[p],bn:=d.bn++[rt i],timers:=T}
theorem VP.add {d:bK} {i:Nat} (h:VP d i) (hi:i<3) {p:dC} (hp:mC d p) (hk:p.gC=nZ i) (hr:qJ p=[]) {T:List fX}
  (hT:T=d.timers∨∃a,d.now<a∧a≤4398046511104∧p.nI≠0∧T=kX d.timers ⟨a,nZ i,4⟩):VP (qO d p i T) (i+1):=by
 obtain⟨⟨v,t⟩,Dp,hlen,hrg⟩:=h
 have mI:(qO d p i T).aj.length=i+1:=by show(d.aj++[p]).length=i+1;simp[hlen]
 have fb:∀(j:Nat) (hj:j<d.aj.length) (hj':j<(qO d p i T).aj.length),(qO d p i T).aj[j]=d.aj[j]:=by
  intro j hj hj'
  show(d.aj++[p])[j]=d.aj[j]
  exact List.getElem_append_left hj
 have WM:∀(hj':i<(qO d p i T).aj.length),(qO d p i T).aj[i]=p:=by
  intro hj'
  have:(d.aj++[p])[d.aj.length]'(by simp)=p:=by simp
  show(d.aj++[p])[i]'(by simpa[hlen]using hj')=p
  simp only[←hlen,List.getElem_concat_length]
 have t0:nb (qO d p i T) d.timers i:=by
  obtain⟨a,b,c,e⟩:=t
  refine⟨a,λx hx=> ?_,c,e⟩
  obtain⟨r1,r2,r3,r4,j,hj,r5,r6⟩:=b x hx
  exact⟨r1,r2,r3,r4,j,by rw[mI];omega,r5,λhk=>by rw[fb j hj];exact r6 hk⟩
 have t1:nb (qO d p i T) (qO d p i T).timers (i+1):=by
  show nb (qO d p i T) T (i+1)
  rcases hT with rfl|⟨a,a1,a2,a3,e⟩
  ·obtain⟨a,b,c,e⟩:=t0
   exact⟨a,b,c,by omega⟩
  ·have:=t0.set (by rw[mI];omega) (t:=⟨a,nZ i,4⟩) (by show(2:Int)≤4;omega) (by show(4:Int)≤5;omega) a1 a2 (i:=i) (by rw[mI];omega) rfl (λ_=>by rw[WM];exact a3)
   rw[←e]at this
   exact this
 have anm:∀q∈(qO d p i T).aj,qJ q=[]:=by
  intro q hq
  rcases List.mem_append.1 (show q∈d.aj++[p] from hq)with hq|hq
  ·exact hrg q hq
  ·rw[List.mem_singleton.1 hq];exact hr
 refine⟨⟨?_,t1⟩,Dp,mI,anm⟩
 constructor
 ·exact v.ru
 ·exact v.n0
 ·exact v.n1
 ·exact v.p0
 ·exact v.p1
 ·exact v.bad
 ·refine⟨by rw[mI];omega,λj hj=> ?_⟩
  rw[mI]at hj
  by_cases e:j<d.aj.length
  ·rw[fb j e];exact v.G5.2 j e
  ·have:j=i:=by omega
   subst this
   rw[WM];exact hk
 ·intro q hq
  refine mC.of (d:=d) (e:=qO d p i T) rfl rfl ?_
  rcases List.mem_append.1 (show q∈d.aj++[p] from hq)with hq|hq
  ·exact v.yV q hq
  ·rw[List.mem_singleton.1 hq];exact hp
 ·have JX:=v.rtl
  refine⟨?_,λj hj=> ?_⟩
  ·show(d.bn++[rt i]).length≤3;simp;omega
  ·have ER:j<(d.bn++[rt i]).length:=hj
   show(d.bn++[rt i])[j]=rt j
   by_cases e:j<d.bn.length
   ·rw[List.getElem_append_left e];exact v.Y5.2 j e
   ·have:j=d.bn.length:=by simp at ER;omega
    have h2:j=i:=by omega
    rw[List.getElem_append_right (by omega)]
    simp[h2]
 ·show(d.bn++[rt i]).length=(d.aj++[p]).length
  have JX:=v.rtl
  simp;omega
 ·constructor
  ·show rP d.aD;exact v.sls.so
  ·show d.aD.Perm ((d.aj++[p]).flatMap qJ)
   rw[Dp]
   have:(d.aj++[p]).flatMap qJ=[]:=by
    rw[List.flatMap_eq_nil_iff]
    exact anm
   rw[this]
 ·exact t1.toT (by omega)
 ·exact v.s0
 ·exact v.s1
 ·exact v.rcn
 ·exact v.buc
end Go.Ab
end H2s
