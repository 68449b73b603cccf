/- Made sessions, and made peers. No condition. -/
import Derived.Test.YtjkfnhhekobfgaaGreatDoorB5
set_option maxRecDepth 10000
set_option maxHeartbeats 4000000
set_option linter.all false
noncomputable section H1s
namespace Go.Ab
open Go.Ab
def Key.put (k:Key) (j:Nat) (b:UInt8):Key:=⟨k.l.set j b,by rw[List.length_set];exact k.h⟩
theorem yF (k:Key) {j:Nat} (hj:j<32) {n:Int} (h0:0≤n) (h1:n<256):eL (dU k) [.i j 1] (.int .u8 n)=some (dU (k.put j (UInt8.ofNat n.toNat))):=by
 have hn:(UInt8.ofNat n.toNat).toNat=n.toNat:=by simp[UInt8.toNat_ofNat];omega
 have hx:(k.l.map u8)[j]? =some (u8 (k.l[j]'(by rw[k.h];exact hj))):=by
  rw[List.getElem?_map,gJ (by rw[k.h];exact hj)];rfl
 have hu:PV.int .u8 n=u8 (UInt8.ofNat n.toNat):=by simp only[u8,hn];congr 1;omega
 have h2:eL (.ar 1 32 (k.l.map u8)) [.i j 1] (.int .u8 n)=some (.ar 1 32 ((k.l.map u8).set j (.int .u8 n))):=by simp[hx,u8]
 have h3:dU (k.put j (UInt8.ofNat n.toNat))= .ar 1 32 ((k.l.map u8).set j (.int .u8 n)):=by
  show PV.ar 1 32 ((k.l.set j (UInt8.ofNat n.toNat)).map u8)=_
  rw[List.map_set,hu]
 rw[h3];exact h2
theorem abB (k:Key):k.fv.p=dU k:=rfl
theorem Ic (s:lq) (k:Key):Bx s (dU k)=gH {s with send:=k.fv}:=rfl
theorem Ie (s:lq) (k:Key):By s (dU k)=gH {s with recv:=k.fv}:=rfl
@[simp] theorem afF (w:sF):Pure (wP w):=by simp[wP]
@[simp] theorem aka (w:sF):wk (wP w)=wP w:=by simp[wP]
@[simp↓] theorem ahH (g:Bool) (w:sF) (K:PV->Prop):gG g (wP w) K=K (wP w):=_root_.id rfl
@[simp] theorem abQ (w:sF):(wP w).width=6:=_root_.id rfl
@[simp] theorem afG (w:sF):(wP w).bG=true:=_root_.id rfl
def zW:sF:=⟨false,0,0,0,0,0⟩
theorem BJ:tV zW=Dk:=by
 unfold tV Dk;congr 1;rw[fC];rfl
theorem vo (s:lq) (w:sF):BA s (wP w)=gH {s with wO:=tV w}:=rfl
theorem Fa (w:sF):(tV w).p=wP w:=rfl
def WI (w:sF):Prop:=0≤w.top∧w.top<8∧(w.used=true∨w=zW)
theorem WI.z:WI zW:=⟨by decide,by decide,Or.inr rfl⟩
theorem WI.acc {w:sF} (h:WI w) {c:Int} (c0:0≤c) (c8:c<8):Yr w c∧WI (qk w c).1:=by
 have hs:Yr w c:=⟨h.1,h.2.1,c0,c8⟩
 refine⟨hs,(Dj hs).1,(Dj hs).2,?_⟩
 rcases OO hs with⟨_,h2⟩|h2
 ·rw[h2];exact h.2.2
 ·exact Or.inl h2
theorem WI.ok {w:sF} (h:WI w):Dn (tV w):=by
 rcases h.2.2 with h2|h2
 ·exact Or.inr ⟨w,h2,⟨h.1,h.2.1⟩,rfl⟩
 ·rw[h2];exact Or.inl BJ
def qp (c:qJ):Nat->sF×qJ
 |0=>(zW,c)
 |i+1=>((qk (qp c i).1 ((mq (qp c i).2 8).1:Int)).1,(mq (qp c i).2 8).2)
theorem sK {c:qJ} (h:iS c):∀i,WI (qp c i).1∧iS (qp c i).2
 |0=>⟨.z,h⟩
 |
  i+1=>by
  obtain⟨h1,h2⟩:=sK h i
  have hl:=eW (qp c i).2 (n:=8) (by omega)
  exact⟨(h1.acc (by omega) (by omega)).2,eV h2 8⟩
def sW (s:lq) (w:sF):lq:= {s with wO:=tV w}
theorem Ut {s:lq} (h:s.wO=Dk):sW s zW=s:=by unfold sW;rw[BJ,←h]
theorem dI {c:qJ} (h:iS c) {d:cK} (h0:0≤d.now) (h1:d.now≤16777216) (hr:vT d.rules) {n:Nat} (wK:1≤n) (DX:n≤100):
  ai Pg I.dI [.pt KB [] 0,bE d,.int .u32 n] [.box (gI c)] (λr fp=>∃w:lq×qJ,(tW d w.1∧w.1.loc=n∧iS w.2)∧r=gH w.1∧fp=[.box (gI w.2)]):=by
 refine ai.intro T.dI (by simp[F.dI]) ?_
 simp[F.dI,aj,aF]
 refine qD.run [KB] rfl ?_
 simp
 refine an.qj KB (bP h 12 (by omega)) (by simp) (by simp[ab,ae,bM,idx]) (by simp[aD,aB,bp,idx]) (by simp) ?_
 have l0:=eW c (n:=12) (by omega)
 have o0:=eV h 12
 generalize mq c 12=x0 at*
 have w1:IntKind.i64.wrap ((x0.1:Int)*5000)=(x0.1:Int)*5000:=wrap_i64 (by omega)
 have w2:IntKind.i64.wrap (d.now-min d.now ((x0.1:Int)*5000))=d.now-min d.now ((x0.1:Int)*5000):=wrap_i64 (by omega)
 simp[w1,w2]
 obtain⟨b,hb⟩:∃b,b=d.now-min d.now ((x0.1:Int)*5000):=⟨_,rfl⟩
 rw[←hb]
 refine qD.run [KB,8] rfl ?_
 have w3:IntKind.u32.wrap (7000+(n:Int))=7000+(n:Int):=by simp[IntKind.wrap,IntKind.bits,IntKind.signed];omega
 simp[w3]
 refine an.wG KB (nr o0) (by simp) (by simp[ab,ae,bM,idx]) (by simp[aD,aB,bp,idx]) (by simp) ?_
 rintro⟨k1,c1⟩ o1
 simp
 refine an.wG KB (nr o1) (by simp) (by simp[ab,ae,bM,idx]) (by simp[aD,aB,bp,idx]) (by simp) ?_
 rintro⟨k2,c2⟩ o2
 simp
 refine an.qj KB (yz o2) (by simp) (by simp[ab,ae,bM,idx]) (by simp[aD,aB,bp,idx]) (by simp) ?_
 have o3:iS (bool c2).2:=eV o2 2
 generalize bool c2=x3 at*
 simp
 refine aU.ret (eo n (7000+n) k1.fv k2.fv b x3.1 d.rules.mj) (by simp[Key.fv]) (by simp) (by simp) ?_
 have w5:IntKind.u8.wrap (n:Int)=(n:Int):=wrap_u8 (by omega)
 have e1:∀k:Key,eL (dU k) [.i 0 1] (.int .u8 (n:Int))=some (dU (k.put 0 (UInt8.ofNat n))):=λk=>by
  have:=yF k (j:=0) (by omega) (n:=(n:Int)) (by omega) (by omega)
  simpa using this
 have e2:∀k:Key,eL (dU k) [.i 1 1] (.int .u8 1)=some (dU (k.put 1 1)):=λk=>by
  have:=yF k (j:=1) (by omega) (n:=1) (by omega) (by omega)
  simpa using this
 have e3:∀k:Key,eL (dU k) [.i 1 1] (.int .u8 2)=some (dU (k.put 1 2)):=λk=>by
  have:=yF k (j:=1) (by omega) (n:=2) (by omega) (by omega)
  simpa using this
 simp[w5,abB,e1,e2,e3,Ic,Ie]
 refine an.qj KB (bP o3 4 (by omega)) (by simp) (by simp[ab,ae,bM,idx]) (by simp[aD,aB,bp,idx]) (by simp) ?_
 have l4:=eW x3.2 (n:=4) (by omega)
 have o4:=eV o3 4
 generalize mq x3.2 4=x4 at*
 obtain⟨s0,AY⟩:∃s0:lq,s0=⟨n,7000+n,((k1.put 0 (UInt8.ofNat n)).put 1 1).fv,((k2.put 0 (UInt8.ofNat n)).put 1 2).fv,0,d.rules.mj,Dk,b,x3.1⟩:=⟨_,rfl⟩
 rw[←AY]
 simp
 have Wa:s0.wO=Dk:=by rw[AY]
 refine⟨λhx=> ?_,λhx=>⟨λMV=> ?_,λMV=> ?_⟩⟩
 ·refine an.qj KB (bP o4 40 (by omega)) (by simp) (by simp[ab,ae,bM,idx]) (by simp[aD,aB,bp,idx]) (by simp) ?_
  have l5:=eW x4.2 (n:=40) (by omega)
  have o5:=eV o4 40
  generalize mq x4.2 40=x5 at*
  have w8:IntKind.u64.wrap (x5.1:Int)=(x5.1:Int):=by simp[IntKind.wrap,IntKind.bits,IntKind.signed];omega
  simp[w8]
  obtain⟨s1,AS⟩:∃s1:lq,s1= {s0 with next:=(x5.1:Int)}:=⟨_,rfl⟩
  rw[←AS]
  have Mj:s1.wO=Dk:=by rw[AS];exact Wa
  have VH:0≤s1.next∧s1.next≤18446744073709543423:=by rw[AS];show 0≤(x5.1:Int)∧(x5.1:Int)≤18446744073709543423;omega
  have P2:s1.gB=s0.gB∧s1.born=s0.born∧s1.loc=s0.loc:=by rw[AS];exact⟨rfl,rfl,rfl⟩
  refine an.qj KB (bP o5 4 (by omega)) (by simp) (by simp[ab,ae,bM,idx]) (by simp[aD,aB,bp,idx]) (by simp) ?_
  have l6:=eW x5.2 (n:=4) (by omega)
  have o6:=eV o5 4
  generalize mq x5.2 4=x6 at*
  simp
  refine fb.fG x6.1 (λ_=>True) [0,6,8,9] (λi=>[(9,.int .i64 ((x6.1:Int)-i))]) (λi=>[(8,.box (gH (sW s1 (qp x6.2 i).1))),(KB,.box (gI (qp x6.2 i).2))]) [.keep [0,6,8,9]] ?_
  simp[show(qp x6.2 0)=(zW,x6.2) from rfl,Ut Mj]
  refine⟨λi hi K hK=> ?_,λK=> ?_⟩
  ·obtain⟨g1,g2⟩:=sK o6 i
   have gl:=eW (qp x6.2 i).2 (n:=8) (by omega)
   have Wb:qp x6.2 (i+1)=((qk (qp x6.2 i).1 ((mq (qp x6.2 i).2 8).1:Int)).1,(mq (qp x6.2 i).2 8).2):=rfl
   rw[Wb]at hK
   generalize qp x6.2 i=y at*
   have Wc:(0:Int)<(x6.1:Int)-i:=by omega
   have hw9:IntKind.i64.wrap ((x6.1:Int)-i-1)=(x6.1:Int)-(i+1):=by rw[wrap_i64 (by omega)];omega
   simp[↓ah,Wc,hi]
   refine qD.run [KB] rfl ?_
   simp[sW]
   refine an.qj KB (bP g2 8 (by omega)) (by simp) (by simp[ab,ae,bM,idx]) (by simp[aD,aB,bp,idx]) (by simp) ?_
   generalize mq y.2 8=z at*
   have hw8:IntKind.u64.wrap (z.1:Int)=(z.1:Int):=by simp[IntKind.wrap,IntKind.bits,IntKind.signed];omega
   simp[hw8,Fa]
   refine aU.ret (aZ (g1.acc (c:=(z.1:Int)) (by omega) (by omega)).1) (by simp) (by simp) (by simp) ?_
   simp[vo,hw9]
   refine⟨[.keep [0,6,8,9]],?_⟩
   simp
   exact hK _ (by simp[sW])
  ·obtain⟨g1,g2⟩:=sK o6 x6.1
   generalize qp x6.2 x6.1=y at*
   simp[↓ah,↓ah]
   refine al.with [] [KB] ?_
   simp[af,(cE _).refs,aE,(cE _).aB,ae,ab]
   refine⟨sW s1 y.1,y.2,⟨⟨?_,?_,?_,?_,?_,?_⟩,?_,g2⟩,rfl,rfl⟩
   ·show 0≤s1.born;rw[P2.2.1,AY];dsimp only;omega
   ·show s1.born≤d.now;rw[P2.2.1,AY];dsimp only;omega
   ·show s1.gB=d.rules.mj;rw[P2.1,AY]
   ·show 0≤s1.next;have:=VH;omega
   ·show s1.next≤_;have:=VH;omega
   ·exact g1.ok
   ·show s1.loc=n;rw[P2.2.2,AY]
 ·obtain⟨q1,q2,q3,_⟩:=hr
  have hfe:s0.gB=d.rules.mj:=by rw[AY]
  refine qD.run [KB] rfl ?_
  simp
  refine an.qj KB (bP o4 4 (by omega)) (by simp) (by simp[ab,ae,bM,idx]) (by simp[aD,aB,bp,idx]) (by simp) ?_
  have l5:=eW x4.2 (n:=4) (by omega)
  have o5:=eV o4 4
  generalize mq x4.2 4=x5 at*
  have w8:IntKind.u64.wrap (x5.1:Int)=(x5.1:Int):=by simp[IntKind.wrap,IntKind.bits,IntKind.signed];omega
  have w9:IntKind.u64.wrap (s0.gB-min s0.gB (x5.1:Int))=s0.gB-min s0.gB (x5.1:Int):=by rw[hfe];simp[IntKind.wrap,IntKind.bits,IntKind.signed];omega
  simp[w8,w9]
  obtain⟨s1,AS⟩:∃s1:lq,s1= {s0 with next:=s0.gB-min s0.gB (x5.1:Int)}:=⟨_,rfl⟩
  rw[←AS]
  have Mj:s1.wO=Dk:=by rw[AS];exact Wa
  have VH:0≤s1.next∧s1.next≤18446744073709543423:=by rw[AS];show 0≤s0.gB-min s0.gB (x5.1:Int)∧s0.gB-min s0.gB (x5.1:Int)≤18446744073709543423;rw[hfe];omega
  have P2:s1.gB=s0.gB∧s1.born=s0.born∧s1.loc=s0.loc:=by rw[AS];exact⟨rfl,rfl,rfl⟩
  refine an.qj KB (bP o5 4 (by omega)) (by simp) (by simp[ab,ae,bM,idx]) (by simp[aD,aB,bp,idx]) (by simp) ?_
  have l6:=eW x5.2 (n:=4) (by omega)
  have o6:=eV o5 4
  generalize mq x5.2 4=x6 at*
  simp
  refine fb.fG x6.1 (λ_=>True) [0,6,8,9] (λi=>[(9,.int .i64 ((x6.1:Int)-i))]) (λi=>[(8,.box (gH (sW s1 (qp x6.2 i).1))),(KB,.box (gI (qp x6.2 i).2))]) [.keep [0,6,8,9]] ?_
  simp[show(qp x6.2 0)=(zW,x6.2) from rfl,Ut Mj]
  refine⟨λi hi K hK=> ?_,λK=> ?_⟩
  ·obtain⟨g1,g2⟩:=sK o6 i
   have gl:=eW (qp x6.2 i).2 (n:=8) (by omega)
   have Wb:qp x6.2 (i+1)=((qk (qp x6.2 i).1 ((mq (qp x6.2 i).2 8).1:Int)).1,(mq (qp x6.2 i).2 8).2):=rfl
   rw[Wb]at hK
   generalize qp x6.2 i=y at*
   have Wc:(0:Int)<(x6.1:Int)-i:=by omega
   have hw9:IntKind.i64.wrap ((x6.1:Int)-i-1)=(x6.1:Int)-(i+1):=by rw[wrap_i64 (by omega)];omega
   simp[↓ah,Wc,hi]
   refine qD.run [KB] rfl ?_
   simp[sW]
   refine an.qj KB (bP g2 8 (by omega)) (by simp) (by simp[ab,ae,bM,idx]) (by simp[aD,aB,bp,idx]) (by simp) ?_
   generalize mq y.2 8=z at*
   have hw8:IntKind.u64.wrap (z.1:Int)=(z.1:Int):=by simp[IntKind.wrap,IntKind.bits,IntKind.signed];omega
   simp[hw8,Fa]
   refine aU.ret (aZ (g1.acc (c:=(z.1:Int)) (by omega) (by omega)).1) (by simp) (by simp) (by simp) ?_
   simp[vo,hw9]
   refine⟨[.keep [0,6,8,9]],?_⟩
   simp
   exact hK _ (by simp[sW])
  ·obtain⟨g1,g2⟩:=sK o6 x6.1
   generalize qp x6.2 x6.1=y at*
   simp[↓ah,↓ah]
   refine al.with [] [KB] ?_
   simp[af,(cE _).refs,aE,(cE _).aB,ae,ab]
   refine⟨sW s1 y.1,y.2,⟨⟨?_,?_,?_,?_,?_,?_⟩,?_,g2⟩,rfl,rfl⟩
   ·show 0≤s1.born;rw[P2.2.1,AY];dsimp only;omega
   ·show s1.born≤d.now;rw[P2.2.1,AY];dsimp only;omega
   ·show s1.gB=d.rules.mj;rw[P2.1,AY]
   ·show 0≤s1.next;have:=VH;omega
   ·show s1.next≤_;have:=VH;omega
   ·exact g1.ok
   ·show s1.loc=n;rw[P2.2.2,AY]
 ·refine an.qj KB (bP o4 4 (by omega)) (by simp) (by simp[ab,ae,bM,idx]) (by simp[aD,aB,bp,idx]) (by simp) ?_
  have l6:=eW x4.2 (n:=4) (by omega)
  have o6:=eV o4 4
  generalize mq x4.2 4=x6 at*
  simp
  refine fb.fG x6.1 (λ_=>True) [0,6,8,9] (λi=>[(9,.int .i64 ((x6.1:Int)-i))]) (λi=>[(8,.box (gH (sW s0 (qp x6.2 i).1))),(KB,.box (gI (qp x6.2 i).2))]) [.keep [0,6,8,9]] ?_
  simp[show(qp x6.2 0)=(zW,x6.2) from rfl,Ut Wa]
  refine⟨λi hi K hK=> ?_,λK=> ?_⟩
  ·obtain⟨g1,g2⟩:=sK o6 i
   have gl:=eW (qp x6.2 i).2 (n:=8) (by omega)
   have Wb:qp x6.2 (i+1)=((qk (qp x6.2 i).1 ((mq (qp x6.2 i).2 8).1:Int)).1,(mq (qp x6.2 i).2 8).2):=rfl
   rw[Wb]at hK
   generalize qp x6.2 i=y at*
   have Wc:(0:Int)<(x6.1:Int)-i:=by omega
   have hw9:IntKind.i64.wrap ((x6.1:Int)-i-1)=(x6.1:Int)-(i+1):=by rw[wrap_i64 (by omega)];omega
   simp[↓ah,Wc,hi]
   refine qD.run [KB] rfl ?_
   simp[sW]
   refine an.qj KB (bP g2 8 (by omega)) (by simp) (by simp[ab,ae,bM,idx]) (by simp[aD,aB,bp,idx]) (by simp) ?_
   generalize mq y.2 8=z at*
   have hw8:IntKind.u64.wrap (z.1:Int)=(z.1:Int):=by simp[IntKind.wrap,IntKind.bits,IntKind.signed];omega
   simp[hw8,Fa]
   refine aU.ret (aZ (g1.acc (c:=(z.1:Int)) (by omega) (by omega)).1) (by simp) (by simp) (by simp) ?_
   simp[vo,hw9]
   refine⟨[.keep [0,6,8,9]],?_⟩
   simp
   exact hK _ (by simp[sW])
  ·obtain⟨g1,g2⟩:=sK o6 x6.1
   generalize qp x6.2 x6.1=y at*
   simp[↓ah,↓ah]
   refine al.with [] [KB] ?_
   simp[af,(cE _).refs,aE,(cE _).aB,ae,ab]
   refine⟨sW s0 y.1,y.2,⟨⟨?_,?_,?_,?_,?_,?_⟩,?_,g2⟩,rfl,rfl⟩
   ·show 0≤s0.born;rw[AY];dsimp only;omega
   ·show s0.born≤d.now;rw[AY];dsimp only;omega
   ·show s0.gB=d.rules.mj;rw[AY]
   ·show 0≤s0.next;rw[AY];dsimp only;omega
   ·show s0.next≤_;rw[AY];dsimp only;omega
   ·exact g1.ok
   ·show s0.loc=n;rw[AY]
end Go.Ab
end H1s
noncomputable section H2s
namespace Go.Ab
open Go.Ab
structure VP (d:cK) (i:Nat):Prop where
 vm:VM d i
 sl:d.bq=[]
 len:d.aa.length=i
 rg:∀p∈d.aa,nL p=[]
def oZ (d:cK) (p:fg) (i:Nat) (T:List iR):cK:= {d with aa:=d.aa++[p],aV:=d.aV++[rt i],timers:=T}
theorem VP.add {d:cK} {i:Nat} (h:VP d i) (hi:i<3) {p:fg} (hp:lC d p) (hk:p.fF=nK i) (hr:nL p=[]) {T:List iR}
  (hT:T=d.timers∨∃a,d.now<a∧a≤4398046511104∧p.oS≠0∧T=yA d.timers ⟨a,nK i,4⟩):VP (oZ d p i T) (i+1):=by
 obtain⟨⟨v,t⟩,qf,hlen,YP⟩:=h
 have AZ:(oZ d p i T).aa.length=i+1:=by show(d.aa++[p]).length=i+1;simp[hlen]
 have da:∀(j:Nat) (hj:j<d.aa.length) (Sp:j<(oZ d p i T).aa.length),(oZ d p i T).aa[j]=d.aa[j]:=by
  intro j hj Sp
  show(d.aa++[p])[j]=d.aa[j]
  exact List.getElem_append_left hj
 have Hg:∀(Sp:i<(oZ d p i T).aa.length),(oZ d p i T).aa[i]=p:=by
  intro Sp
  have:(d.aa++[p])[d.aa.length]'(by simp)=p:=by simp
  show(d.aa++[p])[i]'(by simpa[hlen]using Sp)=p
  simp only[←hlen,List.getElem_concat_length]
 have t0:lO (oZ d p i T) d.timers i:=by
  obtain⟨a,b,c,e⟩:=t
  refine⟨a,λx hx=> ?_,c,e⟩
  obtain⟨r1,r2,r3,r4,j,hj,r5,r6⟩:=b x hx
  exact⟨r1,r2,r3,r4,j,by rw[AZ];omega,r5,λhk=>by rw[da j hj];exact r6 hk⟩
 have t1:lO (oZ d p i T) (oZ d p i T).timers (i+1):=by
  show lO (oZ d p i T) T (i+1)
  rcases hT with rfl|⟨a,a1,a2,a3,e⟩
  ·obtain⟨a,b,c,e⟩:=t0
   exact⟨a,b,c,by omega⟩
  ·have:=t0.set (by rw[AZ];omega) (t:=⟨a,nK i,4⟩) (by show(2:Int)≤4;omega) (by show(4:Int)≤5;omega) a1 a2 (i:=i) (by rw[AZ];omega) rfl (λ_=>by rw[Hg];exact a3)
   rw[←e]at this
   exact this
 have adz:∀q∈(oZ d p i T).aa,nL q=[]:=by
  intro q hq
  rcases List.mem_append.1 (show q∈d.aa++[p] from hq)with hq|hq
  ·exact YP q hq
  ·rw[List.mem_singleton.1 hq];exact hr
 refine⟨⟨?_,t1⟩,qf,AZ,adz⟩
 constructor
 ·exact v.ru
 ·exact v.n0
 ·exact v.n1
 ·exact v.p0
 ·exact v.p1
 ·exact v.bad
 ·refine⟨by rw[AZ];omega,λj hj=> ?_⟩
  rw[AZ]at hj
  by_cases e:j<d.aa.length
  ·rw[da j e];exact v.D5.2 j e
  ·have:j=i:=by omega
   subst this
   rw[Hg];exact hk
 ·intro q hq
  refine lC.of (d:=d) (e:=oZ d p i T) rfl rfl ?_
  rcases List.mem_append.1 (show q∈d.aa++[p] from hq)with hq|hq
  ·exact v.IM q hq
  ·rw[List.mem_singleton.1 hq];exact hp
 ·have FI:=v.Yt
  refine⟨?_,λj hj=> ?_⟩
  ·show(d.aV++[rt i]).length≤3;simp;omega
  ·have zQ:j<(d.aV++[rt i]).length:=hj
   show(d.aV++[rt i])[j]=rt j
   by_cases e:j<d.aV.length
   ·rw[List.getElem_append_left e];exact v.rts.2 j e
   ·have:j=d.aV.length:=by simp at zQ;omega
    have h2:j=i:=by omega
    rw[List.getElem_append_right (by omega)]
    simp[h2]
 ·show(d.aV++[rt i]).length=(d.aa++[p]).length
  have FI:=v.Yt
  simp;omega
 ·constructor
  ·show qb d.bq;exact v.Ur.so
  ·show d.bq.Perm ((d.aa++[p]).flatMap nL)
   rw[qf]
   have:(d.aa++[p]).flatMap nL=[]:=by
    rw[List.flatMap_eq_nil_iff]
    exact adz
   rw[this]
 ·exact t1.toT (by omega)
 ·exact v.s0
 ·exact v.s1
 ·exact v.rcn
 ·exact v.buc
end Go.Ab
end H2s
