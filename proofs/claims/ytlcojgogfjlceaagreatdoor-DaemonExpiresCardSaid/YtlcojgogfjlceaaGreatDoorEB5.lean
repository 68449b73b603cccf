/- Functions of the program and of the document, as the abstract reading walks them, part 5. No condition. -/
import Derived.Test.YtlcojgogfjlceaaGreatDoorEB4
import Derived.Test.YtlcojgogfjlceaaGreatDoorEA5
import Derived.Laws.BitsAllLaws
set_option maxRecDepth 10000
set_option maxHeartbeats 4000000
set_option linter.all false
noncomputable section
namespace Go.Ab
@[simp] theorem ahh:dM 1=[KB]:=rfl
structure tA where
 l:List UInt8
 at_:Nat
def eu (c:tA):PV:= .st 2 [aQ c.l,.int .i64 c.at_]
@[simp] theorem zZ (e:tA):Pure (eu e):=by simp[eu]
@[simp↓] theorem ZH (e:tA) (r:List Step):aO (eu e) (.f 0 0::r)=aO (aQ e.l) r:=by simp[eu]
@[simp↓] theorem ZI (e:tA) (r:List Step):aO (eu e) (.f 1 1::r)=aO (.int .i64 e.at_) r:=by simp[eu,aB]
@[simp↓] theorem ZJ (e:tA) (n:Nat):bO (eu e) [.f 1 1] (.int .i64 n)=some (eu {e with at_:=n}):=by simp[eu,aB]
structure iD (c:tA):Prop where
 len:c.l.length≤1048576
 at_:c.at_≤c.l.length
theorem Km (c:tA):ae Pg 37 [.pt KB [] 0] [.box (eu c)] (λr fp=>r= .bl (decide (c.at_<c.l.length))∧fp=[.box (eu c)]):=by
 refine ae.intro (aC R.jK.2) (by simp[R.jK]) ?_;simp[R.jK,aj,av];refine aA.with [] [KB] ?_;simp
def oD (c:tA) (n:Nat):Nat×tA:=if h:c.at_<c.l.length∧1≤n then((c.l[c.at_]'h.1).toNat%n,{c with at_:=c.at_+1})else(0,c)
theorem dC {c:tA} (h:iD c) (n:Nat):iD (oD c n).2:=by
 unfold oD;split
 ·rename_i hh;exact⟨h.len,hh.1⟩
 ·exact h
theorem dB (c:tA) {n:Nat} (h:1≤n):(oD c n).1<n:=by
 unfold oD;split
 ·exact JdZ _ h
 ·exact h
theorem bg {c:tA} (h:iD c) (n:Nat) (hn:n≤1048576):ae Pg 15 [.pt KB [] 0,.int .i64 n] [.box (eu c)] (λr fp=>r= .int .i64 (oD c n).1∧fp=[.box (eu (oD c n).2)]):=by
 refine ae.intro (aC R.jL.2) (by simp[R.jL]) ?_;have hlen:=h.len;simp[R.jL,aj,av];refine ai.gA [KB] [] [.box (eu c)] (Km c) (by simp[ab]) (by simp[az]) (by simp[ab,af]) ?_;simp[aI,az,aE];by_cases hl:c.at_<c.l.length
 ·by_cases h1:1≤n
  ·have hw:IntKind.i64.wrap ((c.at_:Int)+1)=((c.at_+1:Nat):Int):=by rw[wrap_i64 (by omega)];rfl
   have hx:c.l[c.at_]? =some c.l[c.at_]:=gJ hl;have hb:=(c.l[c.at_]).toNat_lt;have hm:=Nat.mod_le (c.l[c.at_]).toNat n;have hq:IntKind.i64.wrap (((c.at_+1:Nat):Int)-1)=(c.at_:Int):=by rw[wrap_i64 (by omega)];omega
   have Xn:IntKind.i64.wrap (((c.l[c.at_]).toNat:Int))=((c.l[c.at_]).toNat:Int):=wrap_i64 (by omega)
   have hw4:IntKind.i64.wrap (((c.l[c.at_]).toNat:Int).tmod n)=((c.l[c.at_].toNat%n:Nat):Int):=by
    rw[←JtJ];exact wrap_i64 (by omega)
   simp[hl,show¬(n:Int)<1 by omega,hw,hq,-Int.natCast_add,-Int.natCast_emod];refine⟨λh'=>absurd h' (by omega),λ_=> ?_⟩;simp only[u8];simp[Xn,show¬n=0 by omega];refine aA.with [] [KB] ?_;simp[oD,hl,h1];rw[←JtJ];rfl
  ·have h0:n=0:=by omega
   subst h0;simp[hl];refine aA.with [] [KB] ?_;simp[oD]
 ·simp[hl];intro _;refine aA.with [] [KB] ?_;simp[oD,hl]
theorem DB (a b:Nat) (ha:a<4611686018427387904) (hb:b<4611686018427387904):bits .or .i64 (a:Int) (b:Int)=((a|||b:Nat):Int):=by
 have hx:a|||b<2^62:=JoW (by omega) (by omega)
 have h1:(BitVec.ofInt 64 (a:Int)).toNat=a:=by
  rw[JtV,BitVec.toNat_ofNat];exact JiJ (by omega)
 have h2:(BitVec.ofInt 64 (b:Int)).toNat=b:=by
  rw[JtV,BitVec.toNat_ofNat];exact JiJ (by omega)
 show IntKind.i64.wrap ((BitVec.ofInt 64 (a:Int)|||BitVec.ofInt 64 (b:Int)).toNat:Int)=_;rw[BitVec.toNat_or,h1,h2];exact wrap_i64 (by omega)
theorem ai.auc {P:Program} {s:St} {α:Type} {d:Option Nat} {f:FuncId} {args bC:List PV} {c:tA} {Φ:α->Prop} {r:α->PV} {c':α->tA} {K:St->Prop} {t:Tg K} (k:Nat) (hA:ae P f bC [.box (eu c)] λx fp=>∃w,Φ w∧x=r w∧fp=[.box (eu (c' w))]) (hb:get s.bx k=some (.box (eu c)))
  (sO:ah (bT [k]) args=true) (ha:fP (aS (bz [k]) args)=bC) (hr:∀w,Pure (r w)) (h:∀w,Φ w->K ({s with bx:=put s.bx k (.box (eu (c' w)))}.put d (r w))):ai P s d f args K t:=by
 subst ha;refine⟨[k],[],[.box (eu c)],_,by simp[getAll,hb],by simp,by simp,sO,by simp[ab],ae.XG (by simpa[az,(zZ c).aE]using hA),?_⟩;rintro x fp ⟨w,hw,rfl,rfl⟩;refine⟨⟨rfl,(hr w).refs _,by simp[ab]⟩,?_⟩;simpa[aI,az,(zZ _).aE,(hr w).aE]using h w hw
theorem ai.cds {P:Program} {s:St} {d:Option Nat} {f:FuncId} {args bC:List PV} {c c':tA} {r:PV} {K:St->Prop} {t:Tg K} (k:Nat) (hA:ae P f bC [.box (eu c)] λx fp=>x=r∧fp=[.box (eu c')]) (hb:get s.bx k=some (.box (eu c)))
  (sO:ah (bT [k]) args=true) (ha:fP (aS (bz [k]) args)=bC) (hr:Pure r) (h:K ({s with bx:=put s.bx k (.box (eu c'))}.put d r)):ai P s d f args K t:=by
 refine ai.gen [k] [] [.box (eu c)] hA (by simp[getAll,hb]) (by simp) (by simp) sO (by simp[ab]) ha (by simp[az]) ⟨rfl,hr.refs _,by simp[ab]⟩ ?_;simpa[aI,az,(zZ c').aE,hr.aE]using h
theorem ai.jJ {P:Program} {s:St} {d:Option Nat} {f:FuncId} {args bC:List PV} {c c':tA} {r:PV} {K:St->Prop} {t:Tg K} (k:Nat) (hA:ae P f bC [.box (eu c)] λx fp=>x=r∧fp=[.box (eu c')]) (h:K ({s with bx:=put s.bx k (.box (eu c'))}.put d r)) (hb:get s.bx k=some (.box (eu c)):=by simp) (sO:ah (bT [k]) args=true:=by simp[ah,af,bT,idx]) (ha:fP (aS (bz [k]) args)=bC:=by simp[aS,aE,bz,idx]) (hr:Pure r:=by simp):ai P s d f args K t:=ai.cds k hA hb sO ha hr h
theorem ai.u9 {P:Program} {s:St} {α:Type} {d:Option Nat} {f:FuncId} {args bC:List PV} {c:tA} {Φ:α->Prop} {r:α->PV} {c':α->tA} {K:St->Prop} {t:Tg K} (k:Nat) (hA:ae P f bC [.box (eu c)] λx fp=>∃w,Φ w∧x=r w∧fp=[.box (eu (c' w))]) (h:∀w,Φ w->K ({s with bx:=put s.bx k (.box (eu (c' w)))}.put d (r w))) (hb:get s.bx k=some (.box (eu c)):=by simp) (sO:ah (bT [k]) args=true:=by simp[ah,af,bT,idx]) (ha:fP (aS (bz [k]) args)=bC:=by simp[aS,aE,bz,idx]) (hr:∀w,Pure (r w):=by simp):ai P s d f args K t:=ai.auc k hA hb sO ha hr h
def bool (c:tA):Bool×tA:=(decide ((oD c 2).1=1),(oD c 2).2)
theorem Du {c:tA} (h:iD c):ae Pg 24 [.pt KB [] 0] [.box (eu c)] (λr fp=>r= .bl (bool c).1∧fp=[.box (eu (bool c).2)]):=by
 refine ae.intro (aC R.jM.2) (by simp[R.jM]) ?_;simp[R.jM,aj,av];refine ai.jJ KB (bg h 2 (by omega)) ?_;simp;refine aA.with [] [KB] ?_;simp[bool,ab,az];omega
theorem E5 {c:tA} (h:iD c) (n:Nat) (hn:n≤16777216) (h1:1≤n):ae Pg 14 [.pt KB [] 0,.int .i64 n] [.box (eu c)] (λr fp=>∃m c',iD c'∧m<n∧r= .int .i64 (m:Nat)∧fp=[.box (eu c')]):=by
 refine ae.intro (aC R.kE.2) (by simp[R.kE]) ?_;simp[R.kE,aj,av,show¬(n:Int)<1 by omega];refine ai.jJ KB (bg h 256 (by omega)) ?_;have l1:=dB c (n:=256) (by omega);have o1:=dC h 256;generalize oD c 256=a at*;simp;refine ai.jJ KB (bg o1 256 (by omega)) ?_;have l2:=dB a.2 (n:=256) (by omega);have o2:=dC o1 256;generalize oD a.2 256=b at*;simp;refine ai.jJ KB (bg o2 256 (by omega)) ?_;have l3:=dB b.2 (n:=256) (by omega);have o3:=dC o2 256;generalize oD b.2 256=e at*;simp;refine⟨by omega,?_⟩
 have w1:IntKind.i64.wrap ((a.1:Int)*2^min 16 IntKind.i64.bits)=((a.1*65536:Nat):Int):=by
  simp[IntKind.bits];rw[wrap_i64 (by omega)]
 have w2:IntKind.i64.wrap ((b.1:Int)*2^min 8 IntKind.i64.bits)=((b.1*256:Nat):Int):=by
  simp[IntKind.bits];rw[wrap_i64 (by omega)]
 have hx:a.1*65536|||b.1*256<2^24:=JoW (by omega) (by omega);have hy:(a.1*65536|||b.1*256)|||e.1<2^24:=JoW hx (by omega);rw[w1,w2,DB _ _ (by omega) (by omega),DB _ _ (by omega) (by omega)];generalize (a.1*65536|||b.1*256)|||e.1=m at*;generalize a.1*65536|||b.1*256=m2 at*;have ht:((m:Int)).tmod n=((m%n:Nat):Int):=by rw[←JtJ]
 refine aA.with [] [KB] ?_;simp[ab,az,-Int.natCast_emod];exact⟨m%n,e.2,o3,JdZ _ (by omega),ht,rfl⟩
theorem eI {i n:Nat} (h:i<n) (hn:n≤1048576):IntKind.i64.wrap ((i:Int)+1)=(i:Int)+1:=wrap_i64 (by omega)
theorem LR (m:Int):∃b:UInt8,PV.int .u8 (IntKind.u8.wrap m)=u8 b:=by
 have h:0≤IntKind.u8.wrap m∧IntKind.u8.wrap m<256:=by
  simp only[IntKind.wrap,IntKind.bits,IntKind.signed];simp;omega
 refine⟨UInt8.ofNat (IntKind.u8.wrap m).toNat,?_⟩;simp only[u8];congr 1;rw[JnW];omega
def GC (f:Nat->UInt8) (n i:Nat):List UInt8:=(List.range n).map λj=>if j<i then f j else 0
@[simp] theorem ZK (f:Nat->UInt8) (n i:Nat):(GC f n i).length=n:=by simp[GC]
theorem NJ (f:Nat->UInt8) (n:Nat):List.replicate n (PV.int .u8 0)=(GC f n 0).map u8:=by
 apply JnQ<;>simp[GC,u8]
theorem Q7 (f:Nat->UInt8) (n i:Nat):((GC f n i).map u8).set i (u8 (f i))=(GC f n (i+1)).map u8:=by
 rw[←JfJ];congr 1;apply JnQ
 ·simp
 ·intro j h1 h2;simp only[GC,JpW,JqJ,List.getElem_range];by_cases e:i=j
  ·subst e;simp
  ·simp only[e,if_false];by_cases e2:j<i
   ·rw[if_pos e2,if_pos (by omega)]
   ·rw[if_neg e2,if_neg (by omega)]
theorem IK {c:tA} (h:iD c) (n:Nat) (hn:n≤1048576):ae Pg 36 [.pt KB [] 0,.int .i64 n] [.box (eu c)] (λr fp=>∃w:List UInt8×tA,(iD w.2∧w.1.length=n)∧r=aQ w.1∧fp=[.box (eu w.2)]):=by
 refine ae.intro (aC R.jm.2) (by simp[R.jm]) ?_;simp[R.jm,aj,av];refine⟨⟨by omega,by omega⟩,?_⟩;refine ai.jJ KB (bg h 256 (by omega)) ?_;have o1:=dC h 256;generalize oD c 256=a at*;simp;generalize IntKind.i64.wrap (IntKind.i64.wrap (2*↑a.snd.at_)+1)=st
 have hf:∃f:Nat->UInt8,∀i:Nat,PV.int .u8 (IntKind.u8.wrap (IntKind.i64.wrap ((a.1:Int)+IntKind.i64.wrap ((i:Int)*st))))=u8 (f i):=
  ⟨λi=>Classical.choose (LR _),λi=>Classical.choose_spec (LR _)⟩
 obtain⟨f,hf⟩:=hf;rw[NJ f];refine eW.fM n (λ_=>True) [0,4,5,6,7,20,21] (λi=>[(21,.int .i64 i)]) (λi=>[(10,.arr 1 ((GC f n i).map u8))]) [.keep [0,4,5,6,7,20,21]] ?_;simp;refine⟨λi hi K hK=> ?_,λK=> ?_⟩
 ·simp[↓al,hi,hf,eI hi hn];refine⟨⟨rfl,rfl⟩,[.keep [0,4,5,6,7,20,21]],?_⟩;simp;exact hK _ (by simp[Q7])
 ·simp[↓al,↓al];refine aA.with [.keep [4],.fz 10] [KB] ?_;simp[ab,az];exact⟨GC f n n,a.2,⟨o1,by simp⟩,by rw[tJ (by simp)];rfl,rfl⟩
theorem pS {c:tA} (h:iD c):ae Pg 13 [.pt KB [] 0] [.box (eu c)] (λr fp=>∃w:Key×tA,iD w.2∧r=aG w.1∧fp=[.box (eu w.2)]):=by
 refine ae.intro (aC R.kG.2) (by simp[R.kG]) ?_;simp[R.kG,aj,av];refine lv.run [KB] rfl ?_;simp;refine ai.u9 KB (IK h 32 (by omega)) ?_;rintro⟨l,c'⟩ ⟨hc,hl⟩;simp at hc hl;have AW:l.take 32=l:=tJ (by omega);simp[hl,aQ]
 have e:PV.ar 1 32 (List.take 32 (List.map u8 l)++List.drop 32 (zr 32 (PV.int .u8 0)))=aG ⟨l,hl⟩:=by
  rw[tJ (by simp[hl]),JgV (by simp[cm])];simp[aG]
 rw[e];refine aA.with [] [KB] ?_;simp[ab,az];exact⟨⟨l,hl⟩,c',hc,rfl,rfl⟩
def AP (r:zt):Prop:=1≤r.H3∧r.H3≤r.sy∧r.sy≤18446744073709543423∧1000≤r.ret∧r.ret≤3000∧2000≤r.Ss∧r.Ss≤6000∧r.cot=30000∧20000≤r.J0∧r.J0≤r.nc∧r.nc≤100000∧r.ret≤r.Yn∧r.Yn≤20*r.ret∧1≤r.load∧r.load≤6∧1≤r.tV∧r.tV≤8
theorem AP.mk' {a b c d e f g i j k:Int} (h1:1≤a) (h2:a≤b) (h3:b≤18446744073709543423) (h4:1000≤f) (h5:f≤3000) (h6:2000≤g) (h7:g≤6000) (h8:20000≤c) (h9:c≤d) (h10:d≤100000) (h11:f≤e) (Te:e≤20*f) (h13:1≤j) (h14:j≤6) (h15:1≤k) (Om:k≤8) (h17:i=30000:=by rfl):AP ⟨a,b,c,d,e,f,g,i,j,k⟩:=
 ⟨h1,h2,h3,h4,h5,h6,h7,h17,h8,h9,h10,h11,Te,h13,h14,h15,Om⟩
theorem Ir {c:tA} (h:iD c):ae Pg 12 [.pt KB [] 0] [.box (eu c)] (λr fp=>∃w:zt×tA,(AP w.1∧iD w.2)∧r=c9 w.1∧fp=[.box (eu w.2)]):=by
 refine ae.intro T.eJ (by simp[F.eJ]) ?_;simp[F.eJ,aj,av];refine ai.jJ KB (bg h 40 (by omega)) ?_;have l0:=dB c (n:=40) (by omega);have o0:=dC h 40;generalize oD c 40=x0 at*;simp(disch:=omega);refine ai.jJ KB (bg o0 20 (by omega)) ?_;have l1:=dB x0.2 (n:=20) (by omega);have o1:=dC o0 20;generalize oD x0.2 20=x1 at*;simp(disch:=omega);refine ai.jJ KB (bg o1 5 (by omega)) ?_;have l2:=dB x1.2 (n:=5) (by omega);have o2:=dC o1 5;generalize oD x1.2 5=x2 at*;simp(disch:=omega);refine ai.jJ KB (bg o2 5 (by omega)) ?_;have l3:=dB x2.2 (n:=5) (by omega);have o3:=dC o2 5;generalize oD x2.2 5=x3 at*;simp(disch:=omega);refine ai.jJ KB (bg o3 6 (by omega)) ?_;have l4:=dB x3.2 (n:=6) (by omega);have o4:=dC o3 6;generalize oD x3.2 6=x4 at*;simp(disch:=omega);refine ai.jJ KB (bg o4 8 (by omega)) ?_;have l5:=dB x4.2 (n:=8) (by omega);have o5:=dC o4 8;generalize oD x4.2 8=x5 at*;simp(disch:=omega);refine lv.run [KB] rfl ?_;simp(disch:=omega);refine ai.jJ KB (bg o5 60 (by omega)) ?_;have l6:=dB x5.2 (n:=60) (by omega);have o6:=dC o5 60;generalize oD x5.2 60=x6 at*;simp(disch:=omega);refine lv.run [KB] rfl ?_;simp(disch:=omega);refine ai.jJ KB (bg o6 40 (by omega)) ?_;have l7:=dB x6.2 (n:=40) (by omega);have o7:=dC o6 40;generalize oD x6.2 40=x7 at*;simp(disch:=omega);refine lv.run [KB] rfl ?_;simp(disch:=omega);refine ai.jJ KB (bg o7 5 (by omega)) ?_;have l8:=dB x7.2 (n:=5) (by omega);have o8:=dC o7 5;generalize oD x7.2 5=x8 at*;simp(disch:=omega);refine ai.jJ KB (bg o8 4 (by omega)) ?_;have l9:=dB x8.2 (n:=4) (by omega);have o9:=dC o8 4;generalize oD x8.2 4=x9 at*;simp(disch:=omega)
 have hP:∃Q:Int,IntKind.i64.wrap ((1000+(x2.1:Int)*500)*(1+(x8.1:Int)))=Q∧1000+(x2.1:Int)*500≤Q∧Q≤20*(1000+(x2.1:Int)*500):=by
  have hc:x8.1=0∨x8.1=1∨x8.1=2∨x8.1=3∨x8.1=4:=by omega
  rcases hc with h|h|h|h|h<;>rw[h]
  ·exact⟨_,wrap_i64 (by omega),by omega,by omega⟩
  ·exact⟨_,wrap_i64 (by omega),by omega,by omega⟩
  ·exact⟨_,wrap_i64 (by omega),by omega,by omega⟩
  ·exact⟨_,wrap_i64 (by omega),by omega,by omega⟩
  ·exact⟨_,wrap_i64 (by omega),by omega,by omega⟩
 obtain⟨Q,hQ,hQ1,hQ2⟩:=hP;rw[hQ];refine⟨λhz=> ?_,λhz=> ?_⟩
 ·refine aA.with [] [KB] ?_;simp[ab,az];exact⟨⟨1152921504606846976,18446744073709543423,20000+(x1.1:Int)*1000,20000+(x1.1:Int)*1000+(x7.1:Int)*1000,Q,1000+(x2.1:Int)*500,2000+(x3.1:Int)*1000,30000,1+(x4.1:Int),1+(x5.1:Int)⟩,x9.2,⟨AP.mk' (by omega) (by omega) (by omega) (by omega) (by omega) (by omega) (by omega) (by omega) (by omega) (by omega) (by omega) (by omega) (by omega) (by omega) (by omega) (by omega),o9⟩,rfl,rfl⟩
 ·refine aA.with [] [KB] ?_;simp[ab,az];exact⟨⟨1+(x0.1:Int),1+(x0.1:Int)+(x6.1:Int),20000+(x1.1:Int)*1000,20000+(x1.1:Int)*1000+(x7.1:Int)*1000,Q,1000+(x2.1:Int)*500,2000+(x3.1:Int)*1000,30000,1+(x4.1:Int),1+(x5.1:Int)⟩,x9.2,⟨AP.mk' (by omega) (by omega) (by omega) (by omega) (by omega) (by omega) (by omega) (by omega) (by omega) (by omega) (by omega) (by omega) (by omega) (by omega) (by omega) (by omega),o9⟩,rfl,rfl⟩
theorem GD:∀l m:List UInt8,PV.lC (l.map u8) (m.map u8)=decide (l=m)
 |[],[]=>by simp[PV.lC]
 |[],_::_=>by simp[PV.lC]
 |_::_,[]=>by simp[PV.lC]
 |
  a::l,b::m=>by
  have ih:=GD l m
  simp only[JdX,PV.lC,ih,u8,PV.beq]
  by_cases h:a=b
  ·subst h;simp
  ·have:¬(a.toNat=b.toNat):=λe=>h (UInt8.toNat_inj.1 e)
   simp[h]
   intro e;exact absurd (by omega) this
theorem Key.ext' {a b:Key} (h:a.l=b.l):a=b:=by cases a;cases b;simp_all
instance:DecidableEq Key:=λa b=>if h:a.l=b.l then isTrue (Key.ext' h)else isFalse (λe=>h (by rw[e]))
theorem wG (a b:Key):PV.beq (aG a) (aG b)=decide (a=b):=by
 have:(a=b)↔a.l=b.l:=⟨λe=>by rw[e],Key.ext'⟩
 simp[aG,PV.beq,GD,this]
def Ws (a b:Key):Bool:=Op.bytesLess a.l b.l
def dW (a b:cT):Bool:=if a.at_≠b.at_ then decide (a.at_<b.at_)else if a.peer≠b.peer then Ws a.peer b.peer else decide (a.kind<b.kind)
theorem bZ (a b:cT):aL Pg 39 [bm a,bm b] (.bl (dW a b)):=by
 refine ae.intro (aC R.bZ.2) (by simp[R.bZ]) ?_;by_cases h1:a.at_=b.at_
 ·by_cases h2:a.peer=b.peer
  ·simp[R.bZ,aj,av,h1,h2];refine aA.plain [] ?_;simp[dW,h1,h2]
  ·simp[R.bZ,aj,av,h1,h2,wG];have ta:(a.peer.l.map u8).take 32=a.peer.l.map u8:=tJ (by simp[a.peer.h]);have tb:(b.peer.l.map u8).take 32=b.peer.l.map u8:=tJ (by simp[b.peer.h]);simp[aG,ta,tb];refine aA.plain [] ?_;simp[dW,Ws,h1,h2]
 ·simp[R.bZ,aj,av,h1];refine aA.plain [] ?_;simp[dW,h1]
def nX (k:Key) (n:Int) (x:cT):Bool:= !(decide (x.peer=k)&&decide (x.kind=n))
def bc (l:List cT) (k:Key) (n:Int):List cT:=l.filter (nX k n)
theorem mC {α:Type} (p:α->Bool) {l:List α} {i:Nat} (h:i<l.length):(l.take (i+1)).filter p=(l.take i).filter p++(if p l[i]=true then [l[i]]else []):=by
 rw[JcZ h,JkV];congr 1;by_cases hk:p l[i]=true<;>simp[hk]
theorem vl {α:Type} (p:α->Bool) (l:List α) (i:Nat):((l.take i).filter p).length≤i:=by
 have:=JfZ p (l.take i);rw[lJ]at this;omega
theorem gC {l:List cT} (h:l.length≤1048576) (k:Key) (n:Int):aL Pg 38 [cE l,aG k,.int .i64 n] (cE (bc l k n)):=by
 refine ae.intro (aC R.gC.2) (by simp[R.gC]) ?_;simp[R.gC,aj,av,cE];refine eW.fM l.length (λ_=>True) [2,4,6,7,10,11,12] (λi=>[(7,.rs 7 [] 0 ((l.take i).filter (nX k n)).length ((l.take i).filter (nX k n)).length 34 .tip),(12,.int .i64 i)]) (λi=>[(7,.arr 34 (((l.take i).filter (nX k n)).map bm))]) [.vt 7 7 34] ?_;simp;refine⟨λi hi K hK=> ?_,λK=> ?_⟩
 ·have hx:l[i]? =some l[i]:=gJ hi;have hlen:=vl (nX k n) l i;rw[mC _ hi]at hK;generalize (l.take i).filter (nX k n)=out at*;by_cases h1:l[i].peer=k
  ·by_cases h2:l[i].kind=n
   ·simp[↓al,hi,h1,h2,eI hi h];refine⟨[.keep [2,4,6,7,10,11,12],.dr 9],?_⟩;simp[bn,bU,af,ab];exact hK _ (by simp[nX,h1,h2])
   ·simp[↓al,hi,h1,h2,eI hi h];refine⟨⟨by omega,by omega⟩,[.keep [2,4,6,7,10,11,12],.dr 9],?_⟩;simp[bn,bU,af,ab];exact hK _ (by simp[nX,h1,h2])
  ·simp[↓al,hi,h1,wG,eI hi h];refine⟨⟨by omega,by omega⟩,[.keep [2,4,6,7,10,11,12],.dr 9],?_⟩;simp[bn,bU,af,ab];exact hK _ (by simp[nX,h1])
 ·simp[↓al,↓al];refine aA.plain [.keep [6],.fz 7,.wk 6] ?_;simp[bc]
def ik (t:cT):List cT->Nat
 |[]=>0
 |x::r=>if dW t x=true then 0 else ik t r+1
def iI (l:List cT) (t:cT):List cT:=let r:=bc l t.peer t.kind;r.take (ik t r)++[t]++r.drop (ik t r)
theorem BH (t:cT):∀l,ik t l≤l.length
 |[]=>JaQ _
 |x::r=>by simp only[ik];split<;>simp;exact BH t r
theorem LS (t:cT):∀(l:List cT) (i:Nat) (h:i<l.length),i<ik t l->dW t l[i]=false
 |x::r,0,h,hi=>by simp only[ik]at hi;split at hi<;>simp_all
 |
  x::r,i+1,h,hi=>by
  simp only[ik]at hi
  split at hi
  ·omega
  ·simpa using LS t r i (by simpa using h) (by omega)
theorem LU (t:cT):∀(l:List cT) (h:ik t l<l.length),dW t l[ik t l]=true
 |[],h=>by simp at h
 |
  x::r,h=>by
  simp only[ik]at h⊢
  by_cases hx:dW t x=true
  ·simp[hx]
  ·simp only[hx,fJ,if_false]at h⊢
   simpa using LU t r (by simpa using h)
theorem dL {l:List cT} (h:l.length≤1048575) (t:cT):aL Pg 18 [cE l,bm t] (cE (iI l t)):=by
 refine ae.intro T.dL (by simp[F.dL]) ?_;simp[F.dL,aj,av];refine ai.rA (gC (l:=l) (by omega) t.peer t.kind) ?_;have hle:(bc l t.peer t.kind).length≤l.length:=JfZ _ _;have hr:iI l t=(bc l t.peer t.kind).take (ik t (bc l t.peer t.kind))++[t]++(bc l t.peer t.kind).drop (ik t (bc l t.peer t.kind)):=rfl;rw[hr];generalize bc l t.peer t.kind=r at*;have hp:=BH t r;simp;refine eW.fM (ik t r) (λ_=>True) [3,4,5,6] (λi=>[(6,.int .i64 i)]) (λi=>[]) [.keep [3,4,5,6]] ?_;simp;refine⟨λi hi K hK=> ?_,λK=> ?_⟩
 ·have hl:i<r.length:=by omega
  have hx:r[i]? =some r[i]:=gJ hl;have hn:=LS t r i hl hi;simp[↓al,hl];refine aM.rA (bZ t r[i]) ?_;simp[hn,eI hl (by omega)];refine⟨[.keep [3,4,5,6]],?_⟩;simp;exact hK _ (by simp)
 ·by_cases hq:ik t r<r.length
  ·have hx:r[ik t r]? =some r[ik t r]:=gJ hq;have hn:=LU t r hq;simp[↓al,hq];refine aM.rA (bZ t r[ik t r]) ?_;simp[hn];simp[↓al,cE];refine lv.run [33,38] rfl ?_;simp[hp];have wA:min (1+(r.length-ik t r)) (r.length-ik t r+1)=1+(r.length-ik t r):=by omega
   rw[wA];refine⟨⟨by omega,by omega⟩,⟨by omega,by omega⟩,⟨by omega,by omega⟩,?_⟩;refine aA.plain [.keep [4],.dr 33,.fz 38,.wk 4] ?_;have h1:min (ik t r) r.length=ik t r:=by omega
   have h2:r.length-ik t r+1=1+(r.length-ik t r):=by omega
   simp[bn,bU,af,ab,h1,h2,tJ]
  ·simp[↓al,hq];simp[cE];refine lv.run [33,38] rfl ?_;simp[hp];have wA:min (1+(r.length-ik t r)) (r.length-ik t r+1)=1+(r.length-ik t r):=by omega
   rw[wA];refine⟨⟨by omega,by omega⟩,⟨by omega,by omega⟩,⟨by omega,by omega⟩,?_⟩;refine aA.plain [.keep [4],.dr 33,.fz 38,.wk 4] ?_;have h1:min (ik t r) r.length=ik t r:=by omega
   have h2:r.length-ik t r+1=1+(r.length-ik t r):=by omega
   simp[bn,bU,af,ab,h1,h2,tJ]
theorem IL {n:Nat} (h:n<2^8):IntKind.u8.wrap (n:Int)=(n:Int):=wrap_u8 (by omega)
def fU (net host:UInt8):iG:=⟨false,[10,net,0,host,0,0,0,0,0,0,0,0,0,0,0,0],rfl⟩
theorem eQ (n h:UInt8):aL Pg 21 [.int .i64 (n.toNat:Int),.int .i64 (h.toNat:Int)] (cN (fU n h)):=by
 refine ae.intro (aC R.eQ.2) (by simp[R.eQ]) ?_;have h1:=n.toNat_lt;have h2:=h.toNat_lt;simp[R.eQ,aj,av,cm,List.replicate,IL h1,IL h2];refine aA.plain [] ?_;simp[cN,fU,u8]
def wJ (a:iG) (k:Nat):Prop:=∀j,k≤j->j<16->a.ip[j]? =some 0
theorem tw (n:UInt8):wJ (fU n 0) 2:=by
 intro j h1 h2;simp only[fU];rcases(by omega:j=2∨j=3∨j=4∨j=5∨j=6∨j=7∨j=8∨j=9∨j=10∨j=11∨j=12∨j=13∨j=14∨j=15)with rfl|rfl|rfl|rfl|rfl|rfl|rfl|rfl|rfl|rfl|rfl|rfl|rfl|rfl<;>rfl
theorem wJ.mono {a:iG} {k m:Nat} (h:wJ a k) (hk:k≤m):wJ a m:=λj h1 h2=>h j (by omega) h2
theorem fF {a:iG} (h:wJ a 4):aL Pg 90 [cN a] (.bl true):=by
 refine ae.intro (aC R.fF.2) (by simp[R.fF]) ?_;simp[R.fF,aj,av];refine eW.fM 12 (λ_=>True) [1,2,6,7,8] (λi=>[(8,.int .i64 i)]) (λi=>[]) [.keep [1,2,6,7,8]] ?_;simp;refine⟨λi hi K hK=> ?_,λK=> ?_⟩
 ·have hx:a.ip[4+i]? =some 0:=h _ (by omega) (by omega);have hw:IntKind.i64.wrap ((i:Int)+1)=(i:Int)+1:=wrap_i64 (by omega);have jR:(i:Int)<12:=by omega
  simp[↓al,jR,hx,hw,u8];refine⟨[.keep [1,2,6,7,8]],?_⟩;simp;exact hK _ (by simp)
 ·simp[↓al,↓al];refine aA.plain [] ?_;simp
theorem fG (a:iG):aL Pg 91 [cN a] (.int .i64 (if a.sA=true then 128 else 32)):=by
 refine ae.intro (aC R.fG.2) (by simp[R.fG]) ?_;by_cases h:a.sA=true
 ·simp[R.fG,aj,av,h];refine aA.plain [] ?_;simp
 ·simp[R.fG,aj,av,h];refine aA.plain [] ?_;simp
theorem YX (i:Nat):(i:Int).tmod 8=((i%8:Nat):Int):=by rw[show(8:Int)=((8:Nat):Int) from rfl,←JtJ]
theorem jy {a:iG} {k:Nat} (h:wJ a k) {i:Nat} (hi:8*k≤i) (Ai:i<128):aL Pg 92 [cN a,.int .i64 (i:Int)] (.int .u8 0):=by
 refine ae.intro (aC R.jy.2) (by simp[R.jy]) ?_;have hx:a.ip[i/8]? =some 0:=h _ (by omega) (by omega);have hw:IntKind.i64.wrap ((i/8:Nat):Int)=((i/8:Nat):Int):=wrap_i64 (by omega);have BU:IntKind.i64.wrap (7-((i%8:Nat):Int))=((7-i%8:Nat):Int):=by rw[wrap_i64 (by omega)];omega
 have hd:(i:Int).tdiv 8=((i/8:Nat):Int):=by rw[show(8:Int)=((8:Nat):Int) from rfl,←Int.ofNat_tdiv]
 have hb:bits .and .u8 0 1=0:=rfl;simp[R.jy,aj,av,hx,YX,hw,BU,hd,hb,u8,-Int.natCast_ediv,-Int.natCast_emod,];refine⟨by omega,?_⟩;refine aA.plain [] ?_;simp
theorem NK (a:iG):yn a (.ar 1 16 (a.ip.map u8))=cN a:=rfl
theorem Q8 {α:Type} {l:List α} {i:Nat} {x:α} (h:l[i]? =some x):l.set i x=l:=by
 apply JkJ;intro j;rw[List.getElem?_set];split
 ·rename_i e;subst e;split
  ·exact h.symm
  ·rename_i hl;rw[List.getElem?_eq_none (by omega)]
 ·rfl
theorem di {a:iG} (h:wJ a 2):aL Pg 20 [cN a,.int .i64 16] (gr ⟨a,16⟩):=by
 refine ae.intro (aC R.di.2) (by simp[R.di]) ?_;simp[R.di,aj,av];refine eW.fM 112 (λ_=>True) [1,2,4,5] (λi=>[(5,.int .i64 (16+(i:Int)))]) (λi=>[]) [.keep [1,2,4,5]] ?_;simp;refine⟨λi hi K hK=> ?_,λK=> ?_⟩
 ·obtain⟨m,hm⟩:∃m,m=(16+i)/8:=⟨_,rfl⟩
  obtain⟨t,ht⟩:∃t,t=(16+i)%8:=⟨_,rfl⟩
  have hx:a.ip[m]? =some 0:=h _ (by omega) (by omega);have A7:(a.ip.map u8)[m]? =some (.int .u8 0):=by simp[hx,u8]
  have hw:IntKind.i64.wrap (16+(i:Int)+1)=16+((i:Int)+1):=by rw[wrap_i64 (by omega)];omega
  have hd:IntKind.i64.wrap ((16+(i:Int)).tdiv 8)=(m:Int):=by
   rw[show(16+(i:Int))=((16+i:Nat):Int) by omega,show(8:Int)=((8:Nat):Int) from rfl,←Int.ofNat_tdiv,hm];exact wrap_i64 (by omega)
  have ht':(16+(i:Int)).tmod 8=(t:Int):=by
   rw[show(16+(i:Int))=((16+i:Nat):Int) by omega,show(8:Int)=((8:Nat):Int) from rfl,←JtJ,ht]
  have jR:16+(i:Int)<128:=by omega
  have vS:(m:Int)<16:=by omega
  have hb:∀n:Int,bits .andNot .u8 0 n=0:=by
   intro n;simp[bits,BitVec.ofInt]
  simp[↓al,jR,A7,hw,hd,ht',vS,hb];rw[Q8 A7];refine⟨[.keep [1,2,4,5]],?_⟩;simp[NK];exact hK _ (by simp)
 ·simp[↓al,↓al];refine aA.plain [] ?_;simp[gr]
theorem fH {a:iG} (h:wJ a 2) (h6:a.sA=false):aL Pg 40 [gr ⟨a,16⟩] (.bl true):=by
 refine ae.intro (aC R.fH.2) (by simp[R.fH]) ?_;simp[R.fH,aj,av];refine aM.rA (fF (h.mono (by omega))) ?_;simp;refine aM.rA (fG a) ?_;simp[h6];refine eW.fM 112 (λ_=>True) [1,2,3] (λi=>[(3,.int .i64 (16+(i:Int)))]) (λi=>[]) [.keep [1,2,3]] ?_;simp;refine⟨λi hi K hK=> ?_,λK=> ?_⟩
 ·have hw:IntKind.i64.wrap (16+(i:Int)+1)=16+((i:Int)+1):=by rw[wrap_i64 (by omega)];omega
  have jR:16+(i:Int)<128:=by omega
  have hb:=jy h (i:=16+i) (by omega) (by omega);rw[show((16+i:Nat):Int)=16+(i:Int) by omega]at hb;simp[↓al,jR];refine ai.rA hb ?_;simp[hw];refine⟨[.keep [1,2,3]],?_⟩;simp;exact hK _ (by simp)
 ·simp[↓al,↓al];refine aA.plain [] ?_;simp
def vf (n:UInt8):xt:=⟨fU n 0,16⟩
theorem Kn {n m:UInt8} (h:n<m):Op.bytesLess (fU n 0).ip (fU m 0).ip=true:=by
 have h':¬m<n:=λe=>absurd (JoZ.1 e) (by have:=JoZ.1 h;omega);simp[fU,Op.bytesLess,h]
theorem IM {n m:UInt8} (h:n<m):Op.bytesLess (fU m 0).ip (fU n 0).ip=false:=by
 have h':¬m<n:=λe=>absurd (JoZ.1 e) (by have:=JoZ.1 h;omega);simp[fU,Op.bytesLess,h']
theorem iZ (a b:iG) (h1:a.sA=false) (h2:b.sA=false):aL Pg 93 [cN a,cN b] (.bl (Op.bytesLess a.ip b.ip)):=by
 refine ae.intro (aC R.iZ.2) (by simp[R.iZ]) ?_;have ta:(a.ip.map u8).take 16=a.ip.map u8:=tJ (by simp[a.h]);have tb:(b.ip.map u8).take 16=b.ip.map u8:=tJ (by simp[b.h]);simp[R.iZ,aj,av,h1,h2,ta,tb];refine aA.plain [] ?_;simp
theorem ZL {n m:UInt8} (h:n≠m):PV.beq (cN (fU n 0)) (cN (fU m 0))=false:=by
 have:¬(n.toNat=m.toNat):=λe=>h (UInt8.toNat_inj.1 e);simp[cN,fU,PV.beq,PV.lC,u8];intro e;omega
theorem fm {n m:UInt8} (h:n≠m):aL Pg 41 [gr (vf n),gr (vf m)] (.bl (Op.bytesLess (fU n 0).ip (fU m 0).ip)):=by
 refine ae.intro (aC R.fm.2) (by simp[R.fm]) ?_;simp[R.fm,aj,av,vf,ZL h];refine ai.rA (iZ (fU n 0) (fU m 0) rfl rfl) ?_;simp;refine aA.plain [] ?_;simp
theorem amz {n m:UInt8} (h:n≠m):PV.beq (gr (vf n)) (gr (vf m))=false:=by
 simp[gr,vf,PV.beq,PV.lC,ZL h]
theorem bD {l:List vY} {n:UInt8} (h:∀r∈l,∃m,m<n∧r.D8=vf m) (hl:l.length<16) (k:Key):aL Pg 19 [cU l,gr (vf n),aG k] (.tup [cU (l++[⟨vf n,k⟩]),.int .i64 0]):=by
 refine ae.intro T.bD (by simp[F.bD]) ?_;simp[F.bD,aj,av];refine ai.ret (fH (tw n) rfl) (by simp[vf]) (by simp) (by simp) ?_;simp(disch:=omega) [cU];refine⟨⟨by omega,by omega⟩,?_⟩;refine eW.fM l.length (λ_=>True) [0,4,5,6,7,8,17,18] (λi=>[(18,.int .i64 i)]) (λi=>[]) [.keep [0,4,5,6,7,8,17,18]] ?_;simp;refine⟨λi hi K hK=> ?_,λK=> ?_⟩
 ·have hx:l[i]? =some l[i]:=gJ hi;obtain⟨m,hm,he⟩:=h _ (JbJ hi);have hb:(gr (vf m)).beq (gr (vf n))=false:=amz (UInt8.ne_of_lt hm);have hw:IntKind.i64.wrap ((i:Int)+1)=(i:Int)+1:=wrap_i64 (by omega);simp[↓al,hi,he,hb,hw];refine⟨[.keep [0,4,5,6,7,8,17,18]],?_⟩;simp;exact hK _ (by simp)
 ·have SX:¬(16:Int)≤l.length:=by omega
  simp[↓al,↓al,SX];refine eW.fM l.length (λ_=>True) [0,4,5,6,7,8,10] (λi=>[(10,.int .i64 i)]) (λi=>[]) [.keep [0,4,5,6,7,8,10]] ?_;simp;refine⟨λi hi K hK=> ?_,λK=> ?_⟩
  ·have hx:l[i]? =some l[i]:=gJ hi;obtain⟨m,hm,he⟩:=h _ (JbJ hi);have hw:IntKind.i64.wrap ((i:Int)+1)=(i:Int)+1:=wrap_i64 (by omega);have hb:=fm (n:=n) (m:=m) (λe=>UInt8.ne_of_lt hm e.symm);rw[IM hm]at hb;simp[↓al,hi,he];refine aM.rA hb ?_;simp[hw];refine⟨[.keep [0,4,5,6,7,8,10]],?_⟩;simp;exact hK _ (by simp)
  ·simp[↓al,↓al];refine lv.run [61,66] rfl ?_;simp;refine⟨⟨by omega,by omega⟩,?_⟩;refine aA.plain [.keep [6,7],.dr 61,.dr 15,.fz 66,.wk 6] ?_;simp[bn,bU,af,ab,ia]
def zK:Key:=⟨List.replicate 32 0,rfl⟩
def zSl:gh:=⟨0,zK,false⟩
theorem AL {l:List gh} (hl:l.length≤1048576) {x:Int} (h:∀s∈l,s.index≠x):aL Pg 44 [bK l,.int .u32 x] (.tup [aV zSl,.bl false]):=by
 refine ae.intro (aC R.dX.2) (by simp[R.dX]) ?_;simp[R.dX,aj,av];refine eW.fM l.length (λ_=>True) [1,4,5,8,9,10] (λi=>[(10,.int .i64 i)]) (λi=>[]) [.keep [1,4,5,8,9,10]] ?_;simp;refine⟨λi hi K hK=> ?_,λK=> ?_⟩
 ·have hx:l[i]? =some l[i]:=gJ hi;have he:=h _ (JbJ hi);simp[↓al,hi,he,eI hi hl];refine⟨[.keep [1,4,5,8,9,10],.dr 7],?_⟩;simp;exact hK _ (by simp)
 ·simp[↓al,↓al];refine aA.plain [] ?_;simp[aV,zSl,zK,aG,cm,u8]
theorem GF {l:List gh} (hl:l.length≤1048576) {x:Int} {f:Nat} (hf:f<l.length) (he:l[f].index=x) (h:∀j (hj:j<l.length),j<f->l[j].index≠x):aL Pg 44 [bK l,.int .u32 x] (.tup [aV l[f],.bl true]):=by
 refine ae.intro (aC R.dX.2) (by simp[R.dX]) ?_;simp[R.dX,aj,av];refine eW.fM f (λ_=>True) [1,4,5,8,9,10] (λi=>[(10,.int .i64 i)]) (λi=>[]) [.keep [1,4,5,8,9,10]] ?_;simp;refine⟨λi hi K hK=> ?_,λK=> ?_⟩
 ·have Ai:i<l.length:=by omega
  have hx:l[i]? =some l[i]:=gJ Ai;have he:=h i Ai hi;simp[↓al,Ai,he,eI Ai hl];refine⟨[.keep [1,4,5,8,9,10],.dr 7],?_⟩;simp;exact hK _ (by simp)
 ·have hx:l[f]? =some l[f]:=gJ hf;simp[↓al,hf,he];refine aA.plain [] ?_;simp
def EW (x:Int) (s:gh):Bool:=decide (s.index≠x)
theorem Q9 {l:List gh} (h:l.length≤1048576) (x:Int):aL Pg 98 [bK l,.int .u32 x] (bK (l.filter (EW x))):=by
 refine ae.intro (aC R.kH.2) (by simp[R.kH]) ?_;simp[R.kH,aj,av,bK];refine eW.fM l.length (λ_=>True) [1,4,5,8,9,10] (λi=>[(5,.rs 5 [] 0 ((l.take i).filter (EW x)).length ((l.take i).filter (EW x)).length 34 .tip),(10,.int .i64 i)]) (λi=>[(5,.arr 34 (((l.take i).filter (EW x)).map aV))]) [.vt 5 5 34] ?_;simp;refine⟨λi hi K hK=> ?_,λK=> ?_⟩
 ·have hx:l[i]? =some l[i]:=gJ hi;have hlen:=vl (EW x) l i;rw[mC _ hi]at hK;generalize (l.take i).filter (EW x)=out at*;by_cases h1:l[i].index=x
  ·simp[↓al,hi,h1,eI hi h];refine⟨[.keep [1,4,5,8,9,10],.dr 7],?_⟩;simp[bn,bU,af,ab];exact hK _ (by simp[EW,h1])
  ·simp[↓al,hi,h1,eI hi h];refine⟨⟨by omega,by omega⟩,[.keep [1,4,5,8,9,10],.dr 7],?_⟩;simp[bn,bU,af,ab];exact hK _ (by simp[EW,h1])
 ·simp[↓al,↓al];refine aA.plain [.keep [4],.fz 5,.wk 4] ?_;simp
theorem Ra {d:bh} (hl:d.an.length≤1048576) {k:Key} {f:Nat} (hf:f<d.an.length) (he:d.an[f].b8=k) (h:∀j (hj:j<d.an.length),j<f->d.an[j].b8≠k):aL Pg 43 [gP d,aG k] (.int .i64 f):=by
 refine ae.intro (aC R.n5.2) (by simp[R.n5]) ?_;simp[R.n5,aj,av];refine eW.fM f (λ_=>True) [2,3,4,8,9,10] (λi=>[(10,.int .i64 i)]) (λi=>[]) [.keep [2,3,4,8,9,10]] ?_;simp;refine⟨λi hi K hK=> ?_,λK=> ?_⟩
 ·have Ai:i<d.an.length:=by omega
  have hx:d.an[i]? =some d.an[i]:=gJ Ai;have he:=h i Ai hi;simp[↓al,Ai,he,wG,eI Ai hl];refine⟨[.keep [2,3,4,8,9,10],.dr 6],?_⟩;simp;exact hK _ (by simp)
 ·have hx:d.an[f]? =some d.an[f]:=gJ hf;simp[↓al,hf,he];refine aA.plain [] ?_;simp
def pC (i:Nat):Key:=⟨[UInt8.ofNat (40*(i+1)),9,7]++List.replicate 29 0,rfl⟩
theorem gV {i:Nat} (h:i<3):aL Pg 16 [.int .i64 i] (aG (pC i)):=by
 refine ae.intro (aC R.gV.2) (by simp[R.gV]) ?_;have hw:IntKind.i64.wrap ((i:Int)+1)=(i:Int)+1:=wrap_i64 (by omega);have BU:IntKind.i64.wrap (40*((i:Int)+1))=40*((i:Int)+1):=wrap_i64 (by omega);have Xn:IntKind.u8.wrap (40*((i:Int)+1))=40*((i:Int)+1):=wrap_u8 (by omega);simp[R.gV,aj,av,cm,List.replicate,hw,BU,Xn];refine aA.plain [] ?_;have h40:(UInt8.ofNat (40*(i+1))).toNat=40*(i+1):=by simp[UInt8.toNat_ofNat];omega
 simp[aG,pC,u8,List.replicate];omega
def u6 (i:Nat):H4:=⟨⟨false,[192,0,2,UInt8.ofNat (i+1),0,0,0,0,0,0,0,0,0,0,0,0],rfl⟩,1000+i⟩
theorem jE {i:Nat} (h:i<3):aL Pg 17 [.int .i64 i] (gZ (u6 i)):=by
 refine ae.intro (aC R.jE.2) (by simp[R.jE]) ?_;have hw:IntKind.i64.wrap ((i:Int)+1)=(i:Int)+1:=wrap_i64 (by omega);have BU:IntKind.i64.wrap (1000+(i:Int))=1000+(i:Int):=wrap_i64 (by omega);have Xn:IntKind.u8.wrap ((i:Int)+1)=(i:Int)+1:=wrap_u8 (by omega);simp[R.jE,aj,av,cm,List.replicate,hw,BU,Xn];refine aA.plain [] ?_;have h40:(UInt8.ofNat (i+1)).toNat=i+1:=by simp[UInt8.toNat_ofNat];omega
 simp[gZ,cN,u6,u8];omega
def mK (x:Int):List gh->Nat
 |[]=>0
 |s::r=>if s.index<x then mK x r+1 else 0
def Bj (l:List gh) (s:gh):List gh:=l.take (mK s.index l)++[s]++l.drop (mK s.index l)
theorem LV (x:Int):∀l,mK x l≤l.length
 |[]=>JaQ _
 |s::r=>by simp only[mK];split<;>simp;exact LV x r
theorem LW (x:Int):∀(l:List gh) (i:Nat) (h:i<l.length),i<mK x l->l[i].index<x
 |s::r,0,h,hi=>by simp only[mK]at hi;split at hi<;>simp_all
 |
  s::r,i+1,h,hi=>by
  simp only[mK]at hi
  split at hi
  ·simpa using LW x r i (by simpa using h) (by omega)
  ·omega
theorem LX (x:Int):∀(l:List gh) (h:mK x l<l.length),¬l[mK x l].index<x
 |[],h=>by simp at h
 |
  s::r,h=>by
  simp only[mK]at h⊢
  by_cases hx:s.index<x
  ·simp only[hx,if_true]at h⊢
   simpa using LX x r (by simpa using h)
  ·simp[hx]
theorem Take {l:List gh} (hl:l.length<32) {x:Int} (hx1:1≤x) (h:∀s∈l,s.index≠x) (k:Key) (b:Bool):aL Pg 50 [bK l,.int .u32 x,aG k,.bl b] (.tup [bK (Bj l ⟨x,k,b⟩),.int .u32 x,.int .i64 0]):=by
 refine ae.intro (aC R.n6.2) (by simp[R.n6]) ?_;have SX:¬(32:Int)≤l.length:=by omega
 have hm:max x 1=x:=by omega
 simp[R.n6,aj,av,SX,hm];refine eW.fM 0 (λ_=>True) [0,1,2,3,6,8,9,10,11] (λi=>[]) (λi=>[]) [.keep [0,1,2,3,6,8,9,10,11]] ?_;simp;intro K;simp[↓al];refine ai.rA (AL (by omega) h) ?_;simp[↓al];have hp:=LV x l;have hr:Bj l ⟨x,k,b⟩=l.take (mK x l)++[⟨x,k,b⟩]++l.drop (mK x l):=rfl;refine eW.fM (mK x l) (λ_=>True) [0,3,6,8,9,10,11,14] (λi=>[(14,.int .i64 i)]) (λi=>[]) [.keep [0,3,6,8,9,10,11,14],.dr 12] ?_;simp;refine⟨λi hi K hK=> ?_,λK=> ?_⟩
 ·have Ai:i<l.length:=by omega
  have hx:l[i]? =some l[i]:=gJ Ai;have he:=LW x l i Ai hi;simp[↓al,Ai,he,eI Ai (by omega)];refine⟨[.keep [0,3,6,8,9,10,11,14]],?_⟩;simp;exact hK _ (by simp)
 ·by_cases hq:mK x l<l.length
  ·have hx:l[mK x l]? =some l[mK x l]:=gJ hq;have he:=LX x l hq;simp[↓al,↓al,hq,he,bK,hp];refine⟨⟨by omega,by omega⟩,⟨by omega,by omega⟩,⟨by omega,by omega⟩,?_⟩;refine aA.plain [.keep [8,9,10],.fz 50,.wk 8] ?_;have h1:min (mK x l) l.length=mK x l:=by omega
   have h2:mK x l+(l.length-mK x l+1)=mK x l+1+(l.length-mK x l):=by omega
   simp[h1,h2,tJ,hr,aV]
  ·simp[↓al,↓al,hq,bK,hp];refine⟨⟨by omega,by omega⟩,⟨by omega,by omega⟩,⟨by omega,by omega⟩,?_⟩;refine aA.plain [.keep [8,9,10],.fz 50,.wk 8] ?_;have h1:min (mK x l) l.length=mK x l:=by omega
   have h2:mK x l+(l.length-mK x l+1)=mK x l+1+(l.length-mK x l):=by omega
   simp[h1,h2,tJ,hr,aV]
def tY (l:List gh):Prop:=(∀(i:Nat) (h:i<l.length),l[i].index≠0)∧∀(i:Nat) (h:i+1<l.length),l[i].index<l[i+1].index
theorem Ko {l:List gh} (hl:l.length≤32) (h:tY l):aL Pg 284 [bK l] (.bl true):=by
 refine ae.intro T.eK (by simp[F.eK]) ?_;simp[F.eK,aj,av];refine eW.fM l.length (λ_=>True) [0,2,5,6,7] (λi=>[(7,.int .i64 i)]) (λi=>[]) [.keep [0,2,5,6,7]] ?_;simp;refine⟨λi hi K hK=> ?_,λK=> ?_⟩
 ·have hx:l[i]? =some l[i]:=gJ hi;have h0:=h.1 i hi;by_cases hz:i=0
  ·subst hz;simp[↓al,hi,h0];refine⟨[.keep [0,2,5,6,7],.dr 4],?_⟩;simp;exact hK _ (by simp)
  ·obtain⟨j,Af⟩:∃j,i=j+1:=⟨i-1,by omega⟩
   have hj:j<l.length:=by omega
   have hy:l[j]? =some l[j]:=gJ hj;have dk:=h.2 j (by omega);have yP:¬l[i].index≤l[j].index:=by subst Af;omega
   have hw:IntKind.i64.wrap ((i:Int)-1)=j:=by rw[wrap_i64 (by omega)];omega
   simp[↓al,hi,hj,h0,hw,yP,show 0<i by omega,eI hi (by omega)];refine⟨[.keep [0,2,5,6,7],.dr 4],?_⟩;simp;exact hK _ (by simp)
 ·simp[↓al,↓al];refine aA.plain [] ?_;simp;omega
structure z6 where
 used:Bool
 top:Int
 w0:Int
 w1:Int
 w2:Int
 w3:Int
def wP (w:z6):PV:= .st 6 [.bl w.used,.int .u64 w.top,.ar 1 4 [.int .u64 w.w0,.int .u64 w.w1,.int .u64 w.w2,.int .u64 w.w3]]
def GG (w:z6):FV Ng:=⟨wP w,by simp[wP,fits,dR,tL,vT,jr]⟩
def NL (w:z6) (c:Int):Bool:= !w.used||decide (w.top<c)||decide (bits .and .u64 (w.w0.fdiv (2^min c.toNat 64)) 1=0)
structure SmW (w:z6) (c:Int):Prop where
 t0:0≤w.top
 t8:w.top<8
 c0:0≤c
 c8:c<8
theorem q64 {c:Int} (h0:0≤c) (h8:c<8):c.tdiv 64=0:=Int.tdiv_eq_zero_of_lt h0 (by omega)
theorem r64 {c:Int} (h0:0≤c) (h8:c<8):c.tmod 64=c:=Int.tmod_eq_of_lt h0 (by omega)
theorem cR {w:z6} {c:Int} (h:SmW w c):aL Pg 99 [wP w,.int .u64 c] (.bl (NL w c)):=by
 refine ae.intro (aC R.cR.2) (by simp[R.cR]) ?_;have h0:=h.c0;have h1:=q64 h.c0 h.c8;have h2:=r64 h.c0 h.c8;have h3:=q64 h.t0 h.t8;have w0:IntKind.u64.wrap 0=0:=rfl;by_cases hu:w.used=true
 ·by_cases ht:w.top<c
  ·simp[R.cR,aj,av,wP,hu,ht,aB];refine aA.plain [] ?_;simp[NL,hu,ht]
  ·simp[R.cR,aj,av,wP,hu,ht,aB,h1,h2,h3,w0];refine⟨h0,?_⟩;refine aA.plain [] ?_;simp[NL,hu,ht];rfl
 ·simp[R.cR,aj,av,wP,hu,aB];refine aA.plain [] ?_;simp[NL,hu]
def uq (w:z6) (c:Int):z6×Bool:=
 if NL w c=true then
  let v:z6:=if w.used=true then w else⟨true,c,0,0,0,0⟩
  (⟨true,max v.top c,bits .or .u64 v.w0 (IntKind.u64.wrap (2^min c.toNat 64)),v.w1,v.w2,v.w3⟩,true)
 else(w,false)
theorem bB {w:z6} {c:Int} (h:SmW w c):aL Pg 53 [wP w,.int .u64 c] (.tup [wP (uq w c).1,.bl (uq w c).2]):=by
 refine ae.intro (aC R.bB.2) (by simp[R.bB]) ?_;have h0:=h.c0;have h1:=q64 h.c0 h.c8;have h2:=r64 h.c0 h.c8;have h3:=q64 h.t0 h.t8;have w0:IntKind.u64.wrap 0=0:=rfl;have hc:=cR h;cases hk:NL w c with
 |
  false=>
  rw[hk]at hc
  simp[R.bB,aj,av,wP]
  refine ai.ret hc (by simp[wP]) (by simp) (by simp) ?_
  simp
  refine aA.plain [] ?_
  simp[uq,hk]
 |
  true=>
  rw[hk]at hc
  have hp:∀x:Int,bits .or .u64 0 x=bits .or .u64 0 x:=λ_=>rfl
  by_cases hu:w.used=true
  ·by_cases ht:w.top<c
   ·have hm:max w.top c=c:=by omega
    simp[R.bB,aj,av,wP,hu]
    refine ai.ret hc (by simp[wP,hu]) (by simp) (by simp) ?_
    simp[ht]
    refine eW.fM 0 (λ_=>True) [1,2,4,5,6] (λi=>[]) (λi=>[]) [.keep [1,2,4,5,6]] ?_
    simp
    intro K
    simp[↓al,↓al,↓al,h1,h2,h3,w0,aB,h0,(by omega:min (0:Int) 4=0)]
    refine aA.plain [] ?_
    simp[uq,hk,hu,hm]
    rfl
   ·have hm:max w.top c=w.top:=by omega
    simp[R.bB,aj,av,wP,hu]
    refine ai.ret hc (by simp[wP,hu]) (by simp) (by simp) ?_
    simp[ht,↓al,h1,h2,w0,aB,h0]
    refine aA.plain [] ?_
    simp[uq,hk,hu,hm]
    rfl
  ·simp[R.bB,aj,av,wP,hu]
   refine ai.ret hc (by simp[wP,hu]) (by simp) (by simp) ?_
   simp[↓al,h1,h2,w0,aB,h0,cm,List.replicate]
   refine aA.plain [] ?_
   simp[uq,hk,hu]
   rfl
theorem Wt {w:z6} {c:Int} (h:SmW w c):(uq w c).1.used=w.used∧(uq w c).1=w∨(uq w c).1.used=true:=by
 unfold uq;split
 ·right;rfl
 ·left;exact⟨rfl,rfl⟩
theorem IN {w:z6} {c:Int} (h:SmW w c):0≤(uq w c).1.top∧(uq w c).1.top<8:=by
 obtain⟨a1,a2,a3,a4⟩:=h;unfold uq;split
 ·by_cases hu:w.used=true<;>simp[hu]<;>omega
 ·exact⟨a1,a2⟩
def Ly:FV wZ:=⟨.ar 1 32 (zr 32 (.int .u8 0)),by rw[cm];rfl⟩
def NM:FV Ng:=⟨.st 6 [.bl false,.int .u64 0,.ar 1 4 (zr 4 (.int .u64 0))],by rw[cm];rfl⟩
def yC:kS:=⟨0,0,Ly,Ly,0,0,NM,0,false⟩
def oN:ue:=⟨false,yC⟩
theorem QL:gY oN=(.st 77 [(.bl false),(.st 76 [(.int .u32 0),(.int .u32 0),(.ar 1 32 (zr 32 (.int .u8 0))),(.ar 1 32 (zr 32 (.int .u8 0))),(.int .u64 0),(.int .u64 0),(.st 6 [(.bl false),(.int .u64 0),(.ar 1 4 (zr 4 (.int .u64 0)))]),(.int .i64 0),(.bl false)])]):=by first|rfl|(rw[cm];rfl)
def tW (l:List ue):List Int:=(l.filter (λp=>p.has)).map (λp=>p.mZ.loc)
theorem Ig {l:List ue} {i:Nat} (h:i<l.length):tW (l.take (i+1))=tW (l.take i)++(if l[i].has=true then [l[i].mZ.loc]else []):=by
 unfold tW;rw[mC _ h];by_cases hk:l[i].has=true<;>simp[hk]
theorem zL (l:List ue):(tW l).length≤l.length:=by
 unfold tW;rw[JaX];exact JfZ _ _
theorem dt {l:List ue} (h:l.length≤8) (b:Bool):aL Pg 96 [.sl 77 (l.map gY) b] (ow (tW l)):=by
 refine ae.intro (aC R.dt.2) (by simp[R.dt]) ?_;simp[R.dt,aj,av,ow];refine eW.fM l.length (λ_=>True) [2,3,6,7,8] (λi=>[(3,.rs 3 [] 0 (tW (l.take i)).length (tW (l.take i)).length 1 .tip),(8,.int .i64 i)]) (λi=>[(3,.arr 1 ((tW (l.take i)).map (λn:Int=>PV.int .u32 n)))]) [.vt 3 3 1] ?_;simp[show tW []=[] from rfl];refine⟨λi hi K hK=> ?_,λK=> ?_⟩
 ·have hx:l[i]? =some l[i]:=gJ hi;have hlen:=zL (l.take i);have Mc:(l.take i).length≤i:=by rw[lJ];omega
  rw[Ig hi]at hK;generalize tW (l.take i)=out at*;by_cases h1:l[i].has=true
  ·simp[↓al,hi,h1,eI hi (by omega)];refine⟨⟨by omega,by omega⟩,[.keep [2,3,6,7,8],.dr 5],?_⟩;simp[bn,bU,af,ab];exact hK _ (by simp[h1])
  ·simp[↓al,hi,h1,eI hi (by omega)];refine⟨[.keep [2,3,6,7,8],.dr 5],?_⟩;simp[bn,bU,af,ab];exact hK _ (by simp[h1])
 ·simp[↓al,↓al];refine aA.plain [.keep [2],.fz 3,.wk 2] ?_;simp
def Wu (p:ue):ue:=if p.has=true then p else oN
theorem fI (p:ue):aL Pg 97 [gY p] (gY (Wu p)):=by
 refine ae.intro (aC R.fI.2) (by simp[R.fI]) ?_;by_cases h:p.has=true
 ·simp[R.fI,aj,av,h];refine aA.plain [] ?_;simp[Wu,h]
 ·simp[R.fI,aj,av,h];refine aA.plain [] ?_;simp[Wu,h,QL]
theorem gD (r:rF):aL Pg 285 [gO r] (ow (tW [r.p,r.c,r.n])):=by
 refine ae.intro (aC R.gD.2) (by simp[R.gD]) ?_;simp[R.gD,aj,av];refine ai.rA (dt (l:=[r.p,r.c,r.n]) (by simp) false) ?_;simp;refine aA.plain [] ?_;simp
def xl (r:rF) (s:kS):rF:=if r.n.has=true then⟨r.n,⟨true,s⟩,oN⟩else⟨Wu r.c,⟨true,s⟩,oN⟩
def tz (r:rF):List Int:=if r.n.has=true then tW [r.p,r.c]else tW [r.p]
theorem dH (r:rF) (s:kS):aL Pg 47 [gO r,eT s] (.tup [gO (xl r s),ow (tz r)]):=by
 refine ae.intro T.dH (by simp[F.dH]) ?_;by_cases h:r.n.has=true
 ·simp[F.dH,aj,av,h];refine aM.rA (dt (l:=[r.p,r.c]) (by simp) false) ?_;simp;refine aA.plain [] ?_;simp[xl,tz,h,gO,gY];exact⟨rfl,rfl⟩
 ·simp[F.dH,aj,av,h];refine aM.rA (fI r.c) ?_;simp;refine aM.rA (dt (l:=[r.p]) (by simp) false) ?_;simp;refine aA.plain [] ?_;simp[xl,tz,h,gO,gY];exact⟨rfl,rfl⟩
def QJ (r:rF) (s:kS):rF:=⟨oN,r.c,⟨true,s⟩⟩
def Iq (r:rF):List Int:=tW [r.p,r.n]
theorem gy (r:rF) (s:kS):aL Pg 48 [gO r,eT s] (.tup [gO (QJ r s),ow (Iq r)]):=by
 refine ae.intro (aC R.gy.2) (by simp[R.gy]) ?_;simp[R.gy,aj,av];refine aM.rA (dt (l:=[r.p,r.n]) (by simp) false) ?_;simp;refine aA.plain [] ?_;simp[QJ,Iq,gO,gY];exact⟨rfl,rfl⟩
theorem jz (loc rem:Int) (a b:FV wZ) (born:Int) (X4:Bool) (fC:Int):aL Pg 52 [.int .u32 loc,.int .u32 rem,a.p,b.p,.int .i64 born,.bl X4,.int .u64 fC] (eT ⟨loc,rem,a,b,0,fC,NM,born,X4⟩):=by
 refine ae.intro (aC R.jz.2) (by simp[R.jz]) ?_;simp[R.jz,aj,av];refine aA.plain [] ?_;simp[eT,NM]
theorem jA {n a b:Int} (h1:a≤n) (h2:n≤b):aL Pg 184 [.int .i64 n,.int .i64 a,.int .i64 b] (.bl true):=by
 refine ae.intro (aC R.lY.2) (by simp[R.lY]) ?_;simp[R.lY,aj,av,h1,h2];refine aA.plain [] ?_;simp
theorem Kq {d:bh} {t:Int} (h1:0≤t) (h2:t≤d.now):aL Pg 95 [gP d,.int .i64 t] (.bl true):=by
 refine ae.intro (aC R.n7.2) (by simp[R.n7]) ?_;simp[R.n7,aj,av];refine ai.rA (jA h1 h2) ?_;simp;refine aA.plain [] ?_;simp
theorem GH {r:zt} (h:AP r):aL Pg 183 [c9 r] (.bl true):=by
 refine ae.intro (aC R.jn.2) (by simp[R.jn]) ?_;obtain⟨h1,h2,h3,h4,h5,h6,h7,h8,h9,h10,h11,Te,h13,h14,h15,Om,h17⟩:=h;have n1:¬r.H3<1:=by omega
 have n2:¬r.sy<r.H3:=by omega
 have n3:¬(18446744073709543423:Int)<r.sy:=by omega
 have w1:IntKind.i64.wrap (r.Ss+r.ret)=r.Ss+r.ret:=wrap_i64 (by omega);have w2:IntKind.i64.wrap (20*r.ret)=20*r.ret:=wrap_i64 (by omega);have n4:r.Ss+r.ret<r.nc:=by omega
 simp[R.jn,aj,av,n1,n2,n3];refine ai.rA (jA (n:=r.ret) (a:=1000) (b:=1073741824) (by omega) (by omega)) ?_;simp;refine ai.rA (jA (n:=r.Ss) (a:=1000) (b:=1073741824) (by omega) (by omega)) ?_;simp;refine ai.rA (jA (n:=r.cot) (a:=1) (b:=1073741824) (by omega) (by omega)) ?_;simp;refine ai.rA (jA (n:=r.J0) (a:=1) (b:=1073741824) (by omega) (by omega)) ?_;simp;refine ai.rA (jA (n:=r.nc) (a:=1) (b:=1073741824) (by omega) (by omega)) ?_;simp[h10,w1,n4,w2];refine ai.rA (jA (n:=r.Yn) (a:=r.ret) (b:=20*r.ret) (by omega) (by omega)) ?_;simp;refine ai.rA (jA (n:=r.load) (a:=1) (b:=64) (by omega) (by omega)) ?_;simp;refine ai.rA (jA (n:=r.tV) (a:=1) (b:=8) (by omega) (by omega)) ?_;simp;refine aA.plain [] ?_;simp
def ZM (v:FV Ng):Prop:=v=NM∨∃w:z6,w.used=true∧(0≤w.top∧w.top<8)∧v=GG w
structure yG (d:bh) (s:kS):Prop where
 b0:0≤s.born
 b1:s.born≤d.now
 fe:s.fC=d.rules.sy
 n0:0≤s.next
 n1:s.next≤18446744073709543423
 wi:ZM s.GZ
 sk:∃k:Key,s.send=k.fv
 rm:0≤s.rem∧s.rem≤4294967295
theorem LF {d:bh} {s:kS} (h:yG d s):aL Pg 45 [gP d,eT s] (.bl true):=by
 refine ae.intro (aC R.nv.2) (by simp[R.nv]) ?_;have h1:=h.fe;have h2:=h.n1;simp[R.nv,aj,av];refine ai.rA (Kq (d:=d) h.b0 h.b1) ?_;rcases h.wi with hw|⟨w,hu,_,hw⟩
 ·simp[h1,h2,hw,NM];refine⟨by rw[cm];rfl,?_⟩;refine aA.plain [] ?_;simp;rw[cm];rfl
 ·simp[h1,h2,hw,GG,wP,hu];refine aA.plain [] ?_;simp
def z7:Nat->Nat->List UInt8
 |0,n=>[UInt8.ofNat (48+n)]
 |f+1,n=>if n<10 then [UInt8.ofNat (48+n)]else z7 f (n/10)++[UInt8.ofNat (48+n%10)]
theorem sI:∀f n,1≤(z7 f n).length∧(z7 f n).length≤f+1
 |0,n=>by simp[z7]
 |
  f+1,n=>by
  have:=sI f (n/10)
  simp only[z7];split<;>simp<;>omega
theorem aud {n:Nat} (h:n<256):u8 (UInt8.ofNat n)= .int .u8 n:=by
 simp only[u8];congr 1;simp;omega
theorem adj {x:Int} {n:Nat} (e:x=n) (h:n<256):gG [.int .u8 x]=some [UInt8.ofNat n]:=by
 subst e;rw[←aud h];exact AF [UInt8.ofNat n]
theorem LY:∀(f n:Nat),f≤100->n<10^(f+1)->n<1000000->aL Pg 368 [.int .i64 n] (.str (z7 f n)):=by
 intro f;induction f with
 |
  zero=>
  intro n hf h h'
  have hn:(n:Int)<10:=by simp at h;omega
  refine ae.intro (aC R.dG.2) (by simp[R.dG]) ?_
  have w1:IntKind.i64.wrap (48+(n:Int))=48+(n:Int):=wrap_i64 (by omega)
  have w2:IntKind.u8.wrap (48+(n:Int))=48+(n:Int):=wrap_u8 (by omega)
  simp[R.dG,aj,av,hn,w1,w2,adj (x:=48+(n:Int)) (n:=48+n) (by omega) (by omega)]
  refine aA.plain [] ?_
  simp[z7]
 |
  succ f ih=>
  intro n hf h h'
  refine ae.intro (aC R.dG.2) (by simp[R.dG]) ?_
  by_cases hn:(n:Int)<10
  ·have w1:IntKind.i64.wrap (48+(n:Int))=48+(n:Int):=wrap_i64 (by omega)
   have w2:IntKind.u8.wrap (48+(n:Int))=48+(n:Int):=wrap_u8 (by omega)
   simp[R.dG,aj,av,hn,w1,w2,adj (x:=48+(n:Int)) (n:=48+n) (by omega) (by omega)]
   refine aA.plain [] ?_
   have NW:n<10:=by omega
   simp[z7,NW]
  ·have hl:=sI f (n/10)
   obtain⟨q,hq⟩:∃q,q=n/10:=⟨_,rfl⟩
   obtain⟨t,ht⟩:∃t,t=n%10:=⟨_,rfl⟩
   have hd:IntKind.i64.wrap ((n:Int).tdiv 10)=(q:Int):=by
    rw[show(10:Int)=((10:Nat):Int) from rfl,←Int.ofNat_tdiv,hq];exact wrap_i64 (by omega)
   have G7:IntKind.i64.wrap ((n:Int)/10)=(q:Int):=by
    rw[show(n:Int)/10=((n/10:Nat):Int) by omega,hq];exact wrap_i64 (by omega)
   have hm:(n:Int).tmod 10=(t:Int):=by
    rw[show(10:Int)=((10:Nat):Int) from rfl,←JtJ,ht]
   have w1:IntKind.i64.wrap (48+(t:Int))=48+(t:Int):=wrap_i64 (by omega)
   have w2:IntKind.u8.wrap (48+(t:Int))=48+(t:Int):=wrap_u8 (by omega)
   have hi:=ih q (by omega) (by rw[Nat.pow_succ]at h;omega) (by omega)
   simp[R.dG,aj,av,hn,G7]
   refine aM.rA hi ?_
   rw[←hq]at hl
   simp[hm,w1,w2,adj (x:=48+(t:Int)) (n:=48+t) (by omega) (by omega)]
   refine⟨by omega,?_⟩
   refine aA.plain [] ?_
   have NW:¬n<10:=by omega
   simp[z7,NW,←hq,←ht]
theorem LZ {n:Int} (h:n=0∨1000≤n∧n≤1073741824):aL Pg 340 [.int .i64 n] (.bl true):=by
 refine ae.intro (aC R.jQ.2) (by simp[R.jQ]) ?_;rcases h with h|⟨h1,h2⟩
 ·simp[R.jQ,aj,av,h];refine aA.plain [] ?_;simp
 ·have h0:¬n=0:=by omega
  simp[R.jQ,aj,av,h0,h1,h2];refine aA.plain [] ?_;simp
@[simp↓] theorem ahj (a b:List UInt8) (K:PV->Prop):B7 .geq a b K=K (.bl (!Op.bytesLess a b)):=_root_.id rfl
def yJ (a:iG) (n:Nat):List UInt8:=((a.ip.take n).map (λb=>[46]++z7 2 b.toNat)).flatten
theorem GI (a:iG):∀n,(yJ a n).length≤4*n:=by
 intro n;unfold yJ;generalize a.ip=l;induction l generalizing n with
 |nil=>simp
 |
  cons x l ih=>
  cases n with
  |zero=>simp
  |
   succ n=>
   have:=ih n
   have h2:=sI 2 x.toNat
   simp at this⊢
   omega
theorem NN (a:iG) {n:Nat} {b:UInt8} (h:a.ip[n]? =some b):yJ a (n+1)=yJ a n++([46]++z7 2 b.toNat):=by
 unfold yJ;rw[List.take_add_one,h];simp
theorem IP (a:iG):2≤(yJ a 4).length:=by
 have h:=a.h
 obtain⟨x,l,e⟩:∃x l,a.ip=x::l:=by
  cases hx:a.ip with
  |nil=>rw[hx]at h;simp at h
  |cons x l=>exact⟨x,l,rfl⟩
 unfold yJ;rw[e];have h2:=sI 2 x.toNat;simp;omega
theorem Ks {a:iG} (h:wJ a 4) (h6:a.sA=false):aL Pg 367 [cN a] (.str ((yJ a 4).drop 1)):=by
 refine ae.intro T.eL (by simp[F.eL]) ?_;simp[F.eL,aj,av];refine ai.rA (fF h) ?_;simp[h6];refine eW.fM 4 (λ_=>True) [1,2,3,4] (λi=>[(3,.str (yJ a i)),(4,.int .i64 i)]) (λi=>[]) [.keep [1,2,3,4]] ?_;simp[show yJ a 0=[] from rfl];refine⟨λi hi K hK=> ?_,λK=> ?_⟩
 ·have Ai:i<a.ip.length:=by rw[a.h];omega
  have hx:a.ip[i]? =some a.ip[i]:=gJ Ai;have hb:=(a.ip[i]).toNat_lt;have hw:IntKind.i64.wrap ((a.ip[i]).toNat:Int)=((a.ip[i]).toNat:Int):=wrap_i64 (by omega);have hi4:(i:Int)<4:=by omega
  have hl:=GI a i;have AW:=sI 2 (a.ip[i]).toNat;rw[NN a hx]at hK;have aer:(i:Int)<16:=by omega
  simp[↓al,hi4,aer,hx,u8,hw];refine ai.rA (LY 2 (a.ip[i]).toNat (by omega) (by omega) (by omega)) ?_;simp[eI hi (by omega)];refine⟨by omega,by omega,[.keep [1,2,3,4]],?_⟩;simp;exact hK _ (by simp)
 ·have hl:=GI a 4;have hp:=IP a;simp[↓al,↓al];refine⟨by omega,?_⟩;refine aA.plain [] ?_;simp
theorem adk (i:Nat):wJ (u6 i).addr 4:=by
 intro j h1 h2;simp only[u6];rcases(by omega:j=4∨j=5∨j=6∨j=7∨j=8∨j=9∨j=10∨j=11∨j=12∨j=13∨j=14∨j=15)with rfl|rfl|rfl|rfl|rfl|rfl|rfl|rfl|rfl|rfl|rfl|rfl<;>rfl
def Wv (i:Nat):List UInt8:=(yJ (u6 i).addr 4).drop 1++[58]++z7 3 (1000+i)
theorem Rb (i:Nat):Wv i≠[]:=by simp[Wv]
theorem DC {i:Nat} (h:i<3):aL Pg 339 [gZ (u6 i)] (.str (Wv i)):=by
 refine ae.intro (aC R.gE.2) (by simp[R.gE]) ?_;have hf:=Ks (adk i) rfl;have hl:=GI (u6 i).addr 4;have hp:=IP (u6 i).addr;have hd:=sI 3 (1000+i);have he:Wv i=(yJ (u6 i).addr 4).drop 1++[58]++z7 3 (1000+i):=rfl;rw[he];obtain⟨m,hm⟩:∃m,(yJ (u6 i).addr 4).drop 1=m:=⟨_,rfl⟩
 have wM:m.length=(yJ (u6 i).addr 4).length-1:=by rw[←hm,JbV]
 rw[hm]at hf⊢;have hn:m≠[]:=by intro e;rw[e]at wM;simp at wM;omega
 have p1:(u6 i).port=1000+(i:Int):=rfl;have p2:¬(1000+(i:Int))<1:=by omega
 have p3:¬(65535:Int)<1000+(i:Int):=by omega
 have p4:(u6 i).addr.sA=false:=rfl;have hdc:=LY 3 (1000+i) (by omega) (by omega) (by omega);rw[show((1000+i:Nat):Int)=1000+(i:Int) by omega]at hdc;simp[R.gE,aj,av];refine ai.rA hf ?_;simp[hn,p1,p2,p3,p4];refine⟨by omega,?_⟩;refine ai.rA hdc ?_;simp;refine⟨by omega,?_⟩;refine aA.plain [] ?_;simp
def Ww:iG:=⟨false,List.replicate 16 0,rfl⟩
def Gr:H4:=⟨Ww,0⟩
def LA:FV JY:=⟨.ar 1 16 (zr 16 (.int .u8 0)),by rw[cm];rfl⟩
def zSm:FV Uo:=⟨.ar 1 12 (zr 12 (.int .u8 0)),by rw[cm];rfl⟩
def zNo:FV PW:=⟨.st 64 [.ar 1 32 (zr 32 (.int .u8 0)),.ar 1 32 (zr 32 (.int .u8 0))],by rw[cm];rfl⟩
def yA:Oc:=⟨false,0,Ly,zNo,0,0⟩
theorem Kt:gZ Gr=(.st 18 [(.st 17 [(.bl false),(.ar 1 16 (zr 16 (.int .u8 0)))]),(.int .i64 0)]):=by first|rfl|(rw[cm];rfl)
theorem amA:PV.beq (.st 18 [(.st 17 [(.bl false),(.ar 1 16 (zr 16 (.int .u8 0)))]),(.int .i64 0)]) (.st 18 [(.st 17 [(.bl false),(.ar 1 16 (zr 16 (.int .u8 0)))]),(.int .i64 0)])=true:=by
 have h:=PZ Gr;rw[Kt]at h;exact h
theorem amB:fits (Sh.st [Sh.st [Sh.b,Sh.ar 16 (Sh.i IntKind.u8)],Sh.i IntKind.i64]) (.st 18 [(.st 17 [(.bl false),(.ar 1 16 (zr 16 (.int .u8 0)))]),(.int .i64 0)])=true:=by
 have h:=ES Gr;rw[Kt]at h;exact h
theorem Rc:LA.p=(.ar 1 16 (zr 16 (.int .u8 0))):=by first|rfl|(rw[cm];rfl)
def mr (d:bh) (p:ue):Prop:=(p.has=true∧yG d p.mZ)∨(p.has=false∧p=oN)
structure nI (d:bh) (p:bM):Prop where
 ep:(p.fD=true∧∃i,i<3∧p.ep=u6 i)∨(p.fD=false∧p.ep=Gr)
 iH:p.iH=0∨1000≤p.iH∧p.iH≤1073741824
 zu:p.zu=0
 A0:p.wF=false
 xr:p.pj=false
 zx:p.zx=0
 rG:p.rG=LA
 ej:p.ej=[]
 hand:p.hand=yA
 rp:mr d p.ring.p
 rc:mr d p.ring.c
 rn:mr d p.ring.n
theorem Rd {d:bh} {p:bM} (h:nI d p) (hn:0≤d.now) (hs:0≤d.rules.tV):aL Pg 280 [gP d,aP p] (.bl true):=by
 refine ae.intro T.fo (by simp[F.fo]) ?_;have h2:=h.zu;have h3:=h.zx;have h4:=h.rG;have h5:=h.ej;have h6:=h.A0;have h7:=h.xr;have hf:fits (Sh.ar 16 (Sh.i IntKind.u8)) (PV.ar 1 16 (zr 16 (PV.int IntKind.u8 0)))=true:=by rw[cm];rfl
 have Bk:¬d.rules.tV<0:=by omega
 have hp0:aL Pg 95 [gP d,.int .i64 0] (.bl true):=Kq (by omega) hn;have hb:PV.beq LA.p LA.p=true:=FV.beq LA;rw[Rc]at hb;rcases h.ep with⟨he,i,hi,e⟩|⟨he,e⟩
 ·simp[F.fo,aj,av,he,e];refine ai.rA (DC hi) ?_;simp[Rb,he];refine ai.rA (LZ h.iH) ?_;simp[h2];refine ai.rA hp0 ?_;simp[h2,h3,h6];refine ai.rA hp0 ?_;simp[h3,h4,h5,Rc,Bk,h7,hb,hf];refine eW.fM 0 (λ_=>True) [4,82,83,84] (λi=>[]) (λi=>[]) [.keep [4,82,83,84]] ?_;simp;intro K;simp[↓al,↓al];refine aA.plain [] ?_;simp
 ·simp[F.fo,aj,av,he,e,Kt,amA,amB];refine ai.rA (LZ h.iH) ?_;simp[h2];refine ai.rA hp0 ?_;simp[h2,h3,h6];refine ai.rA hp0 ?_;simp[h3,h4,h5,Rc,Bk,h7,hb,hf];refine eW.fM 0 (λ_=>True) [4,82,83,84] (λi=>[]) (λi=>[]) [.keep [4,82,83,84]] ?_;simp;intro K;simp[↓al,↓al];refine aA.plain [] ?_;simp
theorem adl {d:bh} {p:bM} (h:nI d p):aL Pg 281 [gP d,aP p] (.bl true):=by
 refine ae.intro (aC R.n8.2) (by simp[R.n8]) ?_;have h1:=h.hand;have h2:yA.has=false:=rfl;have hb:=P4 yA;have hf:=EU yA;have e:lU yA=(.st 100 [.bl false,.int .u32 0,.ar 1 32 (zr 32 (.int .u8 0)),.st 64 [.ar 1 32 (zr 32 (.int .u8 0)),.ar 1 32 (zr 32 (.int .u8 0))],.int .i64 0,.int .i64 0]):=rfl;rw[e]at hb hf;simp[R.n8,aj,av,h1,e];refine⟨hf,?_⟩;refine aA.plain [] ?_;simp[hb]
theorem adm {d:bh} {p:bM} (h:nI d p):aL Pg 282 [gP d,aP p] (.bl true):=by
 refine ae.intro (aC R.oa.2) (by simp[R.oa]) ?_
 have hg:∀i,i<3->mr d (Is p.ring (i+1)):=by
  intro i hi;rcases(by omega:i=0∨i=1∨i=2)with rfl|rfl|rfl
  ·exact h.rp
  ·exact h.rc
  ·exact h.rn
 have hb:=H8 oN;have hf:=sC oN;simp[R.oa,aj,av];refine eW.fM 3 (λ_=>True) [2,3,4,5] (λi=>[(5,.int .i64 ((i:Int)+1))]) (λi=>[]) [.keep [2,3,4,5]] ?_;simp;refine⟨λi hi K hK=> ?_,λK=> ?_⟩
 ·have hi3:(i:Int)+1≤3:=by omega
  have hw:IntKind.i64.wrap ((i:Int)+1+1)=(i:Int)+1+1:=wrap_i64 (by omega);have b6:=gW p.ring (k:=i+1) (by omega);rw[show((i+1:Nat):Int)=(i:Int)+1 by omega]at b6;have hp:=hg i hi;generalize Is p.ring (i+1)=q at*;simp[↓al,hi3];refine ai.rA b6 ?_;rcases hp with⟨h1,h2⟩|⟨h1,h2⟩
  ·simp[h1];refine ai.rA (LF h2) ?_;simp[h1,hw];refine⟨[.keep [2,3,4,5],.dr 6],?_⟩;simp;exact hK _ (by simp)
  ·have h0:oN.has=false:=rfl;have AU:PV.beq (gY oN) (.st 77 [(.bl false),(.st 76 [(.int .u32 0),(.int .u32 0),(.ar 1 32 (zr 32 (.int .u8 0))),(.ar 1 32 (zr 32 (.int .u8 0))),(.int .u64 0),(.int .u64 0),(.st 6 [(.bl false),(.int .u64 0),(.ar 1 4 (zr 4 (.int .u64 0)))]),(.int .i64 0),(.bl false)])])=true:=H8 oN;simp[h2,h0,hw,AU];refine⟨hf,[.keep [2,3,4,5],.dr 6],?_⟩;simp;exact hK _ (by simp)
 ·simp[↓al,↓al];refine aA.plain [] ?_;simp
theorem Ku {d:bh} (hl:d.an.length≤8) {k:Int} (hk:k=3∨k=4∨k=5) (h:∀p∈d.an,nI d p) (hn:0≤d.now) (hs:0≤d.rules.tV):aL Pg 186 [gP d,.int .i64 k] (.bl true):=by
 refine ae.intro (aC R.oc.2) (by simp[R.oc]) ?_;simp[R.oc,aj,av];refine eW.fM d.an.length (λ_=>True) [1,2,4,8,9,10] (λi=>[(10,.int .i64 i)]) (λi=>[]) [.keep [1,2,4,8,9,10]] ?_;simp;refine⟨λi hi K hK=> ?_,λK=> ?_⟩
 ·have hx:d.an[i]? =some d.an[i]:=gJ hi;have hp:=h _ (JbJ hi);rcases hk with rfl|rfl|rfl
  ·simp[↓al,hi];refine ai.rA (Rd hp hn hs) ?_;simp[eI hi (by omega)];refine⟨[.keep [1,2,4,8,9,10],.dr 6],?_⟩;simp;exact hK _ (by simp)
  ·simp[↓al,hi];refine ai.rA (adl hp) ?_;simp[eI hi (by omega)];refine⟨[.keep [1,2,4,8,9,10],.dr 6],?_⟩;simp;exact hK _ (by simp)
  ·simp[↓al,hi];refine ai.rA (adm hp) ?_;simp[eI hi (by omega)];refine⟨[.keep [1,2,4,8,9,10],.dr 6],?_⟩;simp;exact hK _ (by simp)
 ·simp[↓al,↓al];refine aA.plain [] ?_;simp
theorem Wx {d:bh} (hl:d.an.length≤8) (h:∀(i:Nat) (h:i+1<d.an.length),Ws d.an[i].b8 d.an[i+1].b8=true):aL Pg 185 [gP d] (.bl true):=by
 refine ae.intro T.il (by simp[F.il]) ?_;simp[F.il,aj,av];refine eW.fM d.an.length (λ_=>True) [1,2,6,7,8] (λi=>[(8,.int .i64 i)]) (λi=>[]) [.keep [1,2,6,7,8]] ?_;simp;refine⟨λi hi K hK=> ?_,λK=> ?_⟩
 ·have hx:d.an[i]? =some d.an[i]:=gJ hi;by_cases hz:i=0
  ·subst hz;simp[↓al,hi];refine⟨[.keep [1,2,6,7,8],.dr 4],?_⟩;simp;exact hK _ (by simp)
  ·obtain⟨j,Af⟩:∃j,i=j+1:=⟨i-1,by omega⟩
   have hj:j<d.an.length:=by omega
   have hy:d.an[j]? =some d.an[j]:=gJ hj;have dk:=h j (by omega);have adU:Ws d.an[j].b8 d.an[i].b8=true:=by subst Af;exact dk
   have hw:IntKind.i64.wrap ((i:Int)-1)=j:=by rw[wrap_i64 (by omega)];omega
   have ta:(d.an[j].b8.l.map u8).take 32=d.an[j].b8.l.map u8:=tJ (by simp[d.an[j].b8.h]);have tb:(d.an[i].b8.l.map u8).take 32=d.an[i].b8.l.map u8:=tJ (by simp[d.an[i].b8.h]);simp[↓al,hi,hj,hw,show 0<i by omega,eI hi (by omega),aG,ta,tb,(show Op.bytesLess d.an[j].b8.l d.an[i].b8.l=true from adU)];refine⟨[.keep [1,2,6,7,8],.dr 4],?_⟩;simp;exact hK _ (by simp)
 ·have hl8:(d.an.length:Int)≤8:=by omega
  simp[↓al,↓al,hl8];refine aA.plain [] ?_;simp
def rt (i:Nat):vY:=⟨vf (UInt8.ofNat (i+1)),pC i⟩
theorem vP {i j:Nat} (hi:i<3) (hj:j<3) (h:pC i=pC j):i=j:=by
 have h2:=congrArg (λk:Key=>k.l.head?) h;rcases(by omega:i=0∨i=1∨i=2)with rfl|rfl|rfl<;>rcases(by omega:j=0∨j=1∨j=2)with rfl|rfl|rfl<;>simp[pC]at h2<;>rfl
theorem Re {i j:Nat} (G6:i<j) (hj:j<3):Ws (pC i) (pC j)=true:=by
 rcases(by omega:i=0∧j=1∨i=0∧j=2∨i=1∧j=2)with⟨rfl,rfl⟩|⟨rfl,rfl⟩|⟨rfl,rfl⟩<;>rfl
theorem amC {i j:Nat} (G6:i<j) (hj:j<3):UInt8.ofNat (i+1)<UInt8.ofNat (j+1):=by
 rcases(by omega:i=0∧j=1∨i=0∧j=2∨i=1∧j=2)with⟨rfl,rfl⟩|⟨rfl,rfl⟩|⟨rfl,rfl⟩<;>decide
def Rf (l:List vY):Prop:=l.length≤3∧∀(i:Nat) (h:i<l.length),l[i]=rt i
theorem Ef {l:List vY} (h:Rf l):aL Pg 283 [cU l] (.bl true):=by
 refine ae.intro T.dY (by simp[F.dY]) ?_;have hl:=h.1;simp[F.dY,aj,av];refine eW.fM l.length (λ_=>True) [0,2,5,6,7] (λi=>[(7,.int .i64 i)]) (λi=>[]) [.keep [0,2,5,6,7]] ?_;simp;refine⟨λi hi K hK=> ?_,λK=> ?_⟩
 ·have hx:l[i]? =some l[i]:=gJ hi;have he:=h.2 i hi;have hp:l[i].D8=vf (UInt8.ofNat (i+1)):=by rw[he];rfl
  have hv:aL Pg 40 [gr l[i].D8] (.bl true):=by rw[hp];exact fH (tw _) rfl
  by_cases hz:i=0
  ·subst hz;simp[↓al,hi];refine aM.rA hv ?_;simp;refine⟨[.keep [0,2,5,6,7],.dr 4],?_⟩;simp;exact hK _ (by simp)
  ·obtain⟨j,Af⟩:∃j,i=j+1:=⟨i-1,by omega⟩
   have hj:j<l.length:=by omega
   have hy:l[j]? =some l[j]:=gJ hj;have hq:l[j].D8=vf (UInt8.ofNat (j+1)):=by rw[h.2 j hj];rfl
   have dk:=amC (i:=j) (j:=i) (by omega) (by omega);have hb:=fm (UInt8.ne_of_lt dk);rw[Kn dk,←hp,←hq]at hb;have hw:IntKind.i64.wrap ((i:Int)-1)=j:=by rw[wrap_i64 (by omega)];omega
   simp[↓al,hi];refine aM.rA hv ?_;simp[hj,hw,show 0<i by omega];refine aM.rA hb ?_;simp[eI hi (by omega)];refine⟨[.keep [0,2,5,6,7],.dr 4],?_⟩;simp;exact hK _ (by simp)
 ·have hl8:(l.length:Int)≤16:=by omega
  simp[↓al,↓al,hl8];refine aA.plain [] ?_;simp
def IQ (l:List bM):Prop:=l.length≤3∧∀(i:Nat) (h:i<l.length),l[i].b8=pC i
theorem Kd {d:bh} (h:IQ d.an) {i:Nat} (hi:i<d.an.length):aL Pg 43 [gP d,aG (pC i)] (.int .i64 i):=by
 have hl:=h.1;refine Ra (by omega) hi (h.2 i hi) (λj hj Af=> ?_);rw[h.2 j hj];intro e;exact absurd (vP (by omega) (by omega) e) (by omega)
theorem Rg {d:bh} (h:Rf d.bQ) (hp:IQ d.an) (hl:d.bQ.length=d.an.length):aL Pg 187 [gP d] (.bl true):=by
 refine ae.intro (aC R.lZ.2) (by simp[R.lZ]) ?_;have hl3:=h.1;simp[R.lZ,aj,av];refine eW.fM d.bQ.length (λ_=>True) [1,2,6,7,8] (λi=>[(8,.int .i64 i)]) (λi=>[]) [.keep [1,2,6,7,8]] ?_;simp;refine⟨λi hi K hK=> ?_,λK=> ?_⟩
 ·have hx:d.bQ[i]? =some d.bQ[i]:=gJ hi;have he:d.bQ[i].peer=pC i:=by rw[h.2 i hi];rfl
  have hf:=Kd hp (i:=i) (by omega);rw[←he]at hf;have hn:¬(i:Int)<0:=by omega
  simp[↓al,hi];refine ai.rA hf ?_;simp[hn,eI hi (by omega)];refine⟨[.keep [1,2,6,7,8],.dr 4],?_⟩;simp;exact hK _ (by simp)
 ·simp[↓al,↓al];refine ai.rA (Ef h) ?_;simp;refine aA.plain [] ?_;simp
theorem adn {d:bh} (h0:0≤d.qn) (h1:d.qn≤d.now) (h2:d.fg=[]) (h3:d.buckets=[]):aL Pg 190 [gP d] (.bl true):=by
 refine ae.intro T.ja (by simp[F.ja]) ?_;simp[F.ja,aj,av];refine ai.rA (Kq h0 h1) ?_;simp[h2,h3];refine eW.fM 0 (λ_=>True) [1,2,25,26,27] (λi=>[]) (λi=>[]) [.keep [1,2,25,26,27]] ?_;simp;intro K;simp[↓al,↓al,h3];refine eW.fM 0 (λ_=>True) [1,2,52,53,54] (λi=>[]) (λi=>[]) [.keep [1,2,52,53,54]] ?_;simp;intro K;simp[↓al,↓al];refine aA.plain [] ?_;simp
structure Rh (d:bh):Prop where
 so:∀(i:Nat) (h:i+1<d.timers.length),dW d.timers[i] d.timers[i+1]=true
 rg:∀t∈d.timers,2≤t.kind∧t.kind≤5∧d.now<t.at_∧t.at_≤4398046511104∧∃i,∃h:i<d.an.length,t.peer=pC i∧(t.kind=4->d.an[i].iH≠0)
 un:∀(i j:Nat) (hi:i<d.timers.length) (hj:j<d.timers.length),i<j->¬(d.timers[j].peer=d.timers[i].peer∧d.timers[j].kind=d.timers[i].kind)
 len:d.timers.length≤1000
theorem ado {l:List cT} (hl:l.length≤1000) {k:Key} {n:Int} (h:∀t∈l,t.kind≠n):aL Pg 287 [cE l,aG k,.int .i64 n] (.bl false):=by
 refine ae.intro (aC R.pd.2) (by simp[R.pd]) ?_;simp[R.pd,aj,av];refine eW.fM l.length (λ_=>True) [2,4,6,9,10,11] (λi=>[(11,.int .i64 i)]) (λi=>[]) [.keep [2,4,6,9,10,11]] ?_;simp;refine⟨λi hi K hK=> ?_,λK=> ?_⟩
 ·have hx:l[i]? =some l[i]:=gJ hi;have he:=h _ (JbJ hi);by_cases h1:l[i].peer=k
  ·simp[↓al,hi,he,h1,eI hi (by omega)];refine⟨[.keep [2,4,6,9,10,11],.dr 8],?_⟩;simp;exact hK _ (by simp)
  ·simp[↓al,hi,he,wG,h1,eI hi (by omega)];refine⟨[.keep [2,4,6,9,10,11],.dr 8],?_⟩;simp;exact hK _ (by simp)
 ·simp[↓al,↓al];refine aA.plain [] ?_;simp
theorem Eg {l:List cT} (hl:l.length≤1000) (Xb:∀(i:Nat) (h:i+1<l.length),dW l[i] l[i+1]=true)
  (hrg:∀t∈l,2≤t.kind∧t.kind≤5∧0≤t.at_∧t.at_≤4398046511104)
  (Ol:∀(i j:Nat) (hi:i<l.length) (hj:j<l.length),i<j->¬(l[j].peer=l[i].peer∧l[j].kind=l[i].kind)):aL Pg 286 [cE l] (.bl true):=by
 refine ae.intro T.dZ (by simp[F.dZ]) ?_;simp[F.dZ,aj,av];refine eW.fM l.length (λ_=>True) [0,2,7,8,9] (λi=>[(9,.int .i64 i)]) (λi=>[]) [.keep [0,2,7,8,9]] ?_;simp;refine⟨λi hi K hK=> ?_,λK=> ?_⟩
 ·have hx:l[i]? =some l[i]:=gJ hi;obtain⟨r1,r2,r3,r4⟩:=hrg _ (JbJ hi);have g1:¬l[i].kind<1:=by omega
  have g2:¬5<l[i].kind:=by omega
  have g3:¬l[i].at_<0:=by omega
  have g4:¬4398046511104<l[i].at_:=by omega
  by_cases hz:i=0
  ·subst hz;simp[↓al,hi,g1,g2,g3,g4,cE];refine eW.fM 0 (λ_=>True) [0,2,4,7,8,9,48,49,50] (λi=>[]) (λi=>[]) [.keep [0,2,4,7,8,9,48,49,50]] ?_;simp;intro K2;simp[↓al,↓al];refine⟨[.keep [0,2,7,8,9],.dr 4],?_⟩;simp;exact hK _ (by simp[cE])
  ·obtain⟨j,Af⟩:∃j,i=j+1:=⟨i-1,by omega⟩
   have hj:j<l.length:=by omega
   have hy:l[j]? =some l[j]:=gJ hj;have dk:dW l[j] l[i]=true:=by subst Af;exact Xb j hi
   have hw:IntKind.i64.wrap ((i:Int)-1)=j:=by rw[wrap_i64 (by omega)];omega
   have hlc:=bZ l[j] l[i];rw[dk]at hlc;simp[↓al,hi,hj,g1,g2,g3,g4,hw,show 0<i by omega];refine aM.rA hlc ?_;simp[cE,show i≤l.length by omega];refine eW.fM i (λ_=>True) [0,2,4,7,8,9,48,49,50] (λm=>[(50,.int .i64 m)]) (λi=>[]) [.keep [0,2,4,7,8,9,48,49,50]] ?_;simp;refine⟨λm hm K2 qQ=> ?_,λK2=> ?_⟩
   ·have wM:m<l.length:=by omega
    have vS:m<min i l.length:=by omega
    have hxm:l[m]? =some l[m]:=gJ wM;have hu:=Ol m i wM hi hm;by_cases hp:l[i].peer=l[m].peer
    ·have hk:¬l[i].kind=l[m].kind:=λe=>hu ⟨hp,e⟩;simp[↓al,hm,wM,hp,hk,eI hm (by omega)];refine⟨vS,[.keep [0,2,4,7,8,9,48,49,50],.dr 6],?_⟩;simp;exact qQ _ (by simp)
    ·simp[↓al,hm,wM,wG,hp,eI hm (by omega)];refine⟨vS,[.keep [0,2,4,7,8,9,48,49,50],.dr 6],?_⟩;simp;exact qQ _ (by simp)
   ·simp[↓al,↓al,eI hi (by omega)];refine⟨[.keep [0,2,7,8,9],.dr 4],?_⟩;simp;exact hK _ (by simp[cE])
 ·simp[↓al,↓al];refine aA.plain [] ?_;simp
theorem Ri {d:bh} (h:Rh d) (hn:0≤d.now) (hp:IQ d.an) (hh:∀p∈d.an,nI d p):aL Pg 189 [gP d] (.bl true):=by
 refine ae.intro T.gF (by simp[F.gF]) ?_;have hl:=h.len;have oJ:=hp.1
 have hv:aL Pg 286 [cE d.timers] (.bl true):=
  Eg hl h.so (λt ht=>by obtain⟨r1,r2,r3,r4,_⟩:=h.rg t ht;exact⟨r1,r2,by omega,r4⟩) h.un
 simp[F.gF,aj,av];refine ai.rA hv ?_;simp;refine eW.fM d.timers.length (λ_=>True) [1,2,13,14,15] (λi=>[(15,.int .i64 i)]) (λi=>[]) [.keep [1,2,13,14,15]] ?_;simp;refine⟨λi hi K hK=> ?_,λK=> ?_⟩
 ·have hx:d.timers[i]? =some d.timers[i]:=gJ hi;obtain⟨r1,r2,r3,r4,j,hj,he,h4⟩:=h.rg _ (JbJ hi);have hf:=Kd hp hj;rw[←he]at hf;have Hb:¬d.timers[i].at_≤d.now:=by omega
  have hn2:¬(j:Int)<0:=by omega
  have hy:d.an[j]? =some d.an[j]:=gJ hj;simp[↓al,hi];refine ai.rA hf ?_;by_cases hk:d.timers[i].kind=4
  ·have h4':=h4 hk;simp[Hb,hn2,hk,hj,h4',eI hi (by omega)];refine⟨[.keep [1,2,13,14,15],.dr 4],?_⟩;simp;exact hK _ (by simp)
  ·simp[Hb,hn2,hk,eI hi (by omega)];refine⟨[.keep [1,2,13,14,15],.dr 4],?_⟩;simp;exact hK _ (by simp)
 ·simp[↓al,↓al];refine eW.fM d.an.length (λ_=>True) [1,2,48,49,50] (λi=>[(50,.int .i64 i)]) (λi=>[]) [.keep [1,2,48,49,50]] ?_;simp;refine⟨λi hi K hK=> ?_,λK=> ?_⟩
  ·have hx:d.an[i]? =some d.an[i]:=gJ hi;have h5:=(hh _ (JbJ hi)).hand;have h6:d.an[i].hand.has=false:=by rw[h5];rfl
   have hs:aL Pg 287 [cE d.timers,aG d.an[i].b8,.int .i64 1] (.bl false):=
    ado hl (λt ht=>by have:=(h.rg t ht).1;omega)
   simp[↓al,hi];refine aM.rA hs ?_;simp[h6,eI hi (by omega)];refine⟨[.keep [1,2,48,49,50],.dr 7],?_⟩;simp;exact hK _ (by simp)
  ·simp[↓al,↓al];refine aA.plain [] ?_;simp
def AJ (r:rF):List Int:=tW [r.p,r.c,r.n]
def qw (p:bM):List gh:=(AJ p.ring).map (λx=>⟨x,p.b8,true⟩)
theorem Rj (r:rF):(AJ r).length≤3:=zL _
structure sK (d:bh):Prop where
 so:tY d.aR
 pm:d.aR.Perm (d.an.flatMap qw)
theorem tY.lt {l:List gh} (h:tY l):∀(k i:Nat) (hk:i+k+1<l.length),l[i].index<l[i+k+1].index
 |0,i,hk=>h.2 i hk
 |k+1,i,hk=>Int.lt_trans (tY.lt h k i (by omega)) (h.2 (i+k+1) (by omega))
theorem tY.lt' {l:List gh} (h:tY l) {i j:Nat} (G6:i<j) (hj:j<l.length):l[i].index<l[j].index:=by
 obtain⟨k,rfl⟩:∃k,j=i+k+1:=⟨j-i-1,by omega⟩
 exact h.lt k i hj
theorem tY.nodup {l:List gh} (h:tY l):(l.map (λs=>s.index)).Nodup:=by
 rw[List.nodup_iff_pairwise_ne,List.pairwise_map,JkX];intro i j hi hj G6 e;have:=h.lt' G6 hj;omega
theorem Rk (p:bM):(qw p).map (λs=>s.index)=AJ p.ring:=by simp[qw,Function.comp_def]
theorem sK.nd {d:bh} (h:sK d):(d.an.flatMap (λp=>AJ p.ring)).Nodup:=by
 have h1:=h.so.nodup
 have h2:(d.aR.map (λs=>s.index)).Perm (d.an.flatMap (λp=>AJ p.ring)):=by
  have:=h.pm.map (λs=>s.index);rw[List.map_flatMap]at this;simpa[Rk]using this
 exact h2.nodup_iff.1 h1
theorem L4 {α β:Type} {f:α->List β}:∀ {l:List α},(l.flatMap f).Nodup->∀x∈l,(f x).Nodup
 |
  y::l,h,x,hx=>by
  rw[JsX,JgJ]at h
  rcases cJ.1 hx with rfl|hx
  ·exact h.1
  ·exact L4 h.2.1 x hx
theorem sK.nd1 {d:bh} (h:sK d) {p:bM} (hp:p∈d.an):(AJ p.ring).Nodup:=L4 h.nd p hp
theorem L5 {l:List bM}:(l.flatMap qw).length≤3*l.length:=by
 induction l with
 |nil=>simp
 |
  cons p l ih=>
  rw[JsX,JaJ,JcQ]
  have:(qw p).length≤3:=by rw[qw,JaX];exact Rj _
  omega
theorem sK.len {d:bh} (h:sK d) (hp:d.an.length≤3):d.aR.length≤9:=by
 have h1:=h.pm.length_eq;have h2:=L5 (l:=d.an);omega
theorem sK.find {d:bh} (h:sK d) (hp:d.an.length≤3) {p:bM} (hm:p∈d.an) {x:Int} (hx:x∈AJ p.ring):
  aL Pg 44 [bK d.aR,.int .u32 x] (.tup [aV ⟨x,p.b8,true⟩,.bl true]):=by
 have iA:(⟨x,p.b8,true⟩:gh)∈d.aR:=by
  rw[h.pm.mem_iff,JkW];exact⟨p,hm,by rw[qw,JgX];exact⟨x,hx,rfl⟩⟩
 obtain⟨f,hf,he⟩:=JmJ.1 iA;have hl:=h.len hp;have:=GF (l:=d.aR) (by omega) (x:=x) hf (by rw[he]) (λj hj hjf=>by have:=h.so.lt' hjf hf;rw[he]at this;simp at this;omega);rw[he]at this;exact this
def Of (l:List bM) (i:Nat):Nat:=((l.take i).flatMap qw).length
theorem Rm {l:List bM} {i:Nat} (h:i<l.length):Of l (i+1)=Of l i+(AJ l[i].ring).length:=by
 unfold Of;rw[JcZ h,List.flatMap_append,JaJ];simp[qw]
theorem adp (l:List bM) (i:Nat):Of l i≤3*i:=by
 have:=L5 (l:=l.take i);rw[lJ]at this;unfold Of;omega
theorem Wy {d:bh} (h:sK d) (hp:IQ d.an) (hh:∀p∈d.an,nI d p):aL Pg 188 [gP d] (.bl true):=by
 refine ae.intro T.im (by simp[F.im]) ?_;have hl:=h.len hp.1;have oJ:=hp.1;have hv:=Ko (by omega) h.so;simp[F.im,aj,av];refine ai.rA hv ?_;simp;refine eW.fM d.an.length (λ_=>True) [1,2,3,22,23,24] (λi=>[(3,.int .i64 (Of d.an i)),(24,.int .i64 i)]) (λi=>[]) [.keep [1,2,3,22,23,24]] ?_;simp[show Of d.an 0=0 from rfl];refine⟨λi hi K hK=> ?_,λK=> ?_⟩
 ·have hx:d.an[i]? =some d.an[i]:=gJ hi;have hm:=JbJ hi;have h5:=(hh _ hm).hand;have h6:d.an[i].hand.has=false:=by rw[h5];rfl
  have Ha:=h.nd1 hm;have hfn:∀x∈AJ d.an[i].ring,aL Pg 44 [bK d.aR,.int .u32 x] (.tup [aV ⟨x,d.an[i].b8,true⟩,.bl true]):=λx hx=>h.find oJ hm hx;have hLc:=gD d.an[i].ring;have hc:=Rm hi;have rh:=adp d.an i;have hl3:=Rj d.an[i].ring;have e3:tW [d.an[i].ring.p,d.an[i].ring.c,d.an[i].ring.n]=AJ d.an[i].ring:=rfl;rw[e3]at hLc;generalize AJ d.an[i].ring=L at*;rw[hc]at hK;simp[↓al,hi,h6];refine ai.rA hLc ?_;simp;refine eW.fM L.length (λ_=>True) [1,2,3,5,22,23,24,57,58,59] (λj=>[(3,.int .i64 ((Of d.an i:Int)+j)),(59,.int .i64 j)]) (λi=>[]) [.keep [1,2,3,5,22,23,24,57,58,59]] ?_;simp;refine⟨λj hj K2 qQ=> ?_,λK2=> ?_⟩
  ·have hy:L[j]? =some L[j]:=gJ hj;have hf:=hfn _ (JbJ hj);have Xn:IntKind.i64.wrap ((Of d.an i:Int)+j+1)=(Of d.an i:Int)+((j:Int)+1):=by rw[wrap_i64 (by omega)];omega
   simp[↓al,hj];refine ai.rA hf ?_;simp[Xn,eI hj (by omega)];refine⟨[.keep [1,2,3,5,22,23,24,57,58,59],.dr 10],?_⟩;simp;exact qQ _ (by simp)
  ·simp[↓al,↓al];refine ai.rA hLc ?_;simp;refine eW.fM L.length (λ_=>True) [1,2,3,5,12,22,23,24,90,91,92] (λj=>[(92,.int .i64 j)]) (λi=>[]) [.keep [1,2,3,5,12,22,23,24,90,91,92]] ?_;simp;refine⟨λj hj K3 hK3=> ?_,λK3=> ?_⟩
   ·have hy:L[j]? =some L[j]:=gJ hj;simp[↓al,hj,ow,show j≤L.length by omega];refine eW.fM j (λ_=>True) [1,2,3,5,12,14,22,23,24,90,91,92,99,100,101] (λm=>[(101,.int .i64 m)]) (λi=>[]) [.keep [1,2,3,5,12,14,22,23,24,90,91,92,99,100,101]] ?_;simp;refine⟨λm hm2 K4 hK4=> ?_,λK4=> ?_⟩
    ·have wM:m<L.length:=by omega
     have vS:m<min j L.length:=by omega
     have hxm:L[m]? =some L[m]:=gJ wM
     have cS:¬L[j]=L[m]:=by
      intro e;exact JkX.1 (List.nodup_iff_pairwise_ne.1 Ha) m j wM hj hm2 e.symm
     simp[↓al,hm2,vS,cS,eI hm2 (by omega)];refine⟨[.keep [1,2,3,5,12,14,22,23,24,90,91,92,99,100,101]],?_⟩;simp;exact hK4 _ (by simp)
    ·simp[↓al,↓al,eI hj (by omega)];refine⟨[.keep [1,2,3,5,12,22,23,24,90,91,92]],?_⟩;simp;exact hK3 _ (by simp[ow])
   ·simp[↓al,↓al,eI hi (by omega)];refine⟨[.keep [1,2,3,22,23,24],.dr 5],?_⟩;simp;exact hK _ (by simp)
 ·have hcn:Of d.an d.an.length=d.aR.length:=by
   unfold Of;rw[JcX];exact h.pm.length_eq.symm
  simp[↓al,↓al,hcn];refine aA.plain [] ?_;simp
end Go.Ab
