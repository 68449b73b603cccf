/- Functions of the program and of the document, as the abstract reading walks them, part 5. No condition. -/
import Derived.Test.YtlcojgogfjlceaaGreatDoorB4
import Derived.Test.YtlcojgogfjlceaaGreatDoorA5
import Derived.Laws.BitsAllLaws
set_option maxRecDepth 10000
set_option maxHeartbeats 4000000
set_option linter.all false
noncomputable section
namespace Go.Ab
@[simp] theorem ahM:dS 1=[KB]:=rfl
structure uo where
 l:List UInt8
 at_:Nat
def eY (c:uo):PV:= .st 2 [aP c.l,.int .i64 c.at_]
@[simp] theorem Ai (e:uo):Pure (eY e):=by simp[eY]
@[simp↓] theorem Z8 (e:uo) (r:List Step):aM (eY e) (.f 0 0::r)=aM (aP e.l) r:=by simp[eY]
@[simp↓] theorem Z9 (e:uo) (r:List Step):aM (eY e) (.f 1 1::r)=aM (.int .i64 e.at_) r:=by simp[eY,aB]
@[simp↓] theorem aaa (e:uo) (n:Nat):bT (eY e) [.f 1 1] (.int .i64 n)=some (eY {e with at_:=n}):=by simp[eY,aB]
structure iE (c:uo):Prop where
 len:c.l.length≤1048576
 at_:c.at_≤c.l.length
theorem Km (c:uo):ae Pg 37 [.pt KB [] 0] [.box (eY c)] (λr fp=>r= .bl (decide (c.at_<c.l.length))∧fp=[.box (eY c)]):=by
 refine ae.intro (aC R.jO.2) (by simp[R.jO]) ?_;simp[R.jO,aj,av];refine aA.with [] [KB] ?_;simp
def oN (c:uo) (n:Nat):Nat×uo:=if h:c.at_<c.l.length∧1≤n then((c.l[c.at_]'h.1).toNat%n,{c with at_:=c.at_+1})else(0,c)
theorem dF {c:uo} (h:iE c) (n:Nat):iE (oN c n).2:=by
 unfold oN;split
 ·rename_i hh;exact⟨h.len,hh.1⟩
 ·exact h
theorem dG (c:uo) {n:Nat} (h:1≤n):(oN c n).1<n:=by
 unfold oN;split
 ·exact JdZ _ h
 ·exact h
theorem bh {c:uo} (h:iE c) (n:Nat) (hn:n≤1048576):ae Pg 15 [.pt KB [] 0,.int .i64 n] [.box (eY c)] (λr fp=>r= .int .i64 (oN c n).1∧fp=[.box (eY (oN c n).2)]):=by
 refine ae.intro (aC R.jP.2) (by simp[R.jP]) ?_;have hlen:=h.len;simp[R.jP,aj,av];refine ai.gA [KB] [] [.box (eY c)] (Km c) (by simp[ab]) (by simp[az]) (by simp[ab,af]) ?_;simp[aI,az,aE];by_cases hl:c.at_<c.l.length
 ·by_cases h1:1≤n
  ·have hw:IntKind.i64.wrap ((c.at_:Int)+1)=((c.at_+1:Nat):Int):=by rw[wrap_i64 (by omega)];rfl
   have hx:c.l[c.at_]? =some c.l[c.at_]:=gJ hl;have hb:=(c.l[c.at_]).toNat_lt;have hm:=Nat.mod_le (c.l[c.at_]).toNat n;have hq:IntKind.i64.wrap (((c.at_+1:Nat):Int)-1)=(c.at_:Int):=by rw[wrap_i64 (by omega)];omega
   have hw3:IntKind.i64.wrap (((c.l[c.at_]).toNat:Int))=((c.l[c.at_]).toNat:Int):=wrap_i64 (by omega)
   have hw4:IntKind.i64.wrap (((c.l[c.at_]).toNat:Int).tmod n)=((c.l[c.at_].toNat%n:Nat):Int):=by
    rw[←JsW];exact wrap_i64 (by omega)
   simp[hl,show¬(n:Int)<1 by omega,hw,hq,-Int.natCast_add,-Int.natCast_emod];refine⟨λh'=>absurd h' (by omega),λ_=> ?_⟩;simp only[u8];simp[hw3,show¬n=0 by omega];refine aA.with [] [KB] ?_;simp[oN,hl,h1];rw[←JsW];rfl
  ·have h0:n=0:=by omega
   subst h0;simp[hl];refine aA.with [] [KB] ?_;simp[oN]
 ·simp[hl];intro _;refine aA.with [] [KB] ?_;simp[oN,hl]
theorem DI (a b:Nat) (ha:a<4611686018427387904) (hb:b<4611686018427387904):bits .or .i64 (a:Int) (b:Int)=((a|||b:Nat):Int):=by
 have hx:a|||b<2^62:=JoV (by omega) (by omega)
 have h1:(BitVec.ofInt 64 (a:Int)).toNat=a:=by
  rw[JtZ,BitVec.toNat_ofNat];exact JiJ (by omega)
 have h2:(BitVec.ofInt 64 (b:Int)).toNat=b:=by
  rw[JtZ,BitVec.toNat_ofNat];exact JiJ (by omega)
 show IntKind.i64.wrap ((BitVec.ofInt 64 (a:Int)|||BitVec.ofInt 64 (b:Int)).toNat:Int)=_;rw[BitVec.toNat_or,h1,h2];exact wrap_i64 (by omega)
theorem ai.auM {P:Program} {s:St} {α:Type} {d:Option Nat} {f:FuncId} {args bC:List PV} {c:uo} {Φ:α->Prop} {r:α->PV} {c':α->uo} {K:St->Prop} {t:Tg K} (k:Nat) (hA:ae P f bC [.box (eY c)] λx fp=>∃w,Φ w∧x=r w∧fp=[.box (eY (c' w))]) (hb:get s.bx k=some (.box (eY c)))
  (td:ah (bR [k]) args=true) (ha:fI (aR (bz [k]) args)=bC) (hr:∀w,Pure (r w)) (h:∀w,Φ w->K ({s with bx:=put s.bx k (.box (eY (c' w)))}.put d (r w))):ai P s d f args K t:=by
 subst ha;refine⟨[k],[],[.box (eY c)],_,by simp[getAll,hb],by simp,by simp,td,by simp[ab],ae.X6 (by simpa[az,(Ai c).aE]using hA),?_⟩;rintro x fp ⟨w,hw,rfl,rfl⟩;refine⟨⟨rfl,(hr w).refs _,by simp[ab]⟩,?_⟩;simpa[aI,az,(Ai _).aE,(hr w).aE]using h w hw
theorem ai.cds {P:Program} {s:St} {d:Option Nat} {f:FuncId} {args bC:List PV} {c c':uo} {r:PV} {K:St->Prop} {t:Tg K} (k:Nat) (hA:ae P f bC [.box (eY c)] λx fp=>x=r∧fp=[.box (eY c')]) (hb:get s.bx k=some (.box (eY c)))
  (td:ah (bR [k]) args=true) (ha:fI (aR (bz [k]) args)=bC) (hr:Pure r) (h:K ({s with bx:=put s.bx k (.box (eY c'))}.put d r)):ai P s d f args K t:=by
 refine ai.gen [k] [] [.box (eY c)] hA (by simp[getAll,hb]) (by simp) (by simp) td (by simp[ab]) ha (by simp[az]) ⟨rfl,hr.refs _,by simp[ab]⟩ ?_;simpa[aI,az,(Ai c').aE,hr.aE]using h
theorem ai.jQ {P:Program} {s:St} {d:Option Nat} {f:FuncId} {args bC:List PV} {c c':uo} {r:PV} {K:St->Prop} {t:Tg K} (k:Nat) (hA:ae P f bC [.box (eY c)] λx fp=>x=r∧fp=[.box (eY c')]) (h:K ({s with bx:=put s.bx k (.box (eY c'))}.put d r)) (hb:get s.bx k=some (.box (eY c)):=by simp) (td:ah (bR [k]) args=true:=by simp[ah,af,bR,idx]) (ha:fI (aR (bz [k]) args)=bC:=by simp[aR,aE,bz,idx]) (hr:Pure r:=by simp):ai P s d f args K t:=ai.cds k hA hb td ha hr h
theorem ai.um {P:Program} {s:St} {α:Type} {d:Option Nat} {f:FuncId} {args bC:List PV} {c:uo} {Φ:α->Prop} {r:α->PV} {c':α->uo} {K:St->Prop} {t:Tg K} (k:Nat) (hA:ae P f bC [.box (eY c)] λx fp=>∃w,Φ w∧x=r w∧fp=[.box (eY (c' w))]) (h:∀w,Φ w->K ({s with bx:=put s.bx k (.box (eY (c' w)))}.put d (r w))) (hb:get s.bx k=some (.box (eY c)):=by simp) (td:ah (bR [k]) args=true:=by simp[ah,af,bR,idx]) (ha:fI (aR (bz [k]) args)=bC:=by simp[aR,aE,bz,idx]) (hr:∀w,Pure (r w):=by simp):ai P s d f args K t:=ai.auM k hA hb td ha hr h
def bool (c:uo):Bool×uo:=(decide ((oN c 2).1=1),(oN c 2).2)
theorem DK {c:uo} (h:iE c):ae Pg 24 [.pt KB [] 0] [.box (eY c)] (λr fp=>r= .bl (bool c).1∧fp=[.box (eY (bool c).2)]):=by
 refine ae.intro (aC R.jR.2) (by simp[R.jR]) ?_;simp[R.jR,aj,av];refine ai.jQ KB (bh h 2 (by omega)) ?_;simp;refine aA.with [] [KB] ?_;simp[bool,ab,az];omega
theorem Ff {c:uo} (h:iE c) (n:Nat) (hn:n≤16777216) (h1:1≤n):ae Pg 14 [.pt KB [] 0,.int .i64 n] [.box (eY c)] (λr fp=>∃m c',iE c'∧m<n∧r= .int .i64 (m:Nat)∧fp=[.box (eY c')]):=by
 refine ae.intro (aC R.kK.2) (by simp[R.kK]) ?_;simp[R.kK,aj,av,show¬(n:Int)<1 by omega];refine ai.jQ KB (bh h 256 (by omega)) ?_;have l1:=dG c (n:=256) (by omega);have o1:=dF h 256;generalize oN c 256=a at*;simp;refine ai.jQ KB (bh o1 256 (by omega)) ?_;have l2:=dG a.2 (n:=256) (by omega);have o2:=dF o1 256;generalize oN a.2 256=b at*;simp;refine ai.jQ KB (bh o2 256 (by omega)) ?_;have l3:=dG b.2 (n:=256) (by omega);have o3:=dF o2 256;generalize oN b.2 256=e at*;simp;refine⟨by omega,?_⟩
 have w1:IntKind.i64.wrap ((a.1:Int)*2^min 16 IntKind.i64.bits)=((a.1*65536:Nat):Int):=by
  simp[IntKind.bits];rw[wrap_i64 (by omega)]
 have w2:IntKind.i64.wrap ((b.1:Int)*2^min 8 IntKind.i64.bits)=((b.1*256:Nat):Int):=by
  simp[IntKind.bits];rw[wrap_i64 (by omega)]
 have hx:a.1*65536|||b.1*256<2^24:=JoV (by omega) (by omega);have hy:(a.1*65536|||b.1*256)|||e.1<2^24:=JoV hx (by omega);rw[w1,w2,DI _ _ (by omega) (by omega),DI _ _ (by omega) (by omega)];generalize (a.1*65536|||b.1*256)|||e.1=m at*;generalize a.1*65536|||b.1*256=m2 at*;have ht:((m:Int)).tmod n=((m%n:Nat):Int):=by rw[←JsW]
 refine aA.with [] [KB] ?_;simp[ab,az,-Int.natCast_emod];exact⟨m%n,e.2,o3,JdZ _ (by omega),ht,rfl⟩
theorem dM {i n:Nat} (h:i<n) (hn:n≤1048576):IntKind.i64.wrap ((i:Int)+1)=(i:Int)+1:=wrap_i64 (by omega)
theorem LS (m:Int):∃b:UInt8,PV.int .u8 (IntKind.u8.wrap m)=u8 b:=by
 have h:0≤IntKind.u8.wrap m∧IntKind.u8.wrap m<256:=by
  simp only[IntKind.wrap,IntKind.bits,IntKind.signed];simp;omega
 refine⟨UInt8.ofNat (IntKind.u8.wrap m).toNat,?_⟩;simp only[u8];congr 1;rw[JnW];omega
def GH (f:Nat->UInt8) (n i:Nat):List UInt8:=(List.range n).map λj=>if j<i then f j else 0
@[simp] theorem aab (f:Nat->UInt8) (n i:Nat):(GH f n i).length=n:=by simp[GH]
theorem NV (f:Nat->UInt8) (n:Nat):List.replicate n (PV.int .u8 0)=(GH f n 0).map u8:=by
 apply JpZ<;>simp[GH,u8]
theorem Ro (f:Nat->UInt8) (n i:Nat):((GH f n i).map u8).set i (u8 (f i))=(GH f n (i+1)).map u8:=by
 rw[←JfJ];congr 1;apply JpZ
 ·simp
 ·intro j h1 h2;simp only[GH,List.getElem_set,List.getElem_map,List.getElem_range];by_cases e:i=j
  ·subst e;simp
  ·simp only[e,if_false];by_cases e2:j<i
   ·rw[if_pos e2,if_pos (by omega)]
   ·rw[if_neg e2,if_neg (by omega)]
theorem IJ {c:uo} (h:iE c) (n:Nat) (hn:n≤1048576):ae Pg 36 [.pt KB [] 0,.int .i64 n] [.box (eY c)] (λr fp=>∃w:List UInt8×uo,(iE w.2∧w.1.length=n)∧r=aP w.1∧fp=[.box (eY w.2)]):=by
 refine ae.intro (aC R.jr.2) (by simp[R.jr]) ?_;simp[R.jr,aj,av];refine⟨⟨by omega,by omega⟩,?_⟩;refine ai.jQ KB (bh h 256 (by omega)) ?_;have o1:=dF h 256;generalize oN c 256=a at*;simp;generalize IntKind.i64.wrap (IntKind.i64.wrap (2*↑a.snd.at_)+1)=st
 have hf:∃f:Nat->UInt8,∀i:Nat,PV.int .u8 (IntKind.u8.wrap (IntKind.i64.wrap ((a.1:Int)+IntKind.i64.wrap ((i:Int)*st))))=u8 (f i):=
  ⟨λi=>Classical.choose (LS _),λi=>Classical.choose_spec (LS _)⟩
 obtain⟨f,hf⟩:=hf;rw[NV f];refine eW.fD n (λ_=>True) [0,4,5,6,7,20,21] (λi=>[(21,.int .i64 i)]) (λi=>[(10,.arr 1 ((GH f n i).map u8))]) [.keep [0,4,5,6,7,20,21]] ?_;simp;refine⟨λi hi K hK=> ?_,λK=> ?_⟩
 ·simp[↓al,hi,hf,dM hi hn];refine⟨⟨rfl,rfl⟩,[.keep [0,4,5,6,7,20,21]],?_⟩;simp;exact hK _ (by simp[Ro])
 ·simp[↓al,↓al];refine aA.with [.keep [4],.fz 10] [KB] ?_;simp[ab,az];exact⟨GH f n n,a.2,⟨o1,by simp⟩,by rw[tJ (by simp)];rfl,rfl⟩
theorem qb {c:uo} (h:iE c):ae Pg 13 [.pt KB [] 0] [.box (eY c)] (λr fp=>∃w:Key×uo,iE w.2∧r=aG w.1∧fp=[.box (eY w.2)]):=by
 refine ae.intro (aC R.kL.2) (by simp[R.kL]) ?_;simp[R.kL,aj,av];refine lH.run [KB] rfl ?_;simp;refine ai.um KB (IJ h 32 (by omega)) ?_;rintro⟨l,c'⟩ ⟨hc,hl⟩;simp at hc hl;have Bc:l.take 32=l:=tJ (by omega);simp[hl,aP]
 have e:PV.ar 1 32 (List.take 32 (List.map u8 l)++List.drop 32 (zr 32 (PV.int .u8 0)))=aG ⟨l,hl⟩:=by
  rw[tJ (by simp[hl]),JgX (by simp[cg])];simp[aG]
 rw[e];refine aA.with [] [KB] ?_;simp[ab,az];exact⟨⟨l,hl⟩,c',hc,rfl,rfl⟩
def AV (r:y7):Prop:=1≤r.No∧r.No≤r.uy∧r.uy≤18446744073709543423∧1000≤r.ret∧r.ret≤3000∧2000≤r.YM∧r.YM≤6000∧r.cot=30000∧20000≤r.Qk∧r.Qk≤r.sN∧r.sN≤100000∧r.ret≤r.att∧r.att≤20*r.ret∧1≤r.load∧r.load≤6∧1≤r.vh∧r.vh≤8
theorem AV.mk' {a b c d e f g i j k:Int} (h1:1≤a) (h2:a≤b) (h3:b≤18446744073709543423) (h4:1000≤f) (h5:f≤3000) (h6:2000≤g) (h7:g≤6000) (h8:20000≤c) (h9:c≤d) (h10:d≤100000) (h11:f≤e) (Hh:e≤20*f) (h13:1≤j) (h14:j≤6) (h15:1≤k) (OJ:k≤8) (h17:i=30000:=by rfl):AV ⟨a,b,c,d,e,f,g,i,j,k⟩:=
 ⟨h1,h2,h3,h4,h5,h6,h7,h17,h8,h9,h10,h11,Hh,h13,h14,h15,OJ⟩
theorem IK {c:uo} (h:iE c):ae Pg 12 [.pt KB [] 0] [.box (eY c)] (λr fp=>∃w:y7×uo,(AV w.1∧iE w.2)∧r=cO w.1∧fp=[.box (eY w.2)]):=by
 refine ae.intro T.eQ (by simp[F.eQ]) ?_;simp[F.eQ,aj,av];refine ai.jQ KB (bh h 40 (by omega)) ?_;have l0:=dG c (n:=40) (by omega);have o0:=dF h 40;generalize oN c 40=x0 at*;simp(disch:=omega);refine ai.jQ KB (bh o0 20 (by omega)) ?_;have l1:=dG x0.2 (n:=20) (by omega);have o1:=dF o0 20;generalize oN x0.2 20=x1 at*;simp(disch:=omega);refine ai.jQ KB (bh o1 5 (by omega)) ?_;have l2:=dG x1.2 (n:=5) (by omega);have o2:=dF o1 5;generalize oN x1.2 5=x2 at*;simp(disch:=omega);refine ai.jQ KB (bh o2 5 (by omega)) ?_;have l3:=dG x2.2 (n:=5) (by omega);have o3:=dF o2 5;generalize oN x2.2 5=x3 at*;simp(disch:=omega);refine ai.jQ KB (bh o3 6 (by omega)) ?_;have l4:=dG x3.2 (n:=6) (by omega);have o4:=dF o3 6;generalize oN x3.2 6=x4 at*;simp(disch:=omega);refine ai.jQ KB (bh o4 8 (by omega)) ?_;have l5:=dG x4.2 (n:=8) (by omega);have o5:=dF o4 8;generalize oN x4.2 8=x5 at*;simp(disch:=omega);refine lH.run [KB] rfl ?_;simp(disch:=omega);refine ai.jQ KB (bh o5 60 (by omega)) ?_;have l6:=dG x5.2 (n:=60) (by omega);have o6:=dF o5 60;generalize oN x5.2 60=x6 at*;simp(disch:=omega);refine lH.run [KB] rfl ?_;simp(disch:=omega);refine ai.jQ KB (bh o6 40 (by omega)) ?_;have l7:=dG x6.2 (n:=40) (by omega);have o7:=dF o6 40;generalize oN x6.2 40=x7 at*;simp(disch:=omega);refine lH.run [KB] rfl ?_;simp(disch:=omega);refine ai.jQ KB (bh o7 5 (by omega)) ?_;have l8:=dG x7.2 (n:=5) (by omega);have o8:=dF o7 5;generalize oN x7.2 5=x8 at*;simp(disch:=omega);refine ai.jQ KB (bh o8 4 (by omega)) ?_;have l9:=dG x8.2 (n:=4) (by omega);have o9:=dF o8 4;generalize oN x8.2 4=x9 at*;simp(disch:=omega)
 have hP:∃Q:Int,IntKind.i64.wrap ((1000+(x2.1:Int)*500)*(1+(x8.1:Int)))=Q∧1000+(x2.1:Int)*500≤Q∧Q≤20*(1000+(x2.1:Int)*500):=by
  have hc:x8.1=0∨x8.1=1∨x8.1=2∨x8.1=3∨x8.1=4:=by omega
  rcases hc with h|h|h|h|h<;>rw[h]
  ·exact⟨_,wrap_i64 (by omega),by omega,by omega⟩
  ·exact⟨_,wrap_i64 (by omega),by omega,by omega⟩
  ·exact⟨_,wrap_i64 (by omega),by omega,by omega⟩
  ·exact⟨_,wrap_i64 (by omega),by omega,by omega⟩
  ·exact⟨_,wrap_i64 (by omega),by omega,by omega⟩
 obtain⟨Q,hQ,hQ1,hQ2⟩:=hP;rw[hQ];refine⟨λhz=> ?_,λhz=> ?_⟩
 ·refine aA.with [] [KB] ?_;simp[ab,az];exact⟨⟨1152921504606846976,18446744073709543423,20000+(x1.1:Int)*1000,20000+(x1.1:Int)*1000+(x7.1:Int)*1000,Q,1000+(x2.1:Int)*500,2000+(x3.1:Int)*1000,30000,1+(x4.1:Int),1+(x5.1:Int)⟩,x9.2,⟨AV.mk' (by omega) (by omega) (by omega) (by omega) (by omega) (by omega) (by omega) (by omega) (by omega) (by omega) (by omega) (by omega) (by omega) (by omega) (by omega) (by omega),o9⟩,rfl,rfl⟩
 ·refine aA.with [] [KB] ?_;simp[ab,az];exact⟨⟨1+(x0.1:Int),1+(x0.1:Int)+(x6.1:Int),20000+(x1.1:Int)*1000,20000+(x1.1:Int)*1000+(x7.1:Int)*1000,Q,1000+(x2.1:Int)*500,2000+(x3.1:Int)*1000,30000,1+(x4.1:Int),1+(x5.1:Int)⟩,x9.2,⟨AV.mk' (by omega) (by omega) (by omega) (by omega) (by omega) (by omega) (by omega) (by omega) (by omega) (by omega) (by omega) (by omega) (by omega) (by omega) (by omega) (by omega),o9⟩,rfl,rfl⟩
theorem GI:∀l m:List UInt8,PV.lL (l.map u8) (m.map u8)=decide (l=m)
 |[],[]=>by simp[PV.lL]
 |[],_::_=>by simp[PV.lL]
 |_::_,[]=>by simp[PV.lL]
 |
  a::l,b::m=>by
  have ih:=GI l m
  simp only[JdX,PV.lL,ih,u8,PV.beq]
  by_cases h:a=b
  ·subst h;simp
  ·have:¬(a.toNat=b.toNat):=λe=>h (UInt8.toNat_inj.1 e)
   simp[h]
   intro e;exact absurd (by omega) this
theorem Key.ext' {a b:Key} (h:a.l=b.l):a=b:=by cases a;cases b;simp_all
instance:DecidableEq Key:=λa b=>if h:a.l=b.l then isTrue (Key.ext' h)else isFalse (λe=>h (by rw[e]))
theorem wT (a b:Key):PV.beq (aG a) (aG b)=decide (a=b):=by
 have:(a=b)↔a.l=b.l:=⟨λe=>by rw[e],Key.ext'⟩
 simp[aG,PV.beq,GI,this]
def WN (a b:Key):Bool:=Op.bytesLess a.l b.l
def eg (a b:cV):Bool:=if a.at_≠b.at_ then decide (a.at_<b.at_)else if a.peer≠b.peer then WN a.peer b.peer else decide (a.kind<b.kind)
theorem bY (a b:cV):aK Pg 39 [bj a,bj b] (.bl (eg a b)):=by
 refine ae.intro (aC R.bY.2) (by simp[R.bY]) ?_;by_cases h1:a.at_=b.at_
 ·by_cases h2:a.peer=b.peer
  ·simp[R.bY,aj,av,h1,h2];refine aA.plain [] ?_;simp[eg,h1,h2]
  ·simp[R.bY,aj,av,h1,h2,wT];have ta:(a.peer.l.map u8).take 32=a.peer.l.map u8:=tJ (by simp[a.peer.h]);have tb:(b.peer.l.map u8).take 32=b.peer.l.map u8:=tJ (by simp[b.peer.h]);simp[aG,ta,tb];refine aA.plain [] ?_;simp[eg,WN,h1,h2]
 ·simp[R.bY,aj,av,h1];refine aA.plain [] ?_;simp[eg,h1]
def oE (k:Key) (n:Int) (x:cV):Bool:= !(decide (x.peer=k)&&decide (x.kind=n))
def bg (l:List cV) (k:Key) (n:Int):List cV:=l.filter (oE k n)
theorem mH {α:Type} (p:α->Bool) {l:List α} {i:Nat} (h:i<l.length):(l.take (i+1)).filter p=(l.take i).filter p++(if p l[i]=true then [l[i]]else []):=by
 rw[JcZ h,JkZ];congr 1;by_cases hk:p l[i]=true<;>simp[hk]
theorem vD {α:Type} (p:α->Bool) (l:List α) (i:Nat):((l.take i).filter p).length≤i:=by
 have:=JfZ p (l.take i);rw[lJ]at this;omega
theorem gH {l:List cV} (h:l.length≤1048576) (k:Key) (n:Int):aK Pg 38 [cC l,aG k,.int .i64 n] (cC (bg l k n)):=by
 refine ae.intro (aC R.gH.2) (by simp[R.gH]) ?_;simp[R.gH,aj,av,cC];refine eW.fD l.length (λ_=>True) [2,4,6,7,10,11,12] (λi=>[(7,.rs 7 [] 0 ((l.take i).filter (oE k n)).length ((l.take i).filter (oE k n)).length 34 .tip),(12,.int .i64 i)]) (λi=>[(7,.arr 34 (((l.take i).filter (oE k n)).map bj))]) [.vt 7 7 34] ?_;simp;refine⟨λi hi K hK=> ?_,λK=> ?_⟩
 ·have hx:l[i]? =some l[i]:=gJ hi;have hlen:=vD (oE k n) l i;rw[mH _ hi]at hK;generalize (l.take i).filter (oE k n)=out at*;by_cases h1:l[i].peer=k
  ·by_cases h2:l[i].kind=n
   ·simp[↓al,hi,h1,h2,dM hi h];refine⟨[.keep [2,4,6,7,10,11,12],.dr 9],?_⟩;simp[bt,b8,af,ab];exact hK _ (by simp[oE,h1,h2])
   ·simp[↓al,hi,h1,h2,dM hi h];refine⟨⟨by omega,by omega⟩,[.keep [2,4,6,7,10,11,12],.dr 9],?_⟩;simp[bt,b8,af,ab];exact hK _ (by simp[oE,h1,h2])
  ·simp[↓al,hi,h1,wT,dM hi h];refine⟨⟨by omega,by omega⟩,[.keep [2,4,6,7,10,11,12],.dr 9],?_⟩;simp[bt,b8,af,ab];exact hK _ (by simp[oE,h1])
 ·simp[↓al,↓al];refine aA.plain [.keep [6],.fz 7,.wk 6] ?_;simp[bg]
def im (t:cV):List cV->Nat
 |[]=>0
 |x::r=>if eg t x=true then 0 else im t r+1
def ji (l:List cV) (t:cV):List cV:=let r:=bg l t.peer t.kind;r.take (im t r)++[t]++r.drop (im t r)
theorem BQ (t:cV):∀l,im t l≤l.length
 |[]=>JaQ _
 |x::r=>by simp only[im];split<;>simp;exact BQ t r
theorem LU (t:cV):∀(l:List cV) (i:Nat) (h:i<l.length),i<im t l->eg t l[i]=false
 |x::r,0,h,hi=>by simp only[im]at hi;split at hi<;>simp_all
 |
  x::r,i+1,h,hi=>by
  simp only[im]at hi
  split at hi
  ·omega
  ·simpa using LU t r i (by simpa using h) (by omega)
theorem LV (t:cV):∀(l:List cV) (h:im t l<l.length),eg t l[im t l]=true
 |[],h=>by simp at h
 |
  x::r,h=>by
  simp only[im]at h⊢
  by_cases hx:eg t x=true
  ·simp[hx]
  ·simp only[hx,fJ,if_false]at h⊢
   simpa using LV t r (by simpa using h)
theorem dR {l:List cV} (h:l.length≤1048575) (t:cV):aK Pg 18 [cC l,bj t] (cC (ji l t)):=by
 refine ae.intro T.dR (by simp[F.dR]) ?_;simp[F.dR,aj,av];refine ai.rA (gH (l:=l) (by omega) t.peer t.kind) ?_;have hle:(bg l t.peer t.kind).length≤l.length:=JfZ _ _;have hr:ji l t=(bg l t.peer t.kind).take (im t (bg l t.peer t.kind))++[t]++(bg l t.peer t.kind).drop (im t (bg l t.peer t.kind)):=rfl;rw[hr];generalize bg l t.peer t.kind=r at*;have hp:=BQ t r;simp;refine eW.fD (im t r) (λ_=>True) [3,4,5,6] (λi=>[(6,.int .i64 i)]) (λi=>[]) [.keep [3,4,5,6]] ?_;simp;refine⟨λi hi K hK=> ?_,λK=> ?_⟩
 ·have hl:i<r.length:=by omega
  have hx:r[i]? =some r[i]:=gJ hl;have hn:=LU t r i hl hi;simp[↓al,hl];refine aN.rA (bY t r[i]) ?_;simp[hn,dM hl (by omega)];refine⟨[.keep [3,4,5,6]],?_⟩;simp;exact hK _ (by simp)
 ·by_cases hq:im t r<r.length
  ·have hx:r[im t r]? =some r[im t r]:=gJ hq;have hn:=LV t r hq;simp[↓al,hq];refine aN.rA (bY t r[im t r]) ?_;simp[hn];simp[↓al,cC];refine lH.run [33,38] rfl ?_;simp[hp];have wN:min (1+(r.length-im t r)) (r.length-im t r+1)=1+(r.length-im t r):=by omega
   rw[wN];refine⟨⟨by omega,by omega⟩,⟨by omega,by omega⟩,⟨by omega,by omega⟩,?_⟩;refine aA.plain [.keep [4],.dr 33,.fz 38,.wk 4] ?_;have h1:min (im t r) r.length=im t r:=by omega
   have h2:r.length-im t r+1=1+(r.length-im t r):=by omega
   simp[bt,b8,af,ab,h1,h2,tJ]
  ·simp[↓al,hq];simp[cC];refine lH.run [33,38] rfl ?_;simp[hp];have wN:min (1+(r.length-im t r)) (r.length-im t r+1)=1+(r.length-im t r):=by omega
   rw[wN];refine⟨⟨by omega,by omega⟩,⟨by omega,by omega⟩,⟨by omega,by omega⟩,?_⟩;refine aA.plain [.keep [4],.dr 33,.fz 38,.wk 4] ?_;have h1:min (im t r) r.length=im t r:=by omega
   have h2:r.length-im t r+1=1+(r.length-im t r):=by omega
   simp[bt,b8,af,ab,h1,h2,tJ]
theorem IL {n:Nat} (h:n<2^8):IntKind.u8.wrap (n:Int)=(n:Int):=wrap_u8 (by omega)
def gh (net host:UInt8):iI:=⟨false,[10,net,0,host,0,0,0,0,0,0,0,0,0,0,0,0],rfl⟩
theorem e9 (n h:UInt8):aK Pg 21 [.int .i64 (n.toNat:Int),.int .i64 (h.toNat:Int)] (cP (gh n h)):=by
 refine ae.intro (aC R.e9.2) (by simp[R.e9]) ?_;have h1:=n.toNat_lt;have h2:=h.toNat_lt;simp[R.e9,aj,av,cg,List.replicate,IL h1,IL h2];refine aA.plain [] ?_;simp[cP,gh,u8]
def wW (a:iI) (k:Nat):Prop:=∀j,k≤j->j<16->a.ip[j]? =some 0
theorem tW (n:UInt8):wW (gh n 0) 2:=by
 intro j h1 h2;simp only[gh];rcases(by omega:j=2∨j=3∨j=4∨j=5∨j=6∨j=7∨j=8∨j=9∨j=10∨j=11∨j=12∨j=13∨j=14∨j=15)with rfl|rfl|rfl|rfl|rfl|rfl|rfl|rfl|rfl|rfl|rfl|rfl|rfl|rfl<;>rfl
theorem wW.mono {a:iI} {k m:Nat} (h:wW a k) (hk:k≤m):wW a m:=λj h1 h2=>h j (by omega) h2
theorem fO {a:iI} (h:wW a 4):aK Pg 90 [cP a] (.bl true):=by
 refine ae.intro (aC R.fO.2) (by simp[R.fO]) ?_;simp[R.fO,aj,av];refine eW.fD 12 (λ_=>True) [1,2,6,7,8] (λi=>[(8,.int .i64 i)]) (λi=>[]) [.keep [1,2,6,7,8]] ?_;simp;refine⟨λi hi K hK=> ?_,λK=> ?_⟩
 ·have hx:a.ip[4+i]? =some 0:=h _ (by omega) (by omega);have hw:IntKind.i64.wrap ((i:Int)+1)=(i:Int)+1:=wrap_i64 (by omega);have kY:(i:Int)<12:=by omega
  simp[↓al,kY,hx,hw,u8];refine⟨[.keep [1,2,6,7,8]],?_⟩;simp;exact hK _ (by simp)
 ·simp[↓al,↓al];refine aA.plain [] ?_;simp
theorem fP (a:iI):aK Pg 91 [cP a] (.int .i64 (if a.sO=true then 128 else 32)):=by
 refine ae.intro (aC R.fP.2) (by simp[R.fP]) ?_;by_cases h:a.sO=true
 ·simp[R.fP,aj,av,h];refine aA.plain [] ?_;simp
 ·simp[R.fP,aj,av,h];refine aA.plain [] ?_;simp
theorem Zn (i:Nat):(i:Int).tmod 8=((i%8:Nat):Int):=by rw[show(8:Int)=((8:Nat):Int) from rfl,←JsW]
theorem jC {a:iI} {k:Nat} (h:wW a k) {i:Nat} (hi:8*k≤i) (As:i<128):aK Pg 92 [cP a,.int .i64 (i:Int)] (.int .u8 0):=by
 refine ae.intro (aC R.jC.2) (by simp[R.jC]) ?_;have hx:a.ip[i/8]? =some 0:=h _ (by omega) (by omega);have hw:IntKind.i64.wrap ((i/8:Nat):Int)=((i/8:Nat):Int):=wrap_i64 (by omega);have B9:IntKind.i64.wrap (7-((i%8:Nat):Int))=((7-i%8:Nat):Int):=by rw[wrap_i64 (by omega)];omega
 have hd:(i:Int).tdiv 8=((i/8:Nat):Int):=by rw[show(8:Int)=((8:Nat):Int) from rfl,←Int.ofNat_tdiv]
 have hb:bits .and .u8 0 1=0:=rfl;simp[R.jC,aj,av,hx,Zn,hw,B9,hd,hb,u8,-Int.natCast_ediv,-Int.natCast_emod,];refine⟨by omega,?_⟩;refine aA.plain [] ?_;simp
theorem NW (a:iI):yC a (.ar 1 16 (a.ip.map u8))=cP a:=rfl
theorem Rp {α:Type} {l:List α} {i:Nat} {x:α} (h:l[i]? =some x):l.set i x=l:=by
 apply JjW;intro j;rw[List.getElem?_set];split
 ·rename_i e;subst e;split
  ·exact h.symm
  ·rename_i hl;rw[List.getElem?_eq_none (by omega)]
 ·rfl
theorem dk {a:iI} (h:wW a 2):aK Pg 20 [cP a,.int .i64 16] (gC ⟨a,16⟩):=by
 refine ae.intro (aC R.dk.2) (by simp[R.dk]) ?_;simp[R.dk,aj,av];refine eW.fD 112 (λ_=>True) [1,2,4,5] (λi=>[(5,.int .i64 (16+(i:Int)))]) (λi=>[]) [.keep [1,2,4,5]] ?_;simp;refine⟨λi hi K hK=> ?_,λK=> ?_⟩
 ·obtain⟨m,hm⟩:∃m,m=(16+i)/8:=⟨_,rfl⟩
  obtain⟨t,ht⟩:∃t,t=(16+i)%8:=⟨_,rfl⟩
  have hx:a.ip[m]? =some 0:=h _ (by omega) (by omega);have D0:(a.ip.map u8)[m]? =some (.int .u8 0):=by simp[hx,u8]
  have hw:IntKind.i64.wrap (16+(i:Int)+1)=16+((i:Int)+1):=by rw[wrap_i64 (by omega)];omega
  have hd:IntKind.i64.wrap ((16+(i:Int)).tdiv 8)=(m:Int):=by
   rw[show(16+(i:Int))=((16+i:Nat):Int) by omega,show(8:Int)=((8:Nat):Int) from rfl,←Int.ofNat_tdiv,hm];exact wrap_i64 (by omega)
  have ht':(16+(i:Int)).tmod 8=(t:Int):=by
   rw[show(16+(i:Int))=((16+i:Nat):Int) by omega,show(8:Int)=((8:Nat):Int) from rfl,←JsW,ht]
  have kY:16+(i:Int)<128:=by omega
  have wv:(m:Int)<16:=by omega
  have hb:∀n:Int,bits .andNot .u8 0 n=0:=by
   intro n;simp[bits,BitVec.ofInt]
  simp[↓al,kY,D0,hw,hd,ht',wv,hb];rw[Rp D0];refine⟨[.keep [1,2,4,5]],?_⟩;simp[NW];exact hK _ (by simp)
 ·simp[↓al,↓al];refine aA.plain [] ?_;simp[gC]
theorem fQ {a:iI} (h:wW a 2) (h6:a.sO=false):aK Pg 40 [gC ⟨a,16⟩] (.bl true):=by
 refine ae.intro (aC R.fQ.2) (by simp[R.fQ]) ?_;simp[R.fQ,aj,av];refine aN.rA (fO (h.mono (by omega))) ?_;simp;refine aN.rA (fP a) ?_;simp[h6];refine eW.fD 112 (λ_=>True) [1,2,3] (λi=>[(3,.int .i64 (16+(i:Int)))]) (λi=>[]) [.keep [1,2,3]] ?_;simp;refine⟨λi hi K hK=> ?_,λK=> ?_⟩
 ·have hw:IntKind.i64.wrap (16+(i:Int)+1)=16+((i:Int)+1):=by rw[wrap_i64 (by omega)];omega
  have kY:16+(i:Int)<128:=by omega
  have hb:=jC h (i:=16+i) (by omega) (by omega);rw[show((16+i:Nat):Int)=16+(i:Int) by omega]at hb;simp[↓al,kY];refine ai.rA hb ?_;simp[hw];refine⟨[.keep [1,2,3]],?_⟩;simp;exact hK _ (by simp)
 ·simp[↓al,↓al];refine aA.plain [] ?_;simp
def vE (n:UInt8):xG:=⟨gh n 0,16⟩
theorem Kn {n m:UInt8} (h:n<m):Op.bytesLess (gh n 0).ip (gh m 0).ip=true:=by
 have h':¬m<n:=λe=>absurd (JoX.1 e) (by have:=JoX.1 h;omega);simp[gh,Op.bytesLess,h]
theorem IM {n m:UInt8} (h:n<m):Op.bytesLess (gh m 0).ip (gh n 0).ip=false:=by
 have h':¬m<n:=λe=>absurd (JoX.1 e) (by have:=JoX.1 h;omega);simp[gh,Op.bytesLess,h']
theorem ja (a b:iI) (h1:a.sO=false) (h2:b.sO=false):aK Pg 93 [cP a,cP b] (.bl (Op.bytesLess a.ip b.ip)):=by
 refine ae.intro (aC R.ja.2) (by simp[R.ja]) ?_;have ta:(a.ip.map u8).take 16=a.ip.map u8:=tJ (by simp[a.h]);have tb:(b.ip.map u8).take 16=b.ip.map u8:=tJ (by simp[b.h]);simp[R.ja,aj,av,h1,h2,ta,tb];refine aA.plain [] ?_;simp
theorem aac {n m:UInt8} (h:n≠m):PV.beq (cP (gh n 0)) (cP (gh m 0))=false:=by
 have:¬(n.toNat=m.toNat):=λe=>h (UInt8.toNat_inj.1 e);simp[cP,gh,PV.beq,PV.lL,u8];intro e;omega
theorem fy {n m:UInt8} (h:n≠m):aK Pg 41 [gC (vE n),gC (vE m)] (.bl (Op.bytesLess (gh n 0).ip (gh m 0).ip)):=by
 refine ae.intro (aC R.fy.2) (by simp[R.fy]) ?_;simp[R.fy,aj,av,vE,aac h];refine ai.rA (ja (gh n 0) (gh m 0) rfl rfl) ?_;simp;refine aA.plain [] ?_;simp
theorem am2 {n m:UInt8} (h:n≠m):PV.beq (gC (vE n)) (gC (vE m))=false:=by
 simp[gC,vE,PV.beq,PV.lL,aac h]
theorem bD {l:List vi} {n:UInt8} (h:∀r∈l,∃m,m<n∧r.D1=vE m) (hl:l.length<16) (k:Key):aK Pg 19 [cY l,gC (vE n),aG k] (.tup [cY (l++[⟨vE n,k⟩]),.int .i64 0]):=by
 refine ae.intro T.bD (by simp[F.bD]) ?_;simp[F.bD,aj,av];refine ai.ret (fQ (tW n) rfl) (by simp[vE]) (by simp) (by simp) ?_;simp(disch:=omega) [cY];refine⟨⟨by omega,by omega⟩,?_⟩;refine eW.fD l.length (λ_=>True) [0,4,5,6,7,8,17,18] (λi=>[(18,.int .i64 i)]) (λi=>[]) [.keep [0,4,5,6,7,8,17,18]] ?_;simp;refine⟨λi hi K hK=> ?_,λK=> ?_⟩
 ·have hx:l[i]? =some l[i]:=gJ hi;obtain⟨m,hm,he⟩:=h _ (JbQ hi);have hb:(gC (vE m)).beq (gC (vE n))=false:=am2 (UInt8.ne_of_lt hm);have hw:IntKind.i64.wrap ((i:Int)+1)=(i:Int)+1:=wrap_i64 (by omega);simp[↓al,hi,he,hb,hw];refine⟨[.keep [0,4,5,6,7,8,17,18]],?_⟩;simp;exact hK _ (by simp)
 ·have Th:¬(16:Int)≤l.length:=by omega
  simp[↓al,↓al,Th];refine eW.fD l.length (λ_=>True) [0,4,5,6,7,8,10] (λi=>[(10,.int .i64 i)]) (λi=>[]) [.keep [0,4,5,6,7,8,10]] ?_;simp;refine⟨λi hi K hK=> ?_,λK=> ?_⟩
  ·have hx:l[i]? =some l[i]:=gJ hi;obtain⟨m,hm,he⟩:=h _ (JbQ hi);have hw:IntKind.i64.wrap ((i:Int)+1)=(i:Int)+1:=wrap_i64 (by omega);have hb:=fy (n:=n) (m:=m) (λe=>UInt8.ne_of_lt hm e.symm);rw[IM hm]at hb;simp[↓al,hi,he];refine aN.rA hb ?_;simp[hw];refine⟨[.keep [0,4,5,6,7,8,10]],?_⟩;simp;exact hK _ (by simp)
  ·simp[↓al,↓al];refine lH.run [61,66] rfl ?_;simp;refine⟨⟨by omega,by omega⟩,?_⟩;refine aA.plain [.keep [6,7],.dr 61,.dr 15,.fz 66,.wk 6] ?_;simp[bt,b8,af,ab,fY]
def zK:Key:=⟨List.replicate 32 0,rfl⟩
def zSl:gr:=⟨0,zK,false⟩
theorem AW {l:List gr} (hl:l.length≤1048576) {x:Int} (h:∀s∈l,s.index≠x):aK Pg 44 [bL l,.int .u32 x] (.tup [aU zSl,.bl false]):=by
 refine ae.intro (aC R.ej.2) (by simp[R.ej]) ?_;simp[R.ej,aj,av];refine eW.fD l.length (λ_=>True) [1,4,5,8,9,10] (λi=>[(10,.int .i64 i)]) (λi=>[]) [.keep [1,4,5,8,9,10]] ?_;simp;refine⟨λi hi K hK=> ?_,λK=> ?_⟩
 ·have hx:l[i]? =some l[i]:=gJ hi;have he:=h _ (JbQ hi);simp[↓al,hi,he,dM hi hl];refine⟨[.keep [1,4,5,8,9,10],.dr 7],?_⟩;simp;exact hK _ (by simp)
 ·simp[↓al,↓al];refine aA.plain [] ?_;simp[aU,zSl,zK,aG,cg,u8]
theorem GJ {l:List gr} (hl:l.length≤1048576) {x:Int} {f:Nat} (hf:f<l.length) (he:l[f].index=x) (h:∀j (hj:j<l.length),j<f->l[j].index≠x):aK Pg 44 [bL l,.int .u32 x] (.tup [aU l[f],.bl true]):=by
 refine ae.intro (aC R.ej.2) (by simp[R.ej]) ?_;simp[R.ej,aj,av];refine eW.fD f (λ_=>True) [1,4,5,8,9,10] (λi=>[(10,.int .i64 i)]) (λi=>[]) [.keep [1,4,5,8,9,10]] ?_;simp;refine⟨λi hi K hK=> ?_,λK=> ?_⟩
 ·have As:i<l.length:=by omega
  have hx:l[i]? =some l[i]:=gJ As;have he:=h i As hi;simp[↓al,As,he,dM As hl];refine⟨[.keep [1,4,5,8,9,10],.dr 7],?_⟩;simp;exact hK _ (by simp)
 ·have hx:l[f]? =some l[f]:=gJ hf;simp[↓al,hf,he];refine aA.plain [] ?_;simp
def Gl (x:Int) (s:gr):Bool:=decide (s.index≠x)
theorem Rq {l:List gr} (h:l.length≤1048576) (x:Int):aK Pg 98 [bL l,.int .u32 x] (bL (l.filter (Gl x))):=by
 refine ae.intro (aC R.kM.2) (by simp[R.kM]) ?_;simp[R.kM,aj,av,bL];refine eW.fD l.length (λ_=>True) [1,4,5,8,9,10] (λi=>[(5,.rs 5 [] 0 ((l.take i).filter (Gl x)).length ((l.take i).filter (Gl x)).length 34 .tip),(10,.int .i64 i)]) (λi=>[(5,.arr 34 (((l.take i).filter (Gl x)).map aU))]) [.vt 5 5 34] ?_;simp;refine⟨λi hi K hK=> ?_,λK=> ?_⟩
 ·have hx:l[i]? =some l[i]:=gJ hi;have hlen:=vD (Gl x) l i;rw[mH _ hi]at hK;generalize (l.take i).filter (Gl x)=out at*;by_cases h1:l[i].index=x
  ·simp[↓al,hi,h1,dM hi h];refine⟨[.keep [1,4,5,8,9,10],.dr 7],?_⟩;simp[bt,b8,af,ab];exact hK _ (by simp[Gl,h1])
  ·simp[↓al,hi,h1,dM hi h];refine⟨⟨by omega,by omega⟩,[.keep [1,4,5,8,9,10],.dr 7],?_⟩;simp[bt,b8,af,ab];exact hK _ (by simp[Gl,h1])
 ·simp[↓al,↓al];refine aA.plain [.keep [4],.fz 5,.wk 4] ?_;simp
theorem Rr {d:bc} (hl:d.au.length≤1048576) {k:Key} {f:Nat} (hf:f<d.au.length) (he:d.au[f].cH=k) (h:∀j (hj:j<d.au.length),j<f->d.au[j].cH≠k):aK Pg 43 [eX d,aG k] (.int .i64 f):=by
 refine ae.intro (aC R.od.2) (by simp[R.od]) ?_;simp[R.od,aj,av];refine eW.fD f (λ_=>True) [2,3,4,8,9,10] (λi=>[(10,.int .i64 i)]) (λi=>[]) [.keep [2,3,4,8,9,10]] ?_;simp;refine⟨λi hi K hK=> ?_,λK=> ?_⟩
 ·have As:i<d.au.length:=by omega
  have hx:d.au[i]? =some d.au[i]:=gJ As;have he:=h i As hi;simp[↓al,As,he,wT,dM As hl];refine⟨[.keep [2,3,4,8,9,10],.dr 6],?_⟩;simp;exact hK _ (by simp)
 ·have hx:d.au[f]? =some d.au[f]:=gJ hf;simp[↓al,hf,he];refine aA.plain [] ?_;simp
def pK (i:Nat):Key:=⟨[UInt8.ofNat (40*(i+1)),9,7]++List.replicate 29 0,rfl⟩
theorem gZ {i:Nat} (h:i<3):aK Pg 16 [.int .i64 i] (aG (pK i)):=by
 refine ae.intro (aC R.gZ.2) (by simp[R.gZ]) ?_;have hw:IntKind.i64.wrap ((i:Int)+1)=(i:Int)+1:=wrap_i64 (by omega);have B9:IntKind.i64.wrap (40*((i:Int)+1))=40*((i:Int)+1):=wrap_i64 (by omega);have hw3:IntKind.u8.wrap (40*((i:Int)+1))=40*((i:Int)+1):=wrap_u8 (by omega);simp[R.gZ,aj,av,cg,List.replicate,hw,B9,hw3];refine aA.plain [] ?_;have h40:(UInt8.ofNat (40*(i+1))).toNat=40*(i+1):=by simp[UInt8.toNat_ofNat];omega
 simp[aG,pK,u8,List.replicate];omega
def vv (i:Nat):G6:=⟨⟨false,[192,0,2,UInt8.ofNat (i+1),0,0,0,0,0,0,0,0,0,0,0,0],rfl⟩,1000+i⟩
theorem jJ {i:Nat} (h:i<3):aK Pg 17 [.int .i64 i] (ic (vv i)):=by
 refine ae.intro (aC R.jJ.2) (by simp[R.jJ]) ?_;have hw:IntKind.i64.wrap ((i:Int)+1)=(i:Int)+1:=wrap_i64 (by omega);have B9:IntKind.i64.wrap (1000+(i:Int))=1000+(i:Int):=wrap_i64 (by omega);have hw3:IntKind.u8.wrap ((i:Int)+1)=(i:Int)+1:=wrap_u8 (by omega);simp[R.jJ,aj,av,cg,List.replicate,hw,B9,hw3];refine aA.plain [] ?_;have h40:(UInt8.ofNat (i+1)).toNat=i+1:=by simp[UInt8.toNat_ofNat];omega
 simp[ic,cP,vv,u8];omega
def mS (x:Int):List gr->Nat
 |[]=>0
 |s::r=>if s.index<x then mS x r+1 else 0
def Bq (l:List gr) (s:gr):List gr:=l.take (mS s.index l)++[s]++l.drop (mS s.index l)
theorem LW (x:Int):∀l,mS x l≤l.length
 |[]=>JaQ _
 |s::r=>by simp only[mS];split<;>simp;exact LW x r
theorem LX (x:Int):∀(l:List gr) (i:Nat) (h:i<l.length),i<mS x l->l[i].index<x
 |s::r,0,h,hi=>by simp only[mS]at hi;split at hi<;>simp_all
 |
  s::r,i+1,h,hi=>by
  simp only[mS]at hi
  split at hi
  ·simpa using LX x r i (by simpa using h) (by omega)
  ·omega
theorem LY (x:Int):∀(l:List gr) (h:mS x l<l.length),¬l[mS x l].index<x
 |[],h=>by simp at h
 |
  s::r,h=>by
  simp only[mS]at h⊢
  by_cases hx:s.index<x
  ·simp only[hx,if_true]at h⊢
   simpa using LY x r (by simpa using h)
  ·simp[hx]
theorem Take {l:List gr} (hl:l.length<32) {x:Int} (hx1:1≤x) (h:∀s∈l,s.index≠x) (k:Key) (b:Bool):aK Pg 50 [bL l,.int .u32 x,aG k,.bl b] (.tup [bL (Bq l ⟨x,k,b⟩),.int .u32 x,.int .i64 0]):=by
 refine ae.intro (aC R.oe.2) (by simp[R.oe]) ?_;have Th:¬(32:Int)≤l.length:=by omega
 have hm:max x 1=x:=by omega
 simp[R.oe,aj,av,Th,hm];refine eW.fD 0 (λ_=>True) [0,1,2,3,6,8,9,10,11] (λi=>[]) (λi=>[]) [.keep [0,1,2,3,6,8,9,10,11]] ?_;simp;intro K;simp[↓al];refine ai.rA (AW (by omega) h) ?_;simp[↓al];have hp:=LW x l;have hr:Bq l ⟨x,k,b⟩=l.take (mS x l)++[⟨x,k,b⟩]++l.drop (mS x l):=rfl;refine eW.fD (mS x l) (λ_=>True) [0,3,6,8,9,10,11,14] (λi=>[(14,.int .i64 i)]) (λi=>[]) [.keep [0,3,6,8,9,10,11,14],.dr 12] ?_;simp;refine⟨λi hi K hK=> ?_,λK=> ?_⟩
 ·have As:i<l.length:=by omega
  have hx:l[i]? =some l[i]:=gJ As;have he:=LX x l i As hi;simp[↓al,As,he,dM As (by omega)];refine⟨[.keep [0,3,6,8,9,10,11,14]],?_⟩;simp;exact hK _ (by simp)
 ·by_cases hq:mS x l<l.length
  ·have hx:l[mS x l]? =some l[mS x l]:=gJ hq;have he:=LY x l hq;simp[↓al,↓al,hq,he,bL,hp];refine⟨⟨by omega,by omega⟩,⟨by omega,by omega⟩,⟨by omega,by omega⟩,?_⟩;refine aA.plain [.keep [8,9,10],.fz 50,.wk 8] ?_;have h1:min (mS x l) l.length=mS x l:=by omega
   have h2:mS x l+(l.length-mS x l+1)=mS x l+1+(l.length-mS x l):=by omega
   simp[h1,h2,tJ,hr,aU]
  ·simp[↓al,↓al,hq,bL,hp];refine⟨⟨by omega,by omega⟩,⟨by omega,by omega⟩,⟨by omega,by omega⟩,?_⟩;refine aA.plain [.keep [8,9,10],.fz 50,.wk 8] ?_;have h1:min (mS x l) l.length=mS x l:=by omega
   have h2:mS x l+(l.length-mS x l+1)=mS x l+1+(l.length-mS x l):=by omega
   simp[h1,h2,tJ,hr,aU]
def uq (l:List gr):Prop:=(∀(i:Nat) (h:i<l.length),l[i].index≠0)∧∀(i:Nat) (h:i+1<l.length),l[i].index<l[i+1].index
theorem Ko {l:List gr} (hl:l.length≤32) (h:uq l):aK Pg 284 [bL l] (.bl true):=by
 refine ae.intro T.eT (by simp[F.eT]) ?_;simp[F.eT,aj,av];refine eW.fD l.length (λ_=>True) [0,2,5,6,7] (λi=>[(7,.int .i64 i)]) (λi=>[]) [.keep [0,2,5,6,7]] ?_;simp;refine⟨λi hi K hK=> ?_,λK=> ?_⟩
 ·have hx:l[i]? =some l[i]:=gJ hi;have h0:=h.1 i hi;by_cases hz:i=0
  ·subst hz;simp[↓al,hi,h0];refine⟨[.keep [0,2,5,6,7],.dr 4],?_⟩;simp;exact hK _ (by simp)
  ·obtain⟨j,G0⟩:∃j,i=j+1:=⟨i-1,by omega⟩
   have hj:j<l.length:=by omega
   have hy:l[j]? =some l[j]:=gJ hj;have dq:=h.2 j (by omega);have Ba:¬l[i].index≤l[j].index:=by subst G0;omega
   have hw:IntKind.i64.wrap ((i:Int)-1)=j:=by rw[wrap_i64 (by omega)];omega
   simp[↓al,hi,hj,h0,hw,Ba,show 0<i by omega,dM hi (by omega)];refine⟨[.keep [0,2,5,6,7],.dr 4],?_⟩;simp;exact hK _ (by simp)
 ·simp[↓al,↓al];refine aA.plain [] ?_;simp;omega
structure Aj where
 used:Bool
 top:Int
 w0:Int
 w1:Int
 w2:Int
 w3:Int
def wP (w:Aj):PV:= .st 6 [.bl w.used,.int .u64 w.top,.ar 1 4 [.int .u64 w.w0,.int .u64 w.w1,.int .u64 w.w2,.int .u64 w.w3]]
def GK (w:Aj):FV Nn:=⟨wP w,by simp[wP,fits,dz,rI,rK,ju]⟩
def NX (w:Aj) (c:Int):Bool:= !w.used||decide (w.top<c)||decide (bits .and .u64 (w.w0.fdiv (2^min c.toNat 64)) 1=0)
structure SmW (w:Aj) (c:Int):Prop where
 t0:0≤w.top
 t8:w.top<8
 c0:0≤c
 c8:c<8
theorem q64 {c:Int} (h0:0≤c) (h8:c<8):c.tdiv 64=0:=Int.tdiv_eq_zero_of_lt h0 (by omega)
theorem r64 {c:Int} (h0:0≤c) (h8:c<8):c.tmod 64=c:=Int.tmod_eq_of_lt h0 (by omega)
theorem cT {w:Aj} {c:Int} (h:SmW w c):aK Pg 99 [wP w,.int .u64 c] (.bl (NX w c)):=by
 refine ae.intro (aC R.cT.2) (by simp[R.cT]) ?_;have h0:=h.c0;have h1:=q64 h.c0 h.c8;have h2:=r64 h.c0 h.c8;have h3:=q64 h.t0 h.t8;have w0:IntKind.u64.wrap 0=0:=rfl;by_cases hu:w.used=true
 ·by_cases ht:w.top<c
  ·simp[R.cT,aj,av,wP,hu,ht,aB];refine aA.plain [] ?_;simp[NX,hu,ht]
  ·simp[R.cT,aj,av,wP,hu,ht,aB,h1,h2,h3,w0];refine⟨h0,?_⟩;refine aA.plain [] ?_;simp[NX,hu,ht];rfl
 ·simp[R.cT,aj,av,wP,hu,aB];refine aA.plain [] ?_;simp[NX,hu]
def uK (w:Aj) (c:Int):Aj×Bool:=
 if NX w c=true then
  let v:Aj:=if w.used=true then w else⟨true,c,0,0,0,0⟩
  (⟨true,max v.top c,bits .or .u64 v.w0 (IntKind.u64.wrap (2^min c.toNat 64)),v.w1,v.w2,v.w3⟩,true)
 else(w,false)
theorem bB {w:Aj} {c:Int} (h:SmW w c):aK Pg 53 [wP w,.int .u64 c] (.tup [wP (uK w c).1,.bl (uK w c).2]):=by
 refine ae.intro (aC R.bB.2) (by simp[R.bB]) ?_;have h0:=h.c0;have h1:=q64 h.c0 h.c8;have h2:=r64 h.c0 h.c8;have h3:=q64 h.t0 h.t8;have w0:IntKind.u64.wrap 0=0:=rfl;have hc:=cT h;cases hk:NX w c with
 |
  false=>
  rw[hk]at hc
  simp[R.bB,aj,av,wP]
  refine ai.ret hc (by simp[wP]) (by simp) (by simp) ?_
  simp
  refine aA.plain [] ?_
  simp[uK,hk]
 |
  true=>
  rw[hk]at hc
  have hp:∀x:Int,bits .or .u64 0 x=bits .or .u64 0 x:=λ_=>rfl
  by_cases hu:w.used=true
  ·by_cases ht:w.top<c
   ·have hm:max w.top c=c:=by omega
    simp[R.bB,aj,av,wP,hu]
    refine ai.ret hc (by simp[wP,hu]) (by simp) (by simp) ?_
    simp[ht]
    refine eW.fD 0 (λ_=>True) [1,2,4,5,6] (λi=>[]) (λi=>[]) [.keep [1,2,4,5,6]] ?_
    simp
    intro K
    simp[↓al,↓al,↓al,h1,h2,h3,w0,aB,h0,(by omega:min (0:Int) 4=0)]
    refine aA.plain [] ?_
    simp[uK,hk,hu,hm]
    rfl
   ·have hm:max w.top c=w.top:=by omega
    simp[R.bB,aj,av,wP,hu]
    refine ai.ret hc (by simp[wP,hu]) (by simp) (by simp) ?_
    simp[ht,↓al,h1,h2,w0,aB,h0]
    refine aA.plain [] ?_
    simp[uK,hk,hu,hm]
    rfl
  ·simp[R.bB,aj,av,wP,hu]
   refine ai.ret hc (by simp[wP,hu]) (by simp) (by simp) ?_
   simp[↓al,h1,h2,w0,aB,h0,cg,List.replicate]
   refine aA.plain [] ?_
   simp[uK,hk,hu]
   rfl
theorem WO {w:Aj} {c:Int} (h:SmW w c):(uK w c).1.used=w.used∧(uK w c).1=w∨(uK w c).1.used=true:=by
 unfold uK;split
 ·right;rfl
 ·left;exact⟨rfl,rfl⟩
theorem IN {w:Aj} {c:Int} (h:SmW w c):0≤(uK w c).1.top∧(uK w c).1.top<8:=by
 obtain⟨a1,a2,a3,a4⟩:=h;unfold uK;split
 ·by_cases hu:w.used=true<;>simp[hu]<;>omega
 ·exact⟨a1,a2⟩
def Ly:FV xl:=⟨.ar 1 32 (zr 32 (.int .u8 0)),by rw[cg];rfl⟩
def NY:FV Nn:=⟨.st 6 [.bl false,.int .u64 0,.ar 1 4 (zr 4 (.int .u64 0))],by rw[cg];rfl⟩
def yO:ld:=⟨0,0,Ly,Ly,0,0,NY,0,false⟩
def qE:uL:=⟨false,yO⟩
theorem adD:ib qE=(.st 77 [(.bl false),(.st 76 [(.int .u32 0),(.int .u32 0),(.ar 1 32 (zr 32 (.int .u8 0))),(.ar 1 32 (zr 32 (.int .u8 0))),(.int .u64 0),(.int .u64 0),(.st 6 [(.bl false),(.int .u64 0),(.ar 1 4 (zr 4 (.int .u64 0)))]),(.int .i64 0),(.bl false)])]):=by first|rfl|(rw[cg];rfl)
def uM (l:List uL):List Int:=(l.filter (λp=>p.has)).map (λp=>p.nn.loc)
theorem Ij {l:List uL} {i:Nat} (h:i<l.length):uM (l.take (i+1))=uM (l.take i)++(if l[i].has=true then [l[i].nn.loc]else []):=by
 unfold uM;rw[mH _ h];by_cases hk:l[i].has=true<;>simp[hk]
theorem Ae (l:List uL):(uM l).length≤l.length:=by
 unfold uM;rw[JaX];exact JfZ _ _
theorem dv {l:List uL} (h:l.length≤8) (b:Bool):aK Pg 96 [.sl 77 (l.map ib) b] (oC (uM l)):=by
 refine ae.intro (aC R.dv.2) (by simp[R.dv]) ?_;simp[R.dv,aj,av,oC];refine eW.fD l.length (λ_=>True) [2,3,6,7,8] (λi=>[(3,.rs 3 [] 0 (uM (l.take i)).length (uM (l.take i)).length 1 .tip),(8,.int .i64 i)]) (λi=>[(3,.arr 1 ((uM (l.take i)).map (λn:Int=>PV.int .u32 n)))]) [.vt 3 3 1] ?_;simp[show uM []=[] from rfl];refine⟨λi hi K hK=> ?_,λK=> ?_⟩
 ·have hx:l[i]? =some l[i]:=gJ hi;have hlen:=Ae (l.take i);have Mg:(l.take i).length≤i:=by rw[lJ];omega
  rw[Ij hi]at hK;generalize uM (l.take i)=out at*;by_cases h1:l[i].has=true
  ·simp[↓al,hi,h1,dM hi (by omega)];refine⟨⟨by omega,by omega⟩,[.keep [2,3,6,7,8],.dr 5],?_⟩;simp[bt,b8,af,ab];exact hK _ (by simp[h1])
  ·simp[↓al,hi,h1,dM hi (by omega)];refine⟨[.keep [2,3,6,7,8],.dr 5],?_⟩;simp[bt,b8,af,ab];exact hK _ (by simp[h1])
 ·simp[↓al,↓al];refine aA.plain [.keep [2],.fz 3,.wk 2] ?_;simp
def WQ (p:uL):uL:=if p.has=true then p else qE
theorem fR (p:uL):aK Pg 97 [ib p] (ib (WQ p)):=by
 refine ae.intro (aC R.fR.2) (by simp[R.fR]) ?_;by_cases h:p.has=true
 ·simp[R.fR,aj,av,h];refine aA.plain [] ?_;simp[WQ,h]
 ·simp[R.fR,aj,av,h];refine aA.plain [] ?_;simp[WQ,h,adD]
theorem gI (r:ss):aK Pg 285 [iH r] (oC (uM [r.p,r.c,r.n])):=by
 refine ae.intro (aC R.gI.2) (by simp[R.gI]) ?_;simp[R.gI,aj,av];refine ai.rA (dv (l:=[r.p,r.c,r.n]) (by simp) false) ?_;simp;refine aA.plain [] ?_;simp
def xB (r:ss) (s:ld):ss:=if r.n.has=true then⟨r.n,⟨true,s⟩,qE⟩else⟨WQ r.c,⟨true,s⟩,qE⟩
def ub (r:ss):List Int:=if r.n.has=true then uM [r.p,r.c]else uM [r.p]
theorem dN (r:ss) (s:ld):aK Pg 47 [iH r,fa s] (.tup [iH (xB r s),oC (ub r)]):=by
 refine ae.intro T.dN (by simp[F.dN]) ?_;by_cases h:r.n.has=true
 ·simp[F.dN,aj,av,h];refine aN.rA (dv (l:=[r.p,r.c]) (by simp) false) ?_;simp;refine aA.plain [] ?_;simp[xB,ub,h,iH,ib];exact⟨rfl,rfl⟩
 ·simp[F.dN,aj,av,h];refine aN.rA (fR r.c) ?_;simp;refine aN.rA (dv (l:=[r.p]) (by simp) false) ?_;simp;refine aA.plain [] ?_;simp[xB,ub,h,iH,ib];exact⟨rfl,rfl⟩
def Rs (r:ss) (s:ld):ss:=⟨qE,r.c,⟨true,s⟩⟩
def IP (r:ss):List Int:=uM [r.p,r.n]
theorem gK (r:ss) (s:ld):aK Pg 48 [iH r,fa s] (.tup [iH (Rs r s),oC (IP r)]):=by
 refine ae.intro (aC R.gK.2) (by simp[R.gK]) ?_;simp[R.gK,aj,av];refine aN.rA (dv (l:=[r.p,r.n]) (by simp) false) ?_;simp;refine aA.plain [] ?_;simp[Rs,IP,iH,ib];exact⟨rfl,rfl⟩
theorem jD (loc rem:Int) (a b:FV xl) (born:Int) (Yt:Bool) (fM:Int):aK Pg 52 [.int .u32 loc,.int .u32 rem,a.p,b.p,.int .i64 born,.bl Yt,.int .u64 fM] (fa ⟨loc,rem,a,b,0,fM,NY,born,Yt⟩):=by
 refine ae.intro (aC R.jD.2) (by simp[R.jD]) ?_;simp[R.jD,aj,av];refine aA.plain [] ?_;simp[fa,NY]
theorem jE {n a b:Int} (h1:a≤n) (h2:n≤b):aK Pg 184 [.int .i64 n,.int .i64 a,.int .i64 b] (.bl true):=by
 refine ae.intro (aC R.mh.2) (by simp[R.mh]) ?_;simp[R.mh,aj,av,h1,h2];refine aA.plain [] ?_;simp
theorem Kq {d:bc} {t:Int} (h1:0≤t) (h2:t≤d.now):aK Pg 95 [eX d,.int .i64 t] (.bl true):=by
 refine ae.intro (aC R.og.2) (by simp[R.og]) ?_;simp[R.og,aj,av];refine ai.rA (jE h1 h2) ?_;simp;refine aA.plain [] ?_;simp
theorem GL {r:y7} (h:AV r):aK Pg 183 [cO r] (.bl true):=by
 refine ae.intro (aC R.js.2) (by simp[R.js]) ?_;obtain⟨h1,h2,h3,h4,h5,h6,h7,h8,h9,h10,h11,Hh,h13,h14,h15,OJ,h17⟩:=h;have n1:¬r.No<1:=by omega
 have n2:¬r.uy<r.No:=by omega
 have n3:¬(18446744073709543423:Int)<r.uy:=by omega
 have w1:IntKind.i64.wrap (r.YM+r.ret)=r.YM+r.ret:=wrap_i64 (by omega);have w2:IntKind.i64.wrap (20*r.ret)=20*r.ret:=wrap_i64 (by omega);have n4:r.YM+r.ret<r.sN:=by omega
 simp[R.js,aj,av,n1,n2,n3];refine ai.rA (jE (n:=r.ret) (a:=1000) (b:=1073741824) (by omega) (by omega)) ?_;simp;refine ai.rA (jE (n:=r.YM) (a:=1000) (b:=1073741824) (by omega) (by omega)) ?_;simp;refine ai.rA (jE (n:=r.cot) (a:=1) (b:=1073741824) (by omega) (by omega)) ?_;simp;refine ai.rA (jE (n:=r.Qk) (a:=1) (b:=1073741824) (by omega) (by omega)) ?_;simp;refine ai.rA (jE (n:=r.sN) (a:=1) (b:=1073741824) (by omega) (by omega)) ?_;simp[h10,w1,n4,w2];refine ai.rA (jE (n:=r.att) (a:=r.ret) (b:=20*r.ret) (by omega) (by omega)) ?_;simp;refine ai.rA (jE (n:=r.load) (a:=1) (b:=64) (by omega) (by omega)) ?_;simp;refine ai.rA (jE (n:=r.vh) (a:=1) (b:=8) (by omega) (by omega)) ?_;simp;refine aA.plain [] ?_;simp
def aad (v:FV Nn):Prop:=v=NY∨∃w:Aj,w.used=true∧(0≤w.top∧w.top<8)∧v=GK w
structure yV (d:bc) (s:ld):Prop where
 b0:0≤s.born
 b1:s.born≤d.now
 fe:s.fM=d.rules.uy
 n0:0≤s.next
 n1:s.next≤18446744073709543423
 wi:aad s.G4
 sk:∃k:Key,s.send=k.fv
 rm:0≤s.rem∧s.rem≤4294967295
theorem LZ {d:bc} {s:ld} (h:yV d s):aK Pg 45 [eX d,fa s] (.bl true):=by
 refine ae.intro (aC R.nD.2) (by simp[R.nD]) ?_;have h1:=h.fe;have h2:=h.n1;simp[R.nD,aj,av];refine ai.rA (Kq (d:=d) h.b0 h.b1) ?_;rcases h.wi with hw|⟨w,hu,_,hw⟩
 ·simp[h1,h2,hw,NY];refine⟨by rw[cg];rfl,?_⟩;refine aA.plain [] ?_;simp;rw[cg];rfl
 ·simp[h1,h2,hw,GK,wP,hu];refine aA.plain [] ?_;simp
def Ak:Nat->Nat->List UInt8
 |0,n=>[UInt8.ofNat (48+n)]
 |f+1,n=>if n<10 then [UInt8.ofNat (48+n)]else Ak f (n/10)++[UInt8.ofNat (48+n%10)]
theorem sZ:∀f n,1≤(Ak f n).length∧(Ak f n).length≤f+1
 |0,n=>by simp[Ak]
 |
  f+1,n=>by
  have:=sZ f (n/10)
  simp only[Ak];split<;>simp<;>omega
theorem auN {n:Nat} (h:n<256):u8 (UInt8.ofNat n)= .int .u8 n:=by
 simp only[u8];congr 1;simp;omega
theorem adE {x:Int} {n:Nat} (e:x=n) (h:n<256):gN [.int .u8 x]=some [UInt8.ofNat n]:=by
 subst e;rw[←auN h];exact AQ [UInt8.ofNat n]
theorem L4:∀(f n:Nat),f≤100->n<10^(f+1)->n<1000000->aK Pg 368 [.int .i64 n] (.str (Ak f n)):=by
 intro f;induction f with
 |
  zero=>
  intro n hf h h'
  have hn:(n:Int)<10:=by simp at h;omega
  refine ae.intro (aC R.dL.2) (by simp[R.dL]) ?_
  have w1:IntKind.i64.wrap (48+(n:Int))=48+(n:Int):=wrap_i64 (by omega)
  have w2:IntKind.u8.wrap (48+(n:Int))=48+(n:Int):=wrap_u8 (by omega)
  simp[R.dL,aj,av,hn,w1,w2,adE (x:=48+(n:Int)) (n:=48+n) (by omega) (by omega)]
  refine aA.plain [] ?_
  simp[Ak]
 |
  succ f ih=>
  intro n hf h h'
  refine ae.intro (aC R.dL.2) (by simp[R.dL]) ?_
  by_cases hn:(n:Int)<10
  ·have w1:IntKind.i64.wrap (48+(n:Int))=48+(n:Int):=wrap_i64 (by omega)
   have w2:IntKind.u8.wrap (48+(n:Int))=48+(n:Int):=wrap_u8 (by omega)
   simp[R.dL,aj,av,hn,w1,w2,adE (x:=48+(n:Int)) (n:=48+n) (by omega) (by omega)]
   refine aA.plain [] ?_
   have Of:n<10:=by omega
   simp[Ak,Of]
  ·have hl:=sZ f (n/10)
   obtain⟨q,hq⟩:∃q,q=n/10:=⟨_,rfl⟩
   obtain⟨t,ht⟩:∃t,t=n%10:=⟨_,rfl⟩
   have hd:IntKind.i64.wrap ((n:Int).tdiv 10)=(q:Int):=by
    rw[show(10:Int)=((10:Nat):Int) from rfl,←Int.ofNat_tdiv,hq];exact wrap_i64 (by omega)
   have Hb:IntKind.i64.wrap ((n:Int)/10)=(q:Int):=by
    rw[show(n:Int)/10=((n/10:Nat):Int) by omega,hq];exact wrap_i64 (by omega)
   have hm:(n:Int).tmod 10=(t:Int):=by
    rw[show(10:Int)=((10:Nat):Int) from rfl,←JsW,ht]
   have w1:IntKind.i64.wrap (48+(t:Int))=48+(t:Int):=wrap_i64 (by omega)
   have w2:IntKind.u8.wrap (48+(t:Int))=48+(t:Int):=wrap_u8 (by omega)
   have hi:=ih q (by omega) (by rw[Nat.pow_succ]at h;omega) (by omega)
   simp[R.dL,aj,av,hn,Hb]
   refine aN.rA hi ?_
   rw[←hq]at hl
   simp[hm,w1,w2,adE (x:=48+(t:Int)) (n:=48+t) (by omega) (by omega)]
   refine⟨by omega,?_⟩
   refine aA.plain [] ?_
   have Of:¬n<10:=by omega
   simp[Ak,Of,←hq,←ht]
theorem L5 {n:Int} (h:n=0∨1000≤n∧n≤1073741824):aK Pg 340 [.int .i64 n] (.bl true):=by
 refine ae.intro (aC R.jV.2) (by simp[R.jV]) ?_;rcases h with h|⟨h1,h2⟩
 ·simp[R.jV,aj,av,h];refine aA.plain [] ?_;simp
 ·have h0:¬n=0:=by omega
  simp[R.jV,aj,av,h0,h1,h2];refine aA.plain [] ?_;simp
@[simp↓] theorem ahO (a b:List UInt8) (K:PV->Prop):zc .geq a b K=K (.bl (!Op.bytesLess a b)):=_root_.id rfl
def yW (a:iI) (n:Nat):List UInt8:=((a.ip.take n).map (λb=>[46]++Ak 2 b.toNat)).flatten
theorem GM (a:iI):∀n,(yW a n).length≤4*n:=by
 intro n;unfold yW;generalize a.ip=l;induction l generalizing n with
 |nil=>simp
 |
  cons x l ih=>
  cases n with
  |zero=>simp
  |
   succ n=>
   have:=ih n
   have h2:=sZ 2 x.toNat
   simp at this⊢
   omega
theorem NZ (a:iI) {n:Nat} {b:UInt8} (h:a.ip[n]? =some b):yW a (n+1)=yW a n++([46]++Ak 2 b.toNat):=by
 unfold yW;rw[List.take_add_one,h];simp
theorem IQ (a:iI):2≤(yW a 4).length:=by
 have h:=a.h
 obtain⟨x,l,e⟩:∃x l,a.ip=x::l:=by
  cases hx:a.ip with
  |nil=>rw[hx]at h;simp at h
  |cons x l=>exact⟨x,l,rfl⟩
 unfold yW;rw[e];have h2:=sZ 2 x.toNat;simp;omega
theorem Ks {a:iI} (h:wW a 4) (h6:a.sO=false):aK Pg 367 [cP a] (.str ((yW a 4).drop 1)):=by
 refine ae.intro T.eU (by simp[F.eU]) ?_;simp[F.eU,aj,av];refine ai.rA (fO h) ?_;simp[h6];refine eW.fD 4 (λ_=>True) [1,2,3,4] (λi=>[(3,.str (yW a i)),(4,.int .i64 i)]) (λi=>[]) [.keep [1,2,3,4]] ?_;simp[show yW a 0=[] from rfl];refine⟨λi hi K hK=> ?_,λK=> ?_⟩
 ·have As:i<a.ip.length:=by rw[a.h];omega
  have hx:a.ip[i]? =some a.ip[i]:=gJ As;have hb:=(a.ip[i]).toNat_lt;have hw:IntKind.i64.wrap ((a.ip[i]).toNat:Int)=((a.ip[i]).toNat:Int):=wrap_i64 (by omega);have hi4:(i:Int)<4:=by omega
  have hl:=GM a i;have Bc:=sZ 2 (a.ip[i]).toNat;rw[NZ a hx]at hK;have aeO:(i:Int)<16:=by omega
  simp[↓al,hi4,aeO,hx,u8,hw];refine ai.rA (L4 2 (a.ip[i]).toNat (by omega) (by omega) (by omega)) ?_;simp[dM hi (by omega)];refine⟨by omega,by omega,[.keep [1,2,3,4]],?_⟩;simp;exact hK _ (by simp)
 ·have hl:=GM a 4;have hp:=IQ a;simp[↓al,↓al];refine⟨by omega,?_⟩;refine aA.plain [] ?_;simp
theorem adF (i:Nat):wW (vv i).addr 4:=by
 intro j h1 h2;simp only[vv];rcases(by omega:j=4∨j=5∨j=6∨j=7∨j=8∨j=9∨j=10∨j=11∨j=12∨j=13∨j=14∨j=15)with rfl|rfl|rfl|rfl|rfl|rfl|rfl|rfl|rfl|rfl|rfl|rfl<;>rfl
def WR (i:Nat):List UInt8:=(yW (vv i).addr 4).drop 1++[58]++Ak 3 (1000+i)
theorem Rt (i:Nat):WR i≠[]:=by simp[WR]
theorem DL {i:Nat} (h:i<3):aK Pg 339 [ic (vv i)] (.str (WR i)):=by
 refine ae.intro (aC R.gL.2) (by simp[R.gL]) ?_;have hf:=Ks (adF i) rfl;have hl:=GM (vv i).addr 4;have hp:=IQ (vv i).addr;have hd:=sZ 3 (1000+i);have he:WR i=(yW (vv i).addr 4).drop 1++[58]++Ak 3 (1000+i):=rfl;rw[he];obtain⟨m,hm⟩:∃m,(yW (vv i).addr 4).drop 1=m:=⟨_,rfl⟩
 have wY:m.length=(yW (vv i).addr 4).length-1:=by rw[←hm,JbV]
 rw[hm]at hf⊢;have hn:m≠[]:=by intro e;rw[e]at wY;simp at wY;omega
 have p1:(vv i).port=1000+(i:Int):=rfl;have p2:¬(1000+(i:Int))<1:=by omega
 have p3:¬(65535:Int)<1000+(i:Int):=by omega
 have p4:(vv i).addr.sO=false:=rfl;have hdc:=L4 3 (1000+i) (by omega) (by omega) (by omega);rw[show((1000+i:Nat):Int)=1000+(i:Int) by omega]at hdc;simp[R.gL,aj,av];refine ai.rA hf ?_;simp[hn,p1,p2,p3,p4];refine⟨by omega,?_⟩;refine ai.rA hdc ?_;simp;refine⟨by omega,?_⟩;refine aA.plain [] ?_;simp
def WT:iI:=⟨false,List.replicate 16 0,rfl⟩
def IS:G6:=⟨WT,0⟩
def LC:FV JX:=⟨.ar 1 16 (zr 16 (.int .u8 0)),by rw[cg];rfl⟩
def zSm:FV UF:=⟨.ar 1 12 (zr 12 (.int .u8 0)),by rw[cg];rfl⟩
def zNo:FV Qj:=⟨.st 64 [.ar 1 32 (zr 32 (.int .u8 0)),.ar 1 32 (zr 32 (.int .u8 0))],by rw[cg];rfl⟩
def yL:Nq:=⟨false,0,Ly,zNo,0,0⟩
theorem Kt:ic IS=(.st 18 [(.st 17 [(.bl false),(.ar 1 16 (zr 16 (.int .u8 0)))]),(.int .i64 0)]):=by first|rfl|(rw[cg];rfl)
theorem am3:PV.beq (.st 18 [(.st 17 [(.bl false),(.ar 1 16 (zr 16 (.int .u8 0)))]),(.int .i64 0)]) (.st 18 [(.st 17 [(.bl false),(.ar 1 16 (zr 16 (.int .u8 0)))]),(.int .i64 0)])=true:=by
 have h:=Qn IS;rw[Kt]at h;exact h
theorem am4:fits (Sh.st [Sh.st [Sh.b,Sh.ar 16 (Sh.i IntKind.u8)],Sh.i IntKind.i64]) (.st 18 [(.st 17 [(.bl false),(.ar 1 16 (zr 16 (.int .u8 0)))]),(.int .i64 0)])=true:=by
 have h:=E3 IS;rw[Kt]at h;exact h
theorem Ru:LC.p=(.ar 1 16 (zr 16 (.int .u8 0))):=by first|rfl|(rw[cg];rfl)
def nE (d:bc) (p:uL):Prop:=(p.has=true∧yV d p.nn)∨(p.has=false∧p=qE)
structure nN (d:bc) (p:bO):Prop where
 ep:(p.iU=true∧∃i,i<3∧p.ep=vv i)∨(p.iU=false∧p.ep=IS)
 jg:p.jg=0∨1000≤p.jg∧p.jg≤1073741824
 Da:p.Da=0
 Bh:p.AS=false
 xF:p.rq=false
 Db:p.Db=0
 tE:p.tE=LC
 dI:p.dI=[]
 hand:p.hand=yL
 rp:nE d p.ring.p
 rc:nE d p.ring.c
 rn:nE d p.ring.n
theorem Rv {d:bc} {p:bO} (h:nN d p) (hn:0≤d.now) (hs:0≤d.rules.vh):aK Pg 280 [eX d,aQ p] (.bl true):=by
 refine ae.intro T.fA (by simp[F.fA]) ?_;have h2:=h.Da;have h3:=h.Db;have h4:=h.tE;have h5:=h.dI;have h6:=h.Bh;have h7:=h.xF;have hf:fits (Sh.ar 16 (Sh.i IntKind.u8)) (PV.ar 1 16 (zr 16 (PV.int IntKind.u8 0)))=true:=by rw[cg];rfl
 have Bt:¬d.rules.vh<0:=by omega
 have hp0:aK Pg 95 [eX d,.int .i64 0] (.bl true):=Kq (by omega) hn;have hb:PV.beq LC.p LC.p=true:=FV.beq LC;rw[Ru]at hb;rcases h.ep with⟨he,i,hi,e⟩|⟨he,e⟩
 ·simp[F.fA,aj,av,he,e];refine ai.rA (DL hi) ?_;simp[Rt,he];refine ai.rA (L5 h.jg) ?_;simp[h2];refine ai.rA hp0 ?_;simp[h2,h3,h6];refine ai.rA hp0 ?_;simp[h3,h4,h5,Ru,Bt,h7,hb,hf];refine eW.fD 0 (λ_=>True) [4,82,83,84] (λi=>[]) (λi=>[]) [.keep [4,82,83,84]] ?_;simp;intro K;simp[↓al,↓al];refine aA.plain [] ?_;simp
 ·simp[F.fA,aj,av,he,e,Kt,am3,am4];refine ai.rA (L5 h.jg) ?_;simp[h2];refine ai.rA hp0 ?_;simp[h2,h3,h6];refine ai.rA hp0 ?_;simp[h3,h4,h5,Ru,Bt,h7,hb,hf];refine eW.fD 0 (λ_=>True) [4,82,83,84] (λi=>[]) (λi=>[]) [.keep [4,82,83,84]] ?_;simp;intro K;simp[↓al,↓al];refine aA.plain [] ?_;simp
theorem adG {d:bc} {p:bO} (h:nN d p):aK Pg 281 [eX d,aQ p] (.bl true):=by
 refine ae.intro (aC R.oh.2) (by simp[R.oh]) ?_;have h1:=h.hand;have h2:yL.has=false:=rfl;have hb:=Qo yL;have hf:=E4 yL;have e:mL yL=(.st 100 [.bl false,.int .u32 0,.ar 1 32 (zr 32 (.int .u8 0)),.st 64 [.ar 1 32 (zr 32 (.int .u8 0)),.ar 1 32 (zr 32 (.int .u8 0))],.int .i64 0,.int .i64 0]):=rfl;rw[e]at hb hf;simp[R.oh,aj,av,h1,e];refine⟨hf,?_⟩;refine aA.plain [] ?_;simp[hb]
theorem adH {d:bc} {p:bO} (h:nN d p):aK Pg 282 [eX d,aQ p] (.bl true):=by
 refine ae.intro (aC R.oi.2) (by simp[R.oi]) ?_
 have hg:∀i,i<3->nE d (NU p.ring (i+1)):=by
  intro i hi;rcases(by omega:i=0∨i=1∨i=2)with rfl|rfl|rfl
  ·exact h.rp
  ·exact h.rc
  ·exact h.rn
 have hb:=Ic qE;have hf:=sQ qE;simp[R.oi,aj,av];refine eW.fD 3 (λ_=>True) [2,3,4,5] (λi=>[(5,.int .i64 ((i:Int)+1))]) (λi=>[]) [.keep [2,3,4,5]] ?_;simp;refine⟨λi hi K hK=> ?_,λK=> ?_⟩
 ·have hi3:(i:Int)+1≤3:=by omega
  have hw:IntKind.i64.wrap ((i:Int)+1+1)=(i:Int)+1+1:=wrap_i64 (by omega);have b9:=jB p.ring (k:=i+1) (by omega);rw[show((i+1:Nat):Int)=(i:Int)+1 by omega]at b9;have hp:=hg i hi;generalize NU p.ring (i+1)=q at*;simp[↓al,hi3];refine ai.rA b9 ?_;rcases hp with⟨h1,h2⟩|⟨h1,h2⟩
  ·simp[h1];refine ai.rA (LZ h2) ?_;simp[h1,hw];refine⟨[.keep [2,3,4,5],.dr 6],?_⟩;simp;exact hK _ (by simp)
  ·have h0:qE.has=false:=rfl;have A9:PV.beq (ib qE) (.st 77 [(.bl false),(.st 76 [(.int .u32 0),(.int .u32 0),(.ar 1 32 (zr 32 (.int .u8 0))),(.ar 1 32 (zr 32 (.int .u8 0))),(.int .u64 0),(.int .u64 0),(.st 6 [(.bl false),(.int .u64 0),(.ar 1 4 (zr 4 (.int .u64 0)))]),(.int .i64 0),(.bl false)])])=true:=Ic qE;simp[h2,h0,hw,A9];refine⟨hf,[.keep [2,3,4,5],.dr 6],?_⟩;simp;exact hK _ (by simp)
 ·simp[↓al,↓al];refine aA.plain [] ?_;simp
theorem Ku {d:bc} (hl:d.au.length≤8) {k:Int} (hk:k=3∨k=4∨k=5) (h:∀p∈d.au,nN d p) (hn:0≤d.now) (hs:0≤d.rules.vh):aK Pg 186 [eX d,.int .i64 k] (.bl true):=by
 refine ae.intro (aC R.oj.2) (by simp[R.oj]) ?_;simp[R.oj,aj,av];refine eW.fD d.au.length (λ_=>True) [1,2,4,8,9,10] (λi=>[(10,.int .i64 i)]) (λi=>[]) [.keep [1,2,4,8,9,10]] ?_;simp;refine⟨λi hi K hK=> ?_,λK=> ?_⟩
 ·have hx:d.au[i]? =some d.au[i]:=gJ hi;have hp:=h _ (JbQ hi);rcases hk with rfl|rfl|rfl
  ·simp[↓al,hi];refine ai.rA (Rv hp hn hs) ?_;simp[dM hi (by omega)];refine⟨[.keep [1,2,4,8,9,10],.dr 6],?_⟩;simp;exact hK _ (by simp)
  ·simp[↓al,hi];refine ai.rA (adG hp) ?_;simp[dM hi (by omega)];refine⟨[.keep [1,2,4,8,9,10],.dr 6],?_⟩;simp;exact hK _ (by simp)
  ·simp[↓al,hi];refine ai.rA (adH hp) ?_;simp[dM hi (by omega)];refine⟨[.keep [1,2,4,8,9,10],.dr 6],?_⟩;simp;exact hK _ (by simp)
 ·simp[↓al,↓al];refine aA.plain [] ?_;simp
theorem WU {d:bc} (hl:d.au.length≤8) (h:∀(i:Nat) (h:i+1<d.au.length),WN d.au[i].cH d.au[i+1].cH=true):aK Pg 185 [eX d] (.bl true):=by
 refine ae.intro T.iq (by simp[F.iq]) ?_;simp[F.iq,aj,av];refine eW.fD d.au.length (λ_=>True) [1,2,6,7,8] (λi=>[(8,.int .i64 i)]) (λi=>[]) [.keep [1,2,6,7,8]] ?_;simp;refine⟨λi hi K hK=> ?_,λK=> ?_⟩
 ·have hx:d.au[i]? =some d.au[i]:=gJ hi;by_cases hz:i=0
  ·subst hz;simp[↓al,hi];refine⟨[.keep [1,2,6,7,8],.dr 4],?_⟩;simp;exact hK _ (by simp)
  ·obtain⟨j,G0⟩:∃j,i=j+1:=⟨i-1,by omega⟩
   have hj:j<d.au.length:=by omega
   have hy:d.au[j]? =some d.au[j]:=gJ hj;have dq:=h j (by omega);have aei:WN d.au[j].cH d.au[i].cH=true:=by subst G0;exact dq
   have hw:IntKind.i64.wrap ((i:Int)-1)=j:=by rw[wrap_i64 (by omega)];omega
   have ta:(d.au[j].cH.l.map u8).take 32=d.au[j].cH.l.map u8:=tJ (by simp[d.au[j].cH.h]);have tb:(d.au[i].cH.l.map u8).take 32=d.au[i].cH.l.map u8:=tJ (by simp[d.au[i].cH.h]);simp[↓al,hi,hj,hw,show 0<i by omega,dM hi (by omega),aG,ta,tb,(show Op.bytesLess d.au[j].cH.l d.au[i].cH.l=true from aei)];refine⟨[.keep [1,2,6,7,8],.dr 4],?_⟩;simp;exact hK _ (by simp)
 ·have hl8:(d.au.length:Int)≤8:=by omega
  simp[↓al,↓al,hl8];refine aA.plain [] ?_;simp
def rt (i:Nat):vi:=⟨vE (UInt8.ofNat (i+1)),pK i⟩
theorem yT {i j:Nat} (hi:i<3) (hj:j<3) (h:pK i=pK j):i=j:=by
 have h2:=congrArg (λk:Key=>k.l.head?) h;rcases(by omega:i=0∨i=1∨i=2)with rfl|rfl|rfl<;>rcases(by omega:j=0∨j=1∨j=2)with rfl|rfl|rfl<;>simp[pK]at h2<;>rfl
theorem Rw {i j:Nat} (Ha:i<j) (hj:j<3):WN (pK i) (pK j)=true:=by
 rcases(by omega:i=0∧j=1∨i=0∧j=2∨i=1∧j=2)with⟨rfl,rfl⟩|⟨rfl,rfl⟩|⟨rfl,rfl⟩<;>rfl
theorem am5 {i j:Nat} (Ha:i<j) (hj:j<3):UInt8.ofNat (i+1)<UInt8.ofNat (j+1):=by
 rcases(by omega:i=0∧j=1∨i=0∧j=2∨i=1∧j=2)with⟨rfl,rfl⟩|⟨rfl,rfl⟩|⟨rfl,rfl⟩<;>decide
def Rx (l:List vi):Prop:=l.length≤3∧∀(i:Nat) (h:i<l.length),l[i]=rt i
theorem Em {l:List vi} (h:Rx l):aK Pg 283 [cY l] (.bl true):=by
 refine ae.intro T.ek (by simp[F.ek]) ?_;have hl:=h.1;simp[F.ek,aj,av];refine eW.fD l.length (λ_=>True) [0,2,5,6,7] (λi=>[(7,.int .i64 i)]) (λi=>[]) [.keep [0,2,5,6,7]] ?_;simp;refine⟨λi hi K hK=> ?_,λK=> ?_⟩
 ·have hx:l[i]? =some l[i]:=gJ hi;have he:=h.2 i hi;have hp:l[i].D1=vE (UInt8.ofNat (i+1)):=by rw[he];rfl
  have hv:aK Pg 40 [gC l[i].D1] (.bl true):=by rw[hp];exact fQ (tW _) rfl
  by_cases hz:i=0
  ·subst hz;simp[↓al,hi];refine aN.rA hv ?_;simp;refine⟨[.keep [0,2,5,6,7],.dr 4],?_⟩;simp;exact hK _ (by simp)
  ·obtain⟨j,G0⟩:∃j,i=j+1:=⟨i-1,by omega⟩
   have hj:j<l.length:=by omega
   have hy:l[j]? =some l[j]:=gJ hj;have hq:l[j].D1=vE (UInt8.ofNat (j+1)):=by rw[h.2 j hj];rfl
   have dq:=am5 (i:=j) (j:=i) (by omega) (by omega);have hb:=fy (UInt8.ne_of_lt dq);rw[Kn dq,←hp,←hq]at hb;have hw:IntKind.i64.wrap ((i:Int)-1)=j:=by rw[wrap_i64 (by omega)];omega
   simp[↓al,hi];refine aN.rA hv ?_;simp[hj,hw,show 0<i by omega];refine aN.rA hb ?_;simp[dM hi (by omega)];refine⟨[.keep [0,2,5,6,7],.dr 4],?_⟩;simp;exact hK _ (by simp)
 ·have hl8:(l.length:Int)≤16:=by omega
  simp[↓al,↓al,hl8];refine aA.plain [] ?_;simp
def IT (l:List bO):Prop:=l.length≤3∧∀(i:Nat) (h:i<l.length),l[i].cH=pK i
theorem Kv {d:bc} (h:IT d.au) {i:Nat} (hi:i<d.au.length):aK Pg 43 [eX d,aG (pK i)] (.int .i64 i):=by
 have hl:=h.1;refine Rr (by omega) hi (h.2 i hi) (λj hj G0=> ?_);rw[h.2 j hj];intro e;exact absurd (yT (by omega) (by omega) e) (by omega)
theorem Ry {d:bc} (h:Rx d.bH) (hp:IT d.au) (hl:d.bH.length=d.au.length):aK Pg 187 [eX d] (.bl true):=by
 refine ae.intro (aC R.mi.2) (by simp[R.mi]) ?_;have hl3:=h.1;simp[R.mi,aj,av];refine eW.fD d.bH.length (λ_=>True) [1,2,6,7,8] (λi=>[(8,.int .i64 i)]) (λi=>[]) [.keep [1,2,6,7,8]] ?_;simp;refine⟨λi hi K hK=> ?_,λK=> ?_⟩
 ·have hx:d.bH[i]? =some d.bH[i]:=gJ hi;have he:d.bH[i].peer=pK i:=by rw[h.2 i hi];rfl
  have hf:=Kv hp (i:=i) (by omega);rw[←he]at hf;have hn:¬(i:Int)<0:=by omega
  simp[↓al,hi];refine ai.rA hf ?_;simp[hn,dM hi (by omega)];refine⟨[.keep [1,2,6,7,8],.dr 4],?_⟩;simp;exact hK _ (by simp)
 ·simp[↓al,↓al];refine ai.rA (Em h) ?_;simp;refine aA.plain [] ?_;simp
theorem adI {d:bc} (h0:0≤d.qC) (h1:d.qC≤d.now) (h2:d.dT=[]) (h3:d.buckets=[]):aK Pg 190 [eX d] (.bl true):=by
 refine ae.intro T.je (by simp[F.je]) ?_;simp[F.je,aj,av];refine ai.rA (Kq h0 h1) ?_;simp[h2,h3];refine eW.fD 0 (λ_=>True) [1,2,25,26,27] (λi=>[]) (λi=>[]) [.keep [1,2,25,26,27]] ?_;simp;intro K;simp[↓al,↓al,h3];refine eW.fD 0 (λ_=>True) [1,2,52,53,54] (λi=>[]) (λi=>[]) [.keep [1,2,52,53,54]] ?_;simp;intro K;simp[↓al,↓al];refine aA.plain [] ?_;simp
structure Rz (d:bc):Prop where
 so:∀(i:Nat) (h:i+1<d.timers.length),eg d.timers[i] d.timers[i+1]=true
 rg:∀t∈d.timers,2≤t.kind∧t.kind≤5∧d.now<t.at_∧t.at_≤4398046511104∧∃i,∃h:i<d.au.length,t.peer=pK i∧(t.kind=4->d.au[i].jg≠0)
 un:∀(i j:Nat) (hi:i<d.timers.length) (hj:j<d.timers.length),i<j->¬(d.timers[j].peer=d.timers[i].peer∧d.timers[j].kind=d.timers[i].kind)
 len:d.timers.length≤1000
theorem adJ {l:List cV} (hl:l.length≤1000) {k:Key} {n:Int} (h:∀t∈l,t.kind≠n):aK Pg 287 [cC l,aG k,.int .i64 n] (.bl false):=by
 refine ae.intro (aC R.pq.2) (by simp[R.pq]) ?_;simp[R.pq,aj,av];refine eW.fD l.length (λ_=>True) [2,4,6,9,10,11] (λi=>[(11,.int .i64 i)]) (λi=>[]) [.keep [2,4,6,9,10,11]] ?_;simp;refine⟨λi hi K hK=> ?_,λK=> ?_⟩
 ·have hx:l[i]? =some l[i]:=gJ hi;have he:=h _ (JbQ hi);by_cases h1:l[i].peer=k
  ·simp[↓al,hi,he,h1,dM hi (by omega)];refine⟨[.keep [2,4,6,9,10,11],.dr 8],?_⟩;simp;exact hK _ (by simp)
  ·simp[↓al,hi,he,wT,h1,dM hi (by omega)];refine⟨[.keep [2,4,6,9,10,11],.dr 8],?_⟩;simp;exact hK _ (by simp)
 ·simp[↓al,↓al];refine aA.plain [] ?_;simp
theorem En {l:List cV} (hl:l.length≤1000) (Xw:∀(i:Nat) (h:i+1<l.length),eg l[i] l[i+1]=true)
  (hrg:∀t∈l,2≤t.kind∧t.kind≤5∧0≤t.at_∧t.at_≤4398046511104)
  (OI:∀(i j:Nat) (hi:i<l.length) (hj:j<l.length),i<j->¬(l[j].peer=l[i].peer∧l[j].kind=l[i].kind)):aK Pg 286 [cC l] (.bl true):=by
 refine ae.intro T.eo (by simp[F.eo]) ?_;simp[F.eo,aj,av];refine eW.fD l.length (λ_=>True) [0,2,7,8,9] (λi=>[(9,.int .i64 i)]) (λi=>[]) [.keep [0,2,7,8,9]] ?_;simp;refine⟨λi hi K hK=> ?_,λK=> ?_⟩
 ·have hx:l[i]? =some l[i]:=gJ hi;obtain⟨r1,r2,r3,r4⟩:=hrg _ (JbQ hi);have g1:¬l[i].kind<1:=by omega
  have g2:¬5<l[i].kind:=by omega
  have g3:¬l[i].at_<0:=by omega
  have g4:¬4398046511104<l[i].at_:=by omega
  by_cases hz:i=0
  ·subst hz;simp[↓al,hi,g1,g2,g3,g4,cC];refine eW.fD 0 (λ_=>True) [0,2,4,7,8,9,48,49,50] (λi=>[]) (λi=>[]) [.keep [0,2,4,7,8,9,48,49,50]] ?_;simp;intro K2;simp[↓al,↓al];refine⟨[.keep [0,2,7,8,9],.dr 4],?_⟩;simp;exact hK _ (by simp[cC])
  ·obtain⟨j,G0⟩:∃j,i=j+1:=⟨i-1,by omega⟩
   have hj:j<l.length:=by omega
   have hy:l[j]? =some l[j]:=gJ hj;have dq:eg l[j] l[i]=true:=by subst G0;exact Xw j hi
   have hw:IntKind.i64.wrap ((i:Int)-1)=j:=by rw[wrap_i64 (by omega)];omega
   have hlc:=bY l[j] l[i];rw[dq]at hlc;simp[↓al,hi,hj,g1,g2,g3,g4,hw,show 0<i by omega];refine aN.rA hlc ?_;simp[cC,show i≤l.length by omega];refine eW.fD i (λ_=>True) [0,2,4,7,8,9,48,49,50] (λm=>[(50,.int .i64 m)]) (λi=>[]) [.keep [0,2,4,7,8,9,48,49,50]] ?_;simp;refine⟨λm hm K2 sr=> ?_,λK2=> ?_⟩
   ·have wY:m<l.length:=by omega
    have wv:m<min i l.length:=by omega
    have hxm:l[m]? =some l[m]:=gJ wY;have hu:=OI m i wY hi hm;by_cases hp:l[i].peer=l[m].peer
    ·have hk:¬l[i].kind=l[m].kind:=λe=>hu ⟨hp,e⟩;simp[↓al,hm,wY,hp,hk,dM hm (by omega)];refine⟨wv,[.keep [0,2,4,7,8,9,48,49,50],.dr 6],?_⟩;simp;exact sr _ (by simp)
    ·simp[↓al,hm,wY,wT,hp,dM hm (by omega)];refine⟨wv,[.keep [0,2,4,7,8,9,48,49,50],.dr 6],?_⟩;simp;exact sr _ (by simp)
   ·simp[↓al,↓al,dM hi (by omega)];refine⟨[.keep [0,2,7,8,9],.dr 4],?_⟩;simp;exact hK _ (by simp[cC])
 ·simp[↓al,↓al];refine aA.plain [] ?_;simp
theorem RA {d:bc} (h:Rz d) (hn:0≤d.now) (hp:IT d.au) (hh:∀p∈d.au,nN d p):aK Pg 189 [eX d] (.bl true):=by
 refine ae.intro T.gM (by simp[F.gM]) ?_;have hl:=h.len;have oR:=hp.1
 have hv:aK Pg 286 [cC d.timers] (.bl true):=
  En hl h.so (λt ht=>by obtain⟨r1,r2,r3,r4,_⟩:=h.rg t ht;exact⟨r1,r2,by omega,r4⟩) h.un
 simp[F.gM,aj,av];refine ai.rA hv ?_;simp;refine eW.fD d.timers.length (λ_=>True) [1,2,13,14,15] (λi=>[(15,.int .i64 i)]) (λi=>[]) [.keep [1,2,13,14,15]] ?_;simp;refine⟨λi hi K hK=> ?_,λK=> ?_⟩
 ·have hx:d.timers[i]? =some d.timers[i]:=gJ hi;obtain⟨r1,r2,r3,r4,j,hj,he,h4⟩:=h.rg _ (JbQ hi);have hf:=Kv hp hj;rw[←he]at hf;have G1:¬d.timers[i].at_≤d.now:=by omega
  have hn2:¬(j:Int)<0:=by omega
  have hy:d.au[j]? =some d.au[j]:=gJ hj;simp[↓al,hi];refine ai.rA hf ?_;by_cases hk:d.timers[i].kind=4
  ·have h4':=h4 hk;simp[G1,hn2,hk,hj,h4',dM hi (by omega)];refine⟨[.keep [1,2,13,14,15],.dr 4],?_⟩;simp;exact hK _ (by simp)
  ·simp[G1,hn2,hk,dM hi (by omega)];refine⟨[.keep [1,2,13,14,15],.dr 4],?_⟩;simp;exact hK _ (by simp)
 ·simp[↓al,↓al];refine eW.fD d.au.length (λ_=>True) [1,2,48,49,50] (λi=>[(50,.int .i64 i)]) (λi=>[]) [.keep [1,2,48,49,50]] ?_;simp;refine⟨λi hi K hK=> ?_,λK=> ?_⟩
  ·have hx:d.au[i]? =some d.au[i]:=gJ hi;have h5:=(hh _ (JbQ hi)).hand;have h6:d.au[i].hand.has=false:=by rw[h5];rfl
   have hs:aK Pg 287 [cC d.timers,aG d.au[i].cH,.int .i64 1] (.bl false):=
    adJ hl (λt ht=>by have:=(h.rg t ht).1;omega)
   simp[↓al,hi];refine aN.rA hs ?_;simp[h6,dM hi (by omega)];refine⟨[.keep [1,2,48,49,50],.dr 7],?_⟩;simp;exact hK _ (by simp)
  ·simp[↓al,↓al];refine aA.plain [] ?_;simp
def Eo (r:ss):List Int:=uM [r.p,r.c,r.n]
def si (p:bO):List gr:=(Eo p.ring).map (λx=>⟨x,p.cH,true⟩)
theorem RB (r:ss):(Eo r).length≤3:=Ae _
structure s6 (d:bc):Prop where
 so:uq d.aS
 pm:d.aS.Perm (d.au.flatMap si)
theorem uq.lt {l:List gr} (h:uq l):∀(k i:Nat) (hk:i+k+1<l.length),l[i].index<l[i+k+1].index
 |0,i,hk=>h.2 i hk
 |k+1,i,hk=>Int.lt_trans (uq.lt h k i (by omega)) (h.2 (i+k+1) (by omega))
theorem uq.lt' {l:List gr} (h:uq l) {i j:Nat} (Ha:i<j) (hj:j<l.length):l[i].index<l[j].index:=by
 obtain⟨k,rfl⟩:∃k,j=i+k+1:=⟨j-i-1,by omega⟩
 exact h.lt k i hj
theorem uq.nodup {l:List gr} (h:uq l):(l.map (λs=>s.index)).Nodup:=by
 rw[List.nodup_iff_pairwise_ne,List.pairwise_map,JkQ];intro i j hi hj Ha e;have:=h.lt' Ha hj;omega
theorem RC (p:bO):(si p).map (λs=>s.index)=Eo p.ring:=by simp[si,Function.comp_def]
theorem s6.nd {d:bc} (h:s6 d):(d.au.flatMap (λp=>Eo p.ring)).Nodup:=by
 have h1:=h.so.nodup
 have h2:(d.aS.map (λs=>s.index)).Perm (d.au.flatMap (λp=>Eo p.ring)):=by
  have:=h.pm.map (λs=>s.index);rw[List.map_flatMap]at this;simpa[RC]using this
 exact h2.nodup_iff.1 h1
theorem L6 {α β:Type} {f:α->List β}:∀ {l:List α},(l.flatMap f).Nodup->∀x∈l,(f x).Nodup
 |
  y::l,h,x,hx=>by
  rw[JsJ,JgJ]at h
  rcases cJ.1 hx with rfl|hx
  ·exact h.1
  ·exact L6 h.2.1 x hx
theorem s6.nd1 {d:bc} (h:s6 d) {p:bO} (hp:p∈d.au):(Eo p.ring).Nodup:=L6 h.nd p hp
theorem L7 {l:List bO}:(l.flatMap si).length≤3*l.length:=by
 induction l with
 |nil=>simp
 |
  cons p l ih=>
  rw[JsJ,JaJ,JcX]
  have:(si p).length≤3:=by rw[si,JaX];exact RB _
  omega
theorem s6.len {d:bc} (h:s6 d) (hp:d.au.length≤3):d.aS.length≤9:=by
 have h1:=h.pm.length_eq;have h2:=L7 (l:=d.au);omega
theorem s6.find {d:bc} (h:s6 d) (hp:d.au.length≤3) {p:bO} (hm:p∈d.au) {x:Int} (hx:x∈Eo p.ring):
  aK Pg 44 [bL d.aS,.int .u32 x] (.tup [aU ⟨x,p.cH,true⟩,.bl true]):=by
 have iD:(⟨x,p.cH,true⟩:gr)∈d.aS:=by
  rw[h.pm.mem_iff,JlZ];exact⟨p,hm,by rw[si,JhW];exact⟨x,hx,rfl⟩⟩
 obtain⟨f,hf,he⟩:=List.mem_iff_getElem.1 iD;have hl:=h.len hp;have:=GJ (l:=d.aS) (by omega) (x:=x) hf (by rw[he]) (λj hj hjf=>by have:=h.so.lt' hjf hf;rw[he]at this;simp at this;omega);rw[he]at this;exact this
def OB (l:List bO) (i:Nat):Nat:=((l.take i).flatMap si).length
theorem RD {l:List bO} {i:Nat} (h:i<l.length):OB l (i+1)=OB l i+(Eo l[i].ring).length:=by
 unfold OB;rw[JcZ h,List.flatMap_append,JaJ];simp[si]
theorem adK (l:List bO) (i:Nat):OB l i≤3*i:=by
 have:=L7 (l:=l.take i);rw[lJ]at this;unfold OB;omega
theorem WV {d:bc} (h:s6 d) (hp:IT d.au) (hh:∀p∈d.au,nN d p):aK Pg 188 [eX d] (.bl true):=by
 refine ae.intro T.ir (by simp[F.ir]) ?_;have hl:=h.len hp.1;have oR:=hp.1;have hv:=Ko (by omega) h.so;simp[F.ir,aj,av];refine ai.rA hv ?_;simp;refine eW.fD d.au.length (λ_=>True) [1,2,3,22,23,24] (λi=>[(3,.int .i64 (OB d.au i)),(24,.int .i64 i)]) (λi=>[]) [.keep [1,2,3,22,23,24]] ?_;simp[show OB d.au 0=0 from rfl];refine⟨λi hi K hK=> ?_,λK=> ?_⟩
 ·have hx:d.au[i]? =some d.au[i]:=gJ hi;have hm:=JbQ hi;have h5:=(hh _ hm).hand;have h6:d.au[i].hand.has=false:=by rw[h5];rfl
  have He:=h.nd1 hm;have hfn:∀x∈Eo d.au[i].ring,aK Pg 44 [bL d.aS,.int .u32 x] (.tup [aU ⟨x,d.au[i].cH,true⟩,.bl true]):=λx hx=>h.find oR hm hx;have hLc:=gI d.au[i].ring;have hc:=RD hi;have rD:=adK d.au i;have hl3:=RB d.au[i].ring;have e3:uM [d.au[i].ring.p,d.au[i].ring.c,d.au[i].ring.n]=Eo d.au[i].ring:=rfl;rw[e3]at hLc;generalize Eo d.au[i].ring=L at*;rw[hc]at hK;simp[↓al,hi,h6];refine ai.rA hLc ?_;simp;refine eW.fD L.length (λ_=>True) [1,2,3,5,22,23,24,57,58,59] (λj=>[(3,.int .i64 ((OB d.au i:Int)+j)),(59,.int .i64 j)]) (λi=>[]) [.keep [1,2,3,5,22,23,24,57,58,59]] ?_;simp;refine⟨λj hj K2 sr=> ?_,λK2=> ?_⟩
  ·have hy:L[j]? =some L[j]:=gJ hj;have hf:=hfn _ (JbQ hj);have hw3:IntKind.i64.wrap ((OB d.au i:Int)+j+1)=(OB d.au i:Int)+((j:Int)+1):=by rw[wrap_i64 (by omega)];omega
   simp[↓al,hj];refine ai.rA hf ?_;simp[hw3,dM hj (by omega)];refine⟨[.keep [1,2,3,5,22,23,24,57,58,59],.dr 10],?_⟩;simp;exact sr _ (by simp)
  ·simp[↓al,↓al];refine ai.rA hLc ?_;simp;refine eW.fD L.length (λ_=>True) [1,2,3,5,12,22,23,24,90,91,92] (λj=>[(92,.int .i64 j)]) (λi=>[]) [.keep [1,2,3,5,12,22,23,24,90,91,92]] ?_;simp;refine⟨λj hj K3 hK3=> ?_,λK3=> ?_⟩
   ·have hy:L[j]? =some L[j]:=gJ hj;simp[↓al,hj,oC,show j≤L.length by omega];refine eW.fD j (λ_=>True) [1,2,3,5,12,14,22,23,24,90,91,92,99,100,101] (λm=>[(101,.int .i64 m)]) (λi=>[]) [.keep [1,2,3,5,12,14,22,23,24,90,91,92,99,100,101]] ?_;simp;refine⟨λm hm2 K4 hK4=> ?_,λK4=> ?_⟩
    ·have wY:m<L.length:=by omega
     have wv:m<min j L.length:=by omega
     have hxm:L[m]? =some L[m]:=gJ wY
     have cI:¬L[j]=L[m]:=by
      intro e;exact JkQ.1 (List.nodup_iff_pairwise_ne.1 He) m j wY hj hm2 e.symm
     simp[↓al,hm2,wv,cI,dM hm2 (by omega)];refine⟨[.keep [1,2,3,5,12,14,22,23,24,90,91,92,99,100,101]],?_⟩;simp;exact hK4 _ (by simp)
    ·simp[↓al,↓al,dM hj (by omega)];refine⟨[.keep [1,2,3,5,12,22,23,24,90,91,92]],?_⟩;simp;exact hK3 _ (by simp[oC])
   ·simp[↓al,↓al,dM hi (by omega)];refine⟨[.keep [1,2,3,22,23,24],.dr 5],?_⟩;simp;exact hK _ (by simp)
 ·have hcn:OB d.au d.au.length=d.aS.length:=by
   unfold OB;rw[JcJ];exact h.pm.length_eq.symm
  simp[↓al,↓al,hcn];refine aA.plain [] ?_;simp
end Go.Ab
