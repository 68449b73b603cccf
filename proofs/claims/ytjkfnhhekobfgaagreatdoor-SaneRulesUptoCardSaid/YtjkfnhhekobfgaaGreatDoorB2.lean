/- Copies, the reference of rings, codes. No condition. -/
import Derived.Test.YtjkfnhhekobfgaaGreatDoorB1
import Derived.Test.YtjkfnhhekobfgaaGreatDoorA5
set_option maxRecDepth 10000
set_option maxHeartbeats 4000000
set_option linter.all false
namespace Go.Ab
open Go.Ab
structure Ui (d:cK):Prop where
 aa:d.aa.length≤1048576
 aV:d.aV.length≤1048576
 bq:d.bq.length≤1048576
 timers:d.timers.length≤1048576
 aR:d.aR.length≤1048576
 buckets:d.buckets.length≤1048576
 bD:∀p∈d.aa,p.bD.length≤1048576∧∀b∈p.bD,b.length≤1048576
theorem BD {α β:Type} (f:α->β) (l:List α) (i:Nat) (h:i<l.length):(l.map f).set i (f l[i])=l.map f:=by
 rw[←List.map_set,List.set_getElem_self]
end Go.Ab
noncomputable section D3s
namespace Go.Ab
open Go.Ab
end Go.Ab
end D3s
noncomputable section D4s
namespace Go.Ab
open Go.Ab
def U64 (n:Int):Prop:=0≤n∧n≤18446744073709551615
def abE (r:nO):Prop:=U64 r.p.pk.next∧U64 r.c.pk.next∧U64 r.n.pk.next
structure alj (d:cK):Prop extends Ui d where
 ring:∀p∈d.aa,abE p.ring
end Go.Ab
end D4s
noncomputable section D5s
namespace Go.Ab
open Go.Ab
theorem yy (k sz:Nat) (l0:List PV):∀(l:List PV) (i:Nat) (x:PV),jj k sz l0 (l.set i x)=(jj k sz l0 l).set i (iB k sz l0 x)
 |[],i,x=>by simp
 |p::l,0,x=>by simp
 |p::l,i+1,x=>by simp[yy k sz l0 l i x]
@[simp] theorem MN (k sz:Nat) (l:List PV) (e:fg) (p:PV):iB k sz l (oV e p)=oV e (iB k sz l p):=by
 simp[oV,jj]
theorem rS {l:List fg} {i:Nat} (h:i<l.length) {p:PV} (hp:p=br l[i]):(l.map br).set i p=l.map br:=by
 rw[hp];exact BD br l i h
theorem bV {d:cK} (h:Ui d):ai Pg I.bV [bE d] [] (λr fp=>r=cO d (.rs KB [] 0 d.aa.length d.aa.length 464 .tip)∧fp=[.arr 464 (d.aa.map br)]):=by
 refine ai.intro T.bV (by simp[F.bV]) ?_
 have hp:=h.aa
 simp(disch:=omega) [F.bV,aj,aF,bE,cO,fk]
 refine⟨⟨by omega,by omega⟩,?_⟩
 refine fb.fG d.aa.length (λ_=>True) [1,2,13,14] (λi=>[(14,.int .i64 i)]) (λi=>[]) [.keep [1,2,13,14]] ?_
 simp
 refine⟨λi hi K hK=> ?_,λK=> ?_⟩
 ·have hx:d.aa[i]? =some d.aa[i]:=gJ hi
  have hs:=h.bD _ (List.getElem_mem hi)
  obtain⟨m,hm⟩:∃m,d.aa[i].bD=m:=⟨_,rfl⟩
  rw[hm]at hs
  simp[↓ah,hx,hi,hm,jv]
  refine fb.fG m.length (λ_=>True) [1,2,3,4,13,14,22,23,24] (λj=>[(4,.rs 4 [] 0 j j 1 .tip),(24,.int .i64 j)]) (λj=>[(4,.arr 1 ((m.take j).map fV))]) [.vt 4 4 1] ?_
  simp
  refine⟨λj hj K2 lX=> ?_,λK2=> ?_⟩
  ·have hy:m[j]? =some m[j]:=gJ hj
   have hb:=hs.2 _ (List.getElem_mem hj)
   have Sp:min j m.length=j:=by omega
   simp(disch:=omega) [↓ah,hy,hj,fV]
   refine⟨⟨by omega,by omega⟩,⟨by omega,by omega⟩,[.keep [1,2,3,4,13,14,22,23,24],.fz 31],?_⟩
   simp
   exact lX _ (by simp[List.take_add_one,hy,fV])
  ·simp(disch:=omega) [↓ah,↓ah,hx,hi,↓ah]
   refine⟨[.keep [1,2,13,14],.fz 4],?_⟩
   simp
   refine hK _ ?_
   simp[yy]
   exact rS hi (by rw[←hm];rfl)
 ·simp[↓ah,↓ah]
  have hr:=h.aV
  have qf:=h.bq
  have ht:=h.timers
  have YG:=h.aR
  have hb:=h.buckets
  refine qD.run [44,47] rfl ?_
  simp(disch:=omega) [ee,b6,cN,fH,eU]
  refine⟨⟨by omega,by omega⟩,⟨by omega,by omega⟩,?_⟩
  refine qD.run [52,55] rfl ?_
  simp(disch:=omega)
  refine⟨⟨by omega,by omega⟩,⟨by omega,by omega⟩,⟨by omega,by omega⟩,?_⟩
  refine al.with [.keep [2],.dr 1,.fz 44,.fz 47,.fz 52,.fz 55,.fz 60] [9] ?_
  simp
def kW (r:nO) (k:Nat):rl:=if k=1 then r.p else if k=2 then r.c else r.n
theorem dW (r:nO) {k:Nat} (h:k=1∨k=2∨k=3):bg Pg I.dW [gi r,.int .i64 k] (iD (kW r k)):=by
 refine ai.intro T.dW (by simp[F.dW]) ?_
 rcases h with rfl|rfl|rfl<;>
 ·simp[F.dW,aj,aF]
  refine al.plain [] ?_
  simp[kW]
end Go.Ab
end D5s
namespace Go.Ab
open Go.Ab
end Go.Ab
noncomputable section E1s
namespace Go.Ab
open Go.Ab
@[simp] theorem Yq:eC 1=[KB]:=rfl
structure qJ where
 l:List UInt8
 at_:Nat
def gI (c:qJ):PV:= .st 2 [fV c.l,.int .i64 c.at_]
@[simp] theorem cE (e:qJ):Pure (gI e):=by simp[gI]
@[simp↓] theorem RH (e:qJ) (r:List Step):bf (gI e) (.f 0 0::r)=bf (fV e.l) r:=by simp[gI,av]
@[simp↓] theorem RI (e:qJ) (r:List Step):bf (gI e) (.f 1 1::r)=bf (.int .i64 e.at_) r:=by simp[gI,av]
@[simp↓] theorem RJ (e:qJ) (n:Nat):eL (gI e) [.f 1 1] (.int .i64 n)=some (gI {e with at_:=n}):=by simp[gI,av]
structure iS (c:qJ):Prop where
 len:c.l.length≤1048576
 at_:c.at_≤c.l.length
theorem EZ (c:qJ):ai Pg I.dO [.pt KB [] 0] [.box (gI c)] (λr fp=>r= .bl (decide (c.at_<c.l.length))∧fp=[.box (gI c)]):=by
 refine ai.intro T.dO (by simp[F.dO]) ?_
 simp[F.dO,aj,aF]
 refine al.with [] [KB] ?_
 simp
def mq (c:qJ) (n:Nat):Nat×qJ:=if h:c.at_<c.l.length∧1≤n then((c.l[c.at_]'h.1).toNat%n,{c with at_:=c.at_+1})else(0,c)
theorem eV {c:qJ} (h:iS c) (n:Nat):iS (mq c n).2:=by
 unfold mq;split
 ·rename_i hh;exact⟨h.len,hh.1⟩
 ·exact h
theorem eW (c:qJ) {n:Nat} (h:1≤n):(mq c n).1<n:=by
 unfold mq;split
 ·exact Nat.mod_lt _ h
 ·exact h
theorem bP {c:qJ} (h:iS c) (n:Nat) (hn:n≤1048576):ai Pg I.aC [.pt KB [] 0,.int .i64 n] [.box (gI c)] (λr fp=>r= .int .i64 (mq c n).1∧fp=[.box (gI (mq c n).2)]):=by
 refine ai.intro T.aC (by simp[F.aC]) ?_
 have hlen:=h.len
 simp[F.aC,aj,aF]
 refine an.gen [KB] [] [.box (gI c)] (EZ c) (by simp[getAll]) (by simp) (by simp) (by simp[ab,ae,bM,idx]) (by simp[af,(cE c).refs]) (by simp[aD,aB,bp,idx]) (by simp[aE,(cE c).aB]) (by simp[af,ae,(cE c).refs]) ?_
 simp[bb,aE,aB,(cE c).aB]
 by_cases hl:c.at_<c.l.length
 ·by_cases h1:1≤n
  ·have hw:IntKind.i64.wrap ((c.at_:Int)+1)=((c.at_+1:Nat):Int):=by rw[wrap_i64 (by omega)];rfl
   have hx:c.l[c.at_]? =some c.l[c.at_]:=gJ hl
   have hb:=(c.l[c.at_]).toNat_lt
   have hm:=Nat.mod_le (c.l[c.at_]).toNat n
   have hq:IntKind.i64.wrap (((c.at_+1:Nat):Int)-1)=(c.at_:Int):=by rw[wrap_i64 (by omega)];omega
   have Ed:IntKind.i64.wrap (((c.l[c.at_]).toNat:Int))=((c.l[c.at_]).toNat:Int):=wrap_i64 (by omega)
   have hw4:IntKind.i64.wrap (((c.l[c.at_]).toNat:Int).tmod n)=((c.l[c.at_].toNat%n:Nat):Int):=by
    rw[←Int.ofNat_tmod];exact wrap_i64 (by omega)
   simp[hl,show¬(n:Int)<1 by omega,hw,hq,hx,Ed,hw4,-Int.natCast_add,-Int.natCast_emod]
   refine⟨λh'=>absurd h' (by omega),λ_=> ?_⟩
   simp only[u8]
   simp[Ed,show¬n=0 by omega]
   refine al.with [] [KB] ?_
   simp[mq,hl,h1]
   rw[←Int.ofNat_tmod];rfl
  ·have h0:n=0:=by omega
   subst h0
   simp[hl]
   refine al.with [] [KB] ?_
   simp[mq]
 ·simp[hl]
  intro _
  refine al.with [] [KB] ?_
  simp[mq,hl]
theorem sD (a b:Nat) (ha:a<4611686018427387904) (hb:b<4611686018427387904):bits .or .i64 (a:Int) (b:Int)=((a|||b:Nat):Int):=by
 have hx:a|||b<2^62:=Nat.or_lt_two_pow (by omega) (by omega)
 have h1:(BitVec.ofInt 64 (a:Int)).toNat=a:=by
  rw[BitVec.ofInt_natCast,BitVec.toNat_ofNat];exact Nat.mod_eq_of_lt (by omega)
 have h2:(BitVec.ofInt 64 (b:Int)).toNat=b:=by
  rw[BitVec.ofInt_natCast,BitVec.toNat_ofNat];exact Nat.mod_eq_of_lt (by omega)
 show IntKind.i64.wrap ((BitVec.ofInt 64 (a:Int)|||BitVec.ofInt 64 (b:Int)).toNat:Int)=_
 rw[BitVec.toNat_or,h1,h2]
 exact wrap_i64 (by omega)
theorem an.wG {P:Program} {s:St} {α:Type} {d:Option Nat} {f:FuncId} {args gY:List PV} {c:qJ} {Φ:α->Prop} {r:α->PV} {c':α->qJ} {K:St->Prop} {t:Tg K} (k:Nat) (hA:ai P f gY [.box (gI c)] λx fp=>∃w,Φ w∧x=r w∧fp=[.box (gI (c' w))]) (hb:get s.bx k=some (.box (gI c)))
  (DW:ab (bM [k]) args=true) (ha:jo (aD (bp [k]) args)=gY) (hr:∀w,Pure (r w)) (h:∀w,Φ w->K ({s with bx:=put s.bx k (.box (gI (c' w)))}.put d (r w))):an P s d f args K t:=by
 subst ha
 refine⟨[k],[],[.box (gI c)],_,by simp[getAll,hb],by simp,by simp,DW,by simp[af,(cE c).refs],ai.W9 (by simpa[aE,(cE c).aB]using hA),?_⟩
 rintro x fp ⟨w,hw,rfl,rfl⟩
 refine⟨⟨rfl,(hr w).refs _,by simp[af,(cE _).refs]⟩,?_⟩
 simpa[bb,aE,(cE _).aB,(hr w).aB]using h w hw
theorem an.qj {P:Program} {s:St} {d:Option Nat} {f:FuncId} {args gY:List PV} {c c':qJ} {r:PV} {K:St->Prop} {t:Tg K} (k:Nat) (hA:ai P f gY [.box (gI c)] λx fp=>x=r∧fp=[.box (gI c')]) (hb:get s.bx k=some (.box (gI c)))
  (DW:ab (bM [k]) args=true) (ha:jo (aD (bp [k]) args)=gY) (hr:Pure r) (h:K ({s with bx:=put s.bx k (.box (gI c'))}.put d r)):an P s d f args K t:=by
 refine an.gen [k] [] [.box (gI c)] hA (by simp[getAll,hb]) (by simp) (by simp) DW (by simp[af,(cE c).refs]) ha (by simp[aE,(cE c).aB]) ⟨rfl,hr.refs _,by simp[af,(cE c').refs]⟩ ?_
 simpa[bb,aE,(cE c').aB,hr.aB]using h
def bool (c:qJ):Bool×qJ:=(decide ((mq c 2).1=1),(mq c 2).2)
theorem yz {c:qJ} (h:iS c):ai Pg I.cR [.pt KB [] 0] [.box (gI c)] (λr fp=>r= .bl (bool c).1∧fp=[.box (gI (bool c).2)]):=by
 refine ai.intro T.cR (by simp[F.cR]) ?_
 simp[F.cR,aj,aF]
 refine an.qj KB (bP h 2 (by omega)) (by simp) (by simp[ab,ae,bM,idx]) (by simp[aD,aB,bp,idx]) (by simp) ?_
 simp
 refine al.with [] [KB] ?_
 simp[bool,af,(cE _).refs,aE,(cE _).aB]
 omega
theorem As {c:qJ} (h:iS c) (n:Nat) (hn:n≤16777216) (h1:1≤n):ai Pg I.cZ [.pt KB [] 0,.int .i64 n] [.box (gI c)] (λr fp=>∃m c',iS c'∧m<n∧r= .int .i64 (m:Nat)∧fp=[.box (gI c')]):=by
 refine ai.intro T.cZ (by simp[F.cZ]) ?_
 simp[F.cZ,aj,aF,show¬(n:Int)<1 by omega]
 refine an.qj KB (bP h 256 (by omega)) (by simp) (by simp[ab,ae,bM,idx]) (by simp[aD,aB,bp,idx]) (by simp) ?_
 have l1:=eW c (n:=256) (by omega)
 have o1:=eV h 256
 generalize mq c 256=a at*
 simp
 refine an.qj KB (bP o1 256 (by omega)) (by simp) (by simp[ab,ae,bM,idx]) (by simp[aD,aB,bp,idx]) (by simp) ?_
 have l2:=eW a.2 (n:=256) (by omega)
 have o2:=eV o1 256
 generalize mq a.2 256=b at*
 simp
 refine an.qj KB (bP o2 256 (by omega)) (by simp) (by simp[ab,ae,bM,idx]) (by simp[aD,aB,bp,idx]) (by simp) ?_
 have l3:=eW b.2 (n:=256) (by omega)
 have o3:=eV o2 256
 generalize mq b.2 256=e at*
 simp
 refine⟨by omega,?_⟩
 have w1:IntKind.i64.wrap ((a.1:Int)*2^min 16 IntKind.i64.bits)=((a.1*65536:Nat):Int):=by
  simp[IntKind.bits];rw[wrap_i64 (by omega)]
 have w2:IntKind.i64.wrap ((b.1:Int)*2^min 8 IntKind.i64.bits)=((b.1*256:Nat):Int):=by
  simp[IntKind.bits];rw[wrap_i64 (by omega)]
 have hx:a.1*65536|||b.1*256<2^24:=Nat.or_lt_two_pow (by omega) (by omega)
 have hy:(a.1*65536|||b.1*256)|||e.1<2^24:=Nat.or_lt_two_pow hx (by omega)
 rw[w1,w2,sD _ _ (by omega) (by omega),sD _ _ (by omega) (by omega)]
 generalize (a.1*65536|||b.1*256)|||e.1=m at*
 generalize a.1*65536|||b.1*256=m2 at*
 have ht:((m:Int)).tmod n=((m%n:Nat):Int):=by rw[←Int.ofNat_tmod]
 refine al.with [] [KB] ?_
 simp[af,(cE _).refs,aE,(cE _).aB,-Int.natCast_emod]
 exact⟨m%n,e.2,o3,Nat.mod_lt _ (by omega),ht,rfl⟩
end Go.Ab
end E1s
noncomputable section E2s
namespace Go.Ab
open Go.Ab
theorem cu {i n:Nat} (h:i<n) (hn:n≤1048576):IntKind.i64.wrap ((i:Int)+1)=(i:Int)+1:=wrap_i64 (by omega)
theorem Gl (m:Int):∃b:UInt8,PV.int .u8 (IntKind.u8.wrap m)=u8 b:=by
 have h:0≤IntKind.u8.wrap m∧IntKind.u8.wrap m<256:=by
  simp only[IntKind.wrap,IntKind.bits,IntKind.signed];simp;omega
 refine⟨UInt8.ofNat (IntKind.u8.wrap m).toNat,?_⟩
 simp only[u8]
 congr 1
 rw[UInt8.toNat_ofNat']
 omega
def BE (f:Nat->UInt8) (n i:Nat):List UInt8:=(List.range n).map λj=>if j<i then f j else 0
@[simp] theorem RK (f:Nat->UInt8) (n i:Nat):(BE f n i).length=n:=by simp[BE]
theorem H8 (f:Nat->UInt8) (n:Nat):List.replicate n (PV.int .u8 0)=(BE f n 0).map u8:=by
 apply List.ext_getElem<;>simp[BE,u8]
theorem Ko (f:Nat->UInt8) (n i:Nat):((BE f n i).map u8).set i (u8 (f i))=(BE f n (i+1)).map u8:=by
 rw[←List.map_set]
 congr 1
 apply List.ext_getElem
 ·simp
 ·intro j h1 h2
  simp only[BE,List.getElem_set,List.getElem_map,List.getElem_range]
  by_cases e:i=j
  ·subst e;simp
  ·simp only[e,if_false]
   by_cases e2:j<i
   ·rw[if_pos e2,if_pos (by omega)]
   ·rw[if_neg e2,if_neg (by omega)]
theorem Df {c:qJ} (h:iS c) (n:Nat) (hn:n≤1048576):ai Pg I.dx [.pt KB [] 0,.int .i64 n] [.box (gI c)] (λr fp=>∃w:List UInt8×qJ,(iS w.2∧w.1.length=n)∧r=fV w.1∧fp=[.box (gI w.2)]):=by
 refine ai.intro T.dx (by simp[F.dx]) ?_
 simp[F.dx,aj,aF]
 refine⟨⟨by omega,by omega⟩,?_⟩
 refine an.qj KB (bP h 256 (by omega)) (by simp) (by simp[ab,ae,bM,idx]) (by simp[aD,aB,bp,idx]) (by simp) ?_
 have o1:=eV h 256
 generalize mq c 256=a at*
 simp
 generalize IntKind.i64.wrap (IntKind.i64.wrap (2*↑a.snd.at_)+1)=st
 have hf:∃f:Nat->UInt8,∀i:Nat,PV.int .u8 (IntKind.u8.wrap (IntKind.i64.wrap ((a.1:Int)+IntKind.i64.wrap ((i:Int)*st))))=u8 (f i):=
  ⟨λi=>Classical.choose (Gl _),λi=>Classical.choose_spec (Gl _)⟩
 obtain⟨f,hf⟩:=hf
 rw[H8 f]
 refine fb.fG n (λ_=>True) [0,4,5,6,7,20,21] (λi=>[(21,.int .i64 i)]) (λi=>[(10,.arr 1 ((BE f n i).map u8))]) [.keep [0,4,5,6,7,20,21]] ?_
 simp
 refine⟨λi hi K hK=> ?_,λK=> ?_⟩
 ·simp[↓ah,hi,hf,cu hi hn]
  refine⟨⟨rfl,rfl⟩,[.keep [0,4,5,6,7,20,21]],?_⟩
  simp
  exact hK _ (by simp[Ko])
 ·simp[↓ah,↓ah]
  refine al.with [.keep [4],.fz 10] [KB] ?_
  simp[af,(cE _).refs,aE,(cE _).aB,ae,ab]
  exact⟨BE f n n,a.2,⟨o1,by simp⟩,by rw[tJ (by simp)];rfl,rfl⟩
theorem nr {c:qJ} (h:iS c):ai Pg I.bQ [.pt KB [] 0] [.box (gI c)] (λr fp=>∃w:Key×qJ,iS w.2∧r=dU w.1∧fp=[.box (gI w.2)]):=by
 refine ai.intro T.bQ (by simp[F.bQ]) ?_
 simp[F.bQ,aj,aF]
 refine qD.run [KB] rfl ?_
 simp
 refine an.wG KB (Df h 32 (by omega)) (by simp) (by simp[ab,ae,bM,idx]) (by simp[aD,aB,bp,idx]) (by simp) ?_
 rintro⟨l,c'⟩ ⟨hc,hl⟩
 simp at hc hl
 have MY:l.take 32=l:=tJ (by omega)
 simp[hl,fV]
 have e:PV.ar 1 32 (List.take 32 (List.map u8 l)++List.drop 32 (zr 32 (PV.int .u8 0)))=dU ⟨l,hl⟩:=by
  rw[tJ (by simp[hl]),List.drop_of_length_le (by simp[fC])];simp[dU]
 rw[e]
 refine al.with [] [KB] ?_
 simp[af,(cE _).refs,aE,(cE _).aB,(ve _).refs]
 exact⟨⟨l,hl⟩,c',hc,rfl,rfl⟩
def vT (r:vS):Prop:=1≤r.wF∧r.wF≤r.mj∧r.mj≤18446744073709543423∧1000≤r.ret∧r.ret≤3000∧2000≤r.Ap∧r.Ap≤6000∧r.TK=30000∧20000≤r.vf∧r.vf≤r.lr∧r.lr≤100000∧r.ret≤r.Q6∧r.Q6≤20*r.ret∧1≤r.load∧r.load≤6∧1≤r.gC∧r.gC≤8
theorem vT.mk' {a b c d e f g i j k:Int} (h1:1≤a) (h2:a≤b) (h3:b≤18446744073709543423) (h4:1000≤f) (h5:f≤3000) (h6:2000≤g) (h7:g≤6000) (h8:20000≤c) (h9:c≤d) (Ci:d≤100000) (Ee:f≤e) (FM:e≤20*f) (YR:1≤j) (YS:j≤6) (YT:1≤k) (h16:k≤8) (h17:i=30000:=by rfl):vT ⟨a,b,c,d,e,f,g,i,j,k⟩:=
 ⟨h1,h2,h3,h4,h5,h6,h7,h17,h8,h9,Ci,Ee,FM,YR,YS,YT,h16⟩
theorem Dg {c:qJ} (h:iS c):ai Pg I.dy [.pt KB [] 0] [.box (gI c)] (λr fp=>∃w:vS×qJ,(vT w.1∧iS w.2)∧r=fa w.1∧fp=[.box (gI w.2)]):=by
 refine ai.intro T.dy (by simp[F.dy]) ?_
 simp[F.dy,aj,aF]
 refine an.qj KB (bP h 40 (by omega)) (by simp) (by simp[ab,ae,bM,idx]) (by simp[aD,aB,bp,idx]) (by simp) ?_
 have l0:=eW c (n:=40) (by omega)
 have o0:=eV h 40
 generalize mq c 40=x0 at*
 simp(disch:=omega)
 refine an.qj KB (bP o0 20 (by omega)) (by simp) (by simp[ab,ae,bM,idx]) (by simp[aD,aB,bp,idx]) (by simp) ?_
 have l1:=eW x0.2 (n:=20) (by omega)
 have o1:=eV o0 20
 generalize mq x0.2 20=x1 at*
 simp(disch:=omega)
 refine an.qj KB (bP o1 5 (by omega)) (by simp) (by simp[ab,ae,bM,idx]) (by simp[aD,aB,bp,idx]) (by simp) ?_
 have l2:=eW x1.2 (n:=5) (by omega)
 have o2:=eV o1 5
 generalize mq x1.2 5=x2 at*
 simp(disch:=omega)
 refine an.qj KB (bP o2 5 (by omega)) (by simp) (by simp[ab,ae,bM,idx]) (by simp[aD,aB,bp,idx]) (by simp) ?_
 have l3:=eW x2.2 (n:=5) (by omega)
 have o3:=eV o2 5
 generalize mq x2.2 5=x3 at*
 simp(disch:=omega)
 refine an.qj KB (bP o3 6 (by omega)) (by simp) (by simp[ab,ae,bM,idx]) (by simp[aD,aB,bp,idx]) (by simp) ?_
 have l4:=eW x3.2 (n:=6) (by omega)
 have o4:=eV o3 6
 generalize mq x3.2 6=x4 at*
 simp(disch:=omega)
 refine an.qj KB (bP o4 8 (by omega)) (by simp) (by simp[ab,ae,bM,idx]) (by simp[aD,aB,bp,idx]) (by simp) ?_
 have l5:=eW x4.2 (n:=8) (by omega)
 have o5:=eV o4 8
 generalize mq x4.2 8=x5 at*
 simp(disch:=omega)
 refine qD.run [KB] rfl ?_
 simp(disch:=omega)
 refine an.qj KB (bP o5 60 (by omega)) (by simp) (by simp[ab,ae,bM,idx]) (by simp[aD,aB,bp,idx]) (by simp) ?_
 have l6:=eW x5.2 (n:=60) (by omega)
 have o6:=eV o5 60
 generalize mq x5.2 60=x6 at*
 simp(disch:=omega)
 refine qD.run [KB] rfl ?_
 simp(disch:=omega)
 refine an.qj KB (bP o6 40 (by omega)) (by simp) (by simp[ab,ae,bM,idx]) (by simp[aD,aB,bp,idx]) (by simp) ?_
 have l7:=eW x6.2 (n:=40) (by omega)
 have o7:=eV o6 40
 generalize mq x6.2 40=x7 at*
 simp(disch:=omega)
 refine qD.run [KB] rfl ?_
 simp(disch:=omega)
 refine an.qj KB (bP o7 5 (by omega)) (by simp) (by simp[ab,ae,bM,idx]) (by simp[aD,aB,bp,idx]) (by simp) ?_
 have l8:=eW x7.2 (n:=5) (by omega)
 have o8:=eV o7 5
 generalize mq x7.2 5=x8 at*
 simp(disch:=omega)
 refine an.qj KB (bP o8 4 (by omega)) (by simp) (by simp[ab,ae,bM,idx]) (by simp[aD,aB,bp,idx]) (by simp) ?_
 have l9:=eW x8.2 (n:=4) (by omega)
 have o9:=eV o8 4
 generalize mq x8.2 4=x9 at*
 simp(disch:=omega)
 have hP:∃Q:Int,IntKind.i64.wrap ((1000+(x2.1:Int)*500)*(1+(x8.1:Int)))=Q∧1000+(x2.1:Int)*500≤Q∧Q≤20*(1000+(x2.1:Int)*500):=by
  have hc:x8.1=0∨x8.1=1∨x8.1=2∨x8.1=3∨x8.1=4:=by omega
  rcases hc with h|h|h|h|h<;>rw[h]
  ·exact⟨_,wrap_i64 (by omega),by omega,by omega⟩
  ·exact⟨_,wrap_i64 (by omega),by omega,by omega⟩
  ·exact⟨_,wrap_i64 (by omega),by omega,by omega⟩
  ·exact⟨_,wrap_i64 (by omega),by omega,by omega⟩
  ·exact⟨_,wrap_i64 (by omega),by omega,by omega⟩
 obtain⟨Q,hQ,hQ1,hQ2⟩:=hP
 rw[hQ]
 refine⟨λhz=> ?_,λhz=> ?_⟩
 ·refine al.with [] [KB] ?_
  simp[af,(cE _).refs,aE,(cE _).aB,ae,ab]
  exact⟨⟨1152921504606846976,18446744073709543423,20000+(x1.1:Int)*1000,20000+(x1.1:Int)*1000+(x7.1:Int)*1000,Q,1000+(x2.1:Int)*500,2000+(x3.1:Int)*1000,30000,1+(x4.1:Int),1+(x5.1:Int)⟩,x9.2,⟨vT.mk' (by omega) (by omega) (by omega) (by omega) (by omega) (by omega) (by omega) (by omega) (by omega) (by omega) (by omega) (by omega) (by omega) (by omega) (by omega) (by omega),o9⟩,rfl,rfl⟩
 ·refine al.with [] [KB] ?_
  simp[af,(cE _).refs,aE,(cE _).aB,ae,ab]
  exact⟨⟨1+(x0.1:Int),1+(x0.1:Int)+(x6.1:Int),20000+(x1.1:Int)*1000,20000+(x1.1:Int)*1000+(x7.1:Int)*1000,Q,1000+(x2.1:Int)*500,2000+(x3.1:Int)*1000,30000,1+(x4.1:Int),1+(x5.1:Int)⟩,x9.2,⟨vT.mk' (by omega) (by omega) (by omega) (by omega) (by omega) (by omega) (by omega) (by omega) (by omega) (by omega) (by omega) (by omega) (by omega) (by omega) (by omega) (by omega),o9⟩,rfl,rfl⟩
end Go.Ab
end E2s
