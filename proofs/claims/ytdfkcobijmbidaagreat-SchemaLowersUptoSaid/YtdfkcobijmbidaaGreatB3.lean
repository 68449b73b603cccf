/- Codes, keys, prefixes, indices, rings of the reference. No condition. -/
import Derived.Test.YtdfkcobijmbidaaGreatB2
import Derived.Laws.BitsAllLaws
set_option maxRecDepth 10000
set_option maxHeartbeats 1000000
set_option linter.all false
noncomputable section E3s
namespace Go.Ab
open Go.Ab
theorem Ju:∀l m:List UInt8,PV.oH (l.map u8) (m.map u8)=decide (l=m)
 |[],[]=>by simp[PV.oH]
 |[],_::_=>by simp[PV.oH]
 |_::_,[]=>by simp[PV.oH]
 |
  a::l,b::m=>by
  have ih:=Ju l m
  simp only[List.map_cons,PV.oH,ih,u8,PV.beq]
  by_cases h:a=b
  ·subst h;simp
  ·have:¬(a.toNat=b.toNat):=λe=>h (UInt8.toNat_inj.1 e)
   simp[h]
   intro e;exact absurd (by omega) this
theorem Key.ext' {a b:Key} (h:a.l=b.l):a=b:=by cases a;cases b;simp_all
instance:DecidableEq Key:=λa b=>if h:a.l=b.l then isTrue (Key.ext' h)else isFalse (λe=>h (by rw[e]))
theorem yA (a b:Key):PV.beq (eF a) (eF b)=decide (a=b):=by
 have:(a=b)↔a.l=b.l:=⟨λe=>by rw[e],Key.ext'⟩
 simp[eF,PV.beq,Ju,this]
def SF (a b:Key):Bool:=Op.bytesLess a.l b.l
def jf (a b:fX):Bool:=if a.at_≠b.at_ then decide (a.at_<b.at_)else if a.peer≠b.peer then SF a.peer b.peer else decide (a.kind<b.kind)
theorem bu (a b:fX):bB Pg I.bu [bU a,bU b] (.bl (jf a b)):=by
 refine af.intro T.bu (by simp[F.bu]) ?_
 by_cases h1:a.at_=b.at_
 ·by_cases h2:a.peer=b.peer
  ·simp[F.bu,an,aG,h1,h2]
   refine aM.plain [] ?_
   simp[jf,h1,h2]
  ·simp[F.bu,an,aG,h1,h2,yA]
   have ta:(a.peer.l.map u8).take 32=a.peer.l.map u8:=tJ (by simp[a.peer.h])
   have tb:(b.peer.l.map u8).take 32=b.peer.l.map u8:=tJ (by simp[b.peer.h])
   simp[eF,ta,tb]
   refine aM.plain [] ?_
   simp[jf,SF,h1,h2]
 ·simp[F.bu,an,aG,h1]
  refine aM.plain [] ?_
  simp[jf,h1]
def sv (k:Key) (n:Int) (x:fX):Bool:= !(decide (x.peer=k)&&decide (x.kind=n))
def dI (l:List fX) (k:Key) (n:Int):List fX:=l.filter (sv k n)
theorem kO {α:Type} (p:α->Bool) {l:List α} {i:Nat} (h:i<l.length):(l.take (i+1)).filter p=(l.take i).filter p++(if p l[i]=true then [l[i]]else []):=by
 rw[List.take_succ_eq_append_getElem h,List.filter_append]
 congr 1
 by_cases hk:p l[i]=true<;>simp[hk]
theorem oY {α:Type} (p:α->Bool) (l:List α) (i:Nat):((l.take i).filter p).length≤i:=by
 have:=List.length_filter_le p (l.take i)
 rw[lJ]at this;omega
theorem cK {l:List fX} (h:l.length≤1048576) (k:Key) (n:Int):bB Pg I.cK [db l,eF k,.int .i64 n] (db (dI l k n)):=by
 refine af.intro T.cK (by simp[F.cK]) ?_
 simp[F.cK,an,aG,db]
 refine jh.jY l.length (λ_=>True) [2,4,6,7,10,11,12] (λi=>[(7,.rs 7 [] 0 ((l.take i).filter (sv k n)).length ((l.take i).filter (sv k n)).length 34 .tip),(12,.int .i64 i)]) (λi=>[(7,.arr 34 (((l.take i).filter (sv k n)).map bU))]) [.vt 7 7 34] ?_
 simp
 refine⟨λi hi K hK=> ?_,λK=> ?_⟩
 ·have hx:l[i]? =some l[i]:=gJ hi
  have hlen:=oY (sv k n) l i
  rw[kO _ hi]at hK
  generalize (l.take i).filter (sv k n)=out at*
  by_cases h1:l[i].peer=k
  ·by_cases h2:l[i].kind=n
   ·simp[↓av,hi,h1,h2,fG hi h]
    refine⟨[.keep [2,4,6,7,10,11,12],.dr 9],?_⟩
    simp[cr,dx,ab,ah]
    exact hK _ (by simp[sv,h1,h2])
   ·simp[↓av,hi,h1,h2,fG hi h]
    refine⟨⟨by omega,by omega⟩,[.keep [2,4,6,7,10,11,12],.dr 9],?_⟩
    simp[cr,dx,ab,ah]
    exact hK _ (by simp[sv,h1,h2])
  ·simp[↓av,hi,h1,yA,fG hi h]
   refine⟨⟨by omega,by omega⟩,[.keep [2,4,6,7,10,11,12],.dr 9],?_⟩
   simp[cr,dx,ab,ah]
   exact hK _ (by simp[sv,h1])
 ·simp[↓av,↓av]
  refine aM.plain [.keep [6],.fz 7,.wk 6] ?_
  simp[dI]
def ju (t:fX):List fX->Nat
 |[]=>0
 |x::r=>if jf t x=true then 0 else ju t r+1
def kX (l:List fX) (t:fX):List fX:=let r:=dI l t.peer t.kind;r.take (ju t r)++[t]++r.drop (ju t r)
theorem vT (t:fX):∀l,ju t l≤l.length
 |[]=>Nat.le_refl _
 |x::r=>by simp only[ju];split<;>simp;exact vT t r
theorem Jv (t:fX):∀(l:List fX) (i:Nat) (h:i<l.length),i<ju t l->jf t l[i]=false
 |x::r,0,h,hi=>by simp only[ju]at hi;split at hi<;>simp_all
 |
  x::r,i+1,h,hi=>by
  simp only[ju]at hi
  split at hi
  ·omega
  ·simpa using Jv t r i (by simpa using h) (by omega)
theorem Jw (t:fX):∀(l:List fX) (h:ju t l<l.length),jf t l[ju t l]=true
 |[],h=>by simp at h
 |
  x::r,h=>by
  simp only[ju]at h⊢
  by_cases hx:jf t x=true
  ·simp[hx]
  ·simp only[hx,fJ,if_false]at h⊢
   simpa using Jw t r (by simpa using h)
theorem cu {l:List fX} (h:l.length≤1048575) (t:fX):bB Pg I.cu [db l,bU t] (db (kX l t)):=by
 refine af.intro T.cu (by simp[F.cu]) ?_
 simp[F.cu,an,aG]
 refine al.ret (cK (l:=l) (by omega) t.peer t.kind) (by simp) (by simp) (by simp) ?_
 have hle:(dI l t.peer t.kind).length≤l.length:=List.length_filter_le _ _
 have hr:kX l t=(dI l t.peer t.kind).take (ju t (dI l t.peer t.kind))++[t]++(dI l t.peer t.kind).drop (ju t (dI l t.peer t.kind)):=rfl
 rw[hr]
 generalize dI l t.peer t.kind=r at*
 have hp:=vT t r
 simp
 refine jh.jY (ju t r) (λ_=>True) [3,4,5,6] (λi=>[(6,.int .i64 i)]) (λi=>[]) [.keep [3,4,5,6]] ?_
 simp
 refine⟨λi hi K hK=> ?_,λK=> ?_⟩
 ·have hl:i<r.length:=by omega
  have hx:r[i]? =some r[i]:=gJ hl
  have hn:=Jv t r i hl hi
  simp[↓av,hl]
  refine a0.ret (bu t r[i]) (by simp) (by simp) (by simp) ?_
  simp[hn,fG hl (by omega)]
  refine⟨[.keep [3,4,5,6]],?_⟩
  simp
  exact hK _ (by simp)
 ·by_cases hq:ju t r<r.length
  ·have hx:r[ju t r]? =some r[ju t r]:=gJ hq
   have hn:=Jw t r hq
   simp[↓av,hq]
   refine a0.ret (bu t r[ju t r]) (by simp) (by simp) (by simp) ?_
   simp[hn]
   simp[↓av,db]
   refine ny.run [33,38] rfl ?_
   simp[hp]
   have T2:min (1+(r.length-ju t r)) (r.length-ju t r+1)=1+(r.length-ju t r):=by omega
   rw[T2]
   refine⟨⟨by omega,by omega⟩,⟨by omega,by omega⟩,⟨by omega,by omega⟩,?_⟩
   refine aM.plain [.keep [4],.dr 33,.fz 38,.wk 4] ?_
   have h1:min (ju t r) r.length=ju t r:=by omega
   have h2:r.length-ju t r+1=1+(r.length-ju t r):=by omega
   simp[cr,dx,ab,ah,h1,h2,tJ]
  ·simp[↓av,hq]
   simp[db]
   refine ny.run [33,38] rfl ?_
   simp[hp]
   have T2:min (1+(r.length-ju t r)) (r.length-ju t r+1)=1+(r.length-ju t r):=by omega
   rw[T2]
   refine⟨⟨by omega,by omega⟩,⟨by omega,by omega⟩,⟨by omega,by omega⟩,?_⟩
   refine aM.plain [.keep [4],.dr 33,.fz 38,.wk 4] ?_
   have h1:min (ju t r) r.length=ju t r:=by omega
   have h2:r.length-ju t r+1=1+(r.length-ju t r):=by omega
   simp[cr,dx,ab,ah,h1,h2,tJ]
end Go.Ab
end E3s
noncomputable section E4s
namespace Go.Ab
open Go.Ab
theorem Gq {n:Nat} (h:n<2^8):IntKind.u8.wrap (n:Int)=(n:Int):=wrap_u8 (by omega)
def jv (net host:UInt8):tm:=⟨false,[10,net,0,host,0,0,0,0,0,0,0,0,0,0,0,0],rfl⟩
theorem b8 (n h:UInt8):bB Pg I.b8 [.int .i64 (n.toNat:Int),.int .i64 (h.toNat:Int)] (jF (jv n h)):=by
 refine af.intro T.b8 (by simp[F.b8]) ?_
 have h1:=n.toNat_lt
 have h2:=h.toNat_lt
 simp[F.b8,an,aG,gX,List.replicate,Gq h1,Gq h2]
 refine aM.plain [] ?_
 simp[jF,jv,u8]
def tF (a:tm) (k:Nat):Prop:=∀j,k≤j->j<16->a.ip[j]? =some 0
theorem s7 (n:UInt8):tF (jv n 0) 2:=by
 intro j h1 h2
 simp only[jv]
 rcases(by omega:j=2∨j=3∨j=4∨j=5∨j=6∨j=7∨j=8∨j=9∨j=10∨j=11∨j=12∨j=13∨j=14∨j=15)with rfl|rfl|rfl|rfl|rfl|rfl|rfl|rfl|rfl|rfl|rfl|rfl|rfl|rfl<;>rfl
theorem tF.mono {a:tm} {k m:Nat} (h:tF a k) (hk:k≤m):tF a m:=λj h1 h2=>h j (by omega) h2
theorem cm {a:tm} (h:tF a 4):bB Pg I.cm [jF a] (.bl true):=by
 refine af.intro T.cm (by simp[F.cm]) ?_
 simp[F.cm,an,aG]
 refine jh.jY 12 (λ_=>True) [1,2,6,7,8] (λi=>[(8,.int .i64 i)]) (λi=>[]) [.keep [1,2,6,7,8]] ?_
 simp
 refine⟨λi hi K hK=> ?_,λK=> ?_⟩
 ·have hx:a.ip[4+i]? =some 0:=h _ (by omega) (by omega)
  have hw:IntKind.i64.wrap ((i:Int)+1)=(i:Int)+1:=wrap_i64 (by omega)
  have lO:(i:Int)<12:=by omega
  simp[↓av,lO,hx,hw,u8]
  refine⟨[.keep [1,2,6,7,8]],?_⟩
  simp
  exact hK _ (by simp)
 ·simp[↓av,↓av]
  refine aM.plain [] ?_
  simp
theorem dq (a:tm):bB Pg I.dq [jF a] (.int .i64 (if a.P3=true then 128 else 32)):=by
 refine af.intro T.dq (by simp[F.dq]) ?_
 by_cases h:a.P3=true
 ·simp[F.dq,an,aG,h]
  refine aM.plain [] ?_
  simp
 ·simp[F.dq,an,aG,h]
  refine aM.plain [] ?_
  simp
theorem ag2 (i:Nat):(i:Int).tmod 8=((i%8:Nat):Int):=by rw[show(8:Int)=((8:Nat):Int) from rfl,←Int.ofNat_tmod]
theorem aa {a:tm} {k:Nat} (h:tF a k) {i:Nat} (hi:8*k≤i) (uP:i<128):bB Pg I.aa [jF a,.int .i64 (i:Int)] (.int .u8 0):=by
 refine af.intro T.aa (by simp[F.aa]) ?_
 have hx:a.ip[i/8]? =some 0:=h _ (by omega) (by omega)
 have hw:IntKind.i64.wrap ((i/8:Nat):Int)=((i/8:Nat):Int):=wrap_i64 (by omega)
 have uR:IntKind.i64.wrap (7-((i%8:Nat):Int))=((7-i%8:Nat):Int):=by rw[wrap_i64 (by omega)];omega
 have hd:(i:Int).tdiv 8=((i/8:Nat):Int):=by rw[show(8:Int)=((8:Nat):Int) from rfl,←Int.ofNat_tdiv]
 have hb:bits .and .u8 0 1=0:=rfl
 simp[F.aa,an,aG,hx,ag2,hw,uR,hd,hb,u8,-Int.natCast_ediv,-Int.natCast_emod,]
 refine⟨by omega,?_⟩
 refine aM.plain [] ?_
 simp
theorem Lk (a:tm):Ej a (.ar 1 16 (a.ip.map u8))=jF a:=rfl
theorem Ok {α:Type} {l:List α} {i:Nat} {x:α} (h:l[i]? =some x):l.set i x=l:=by
 apply List.ext_getElem?;intro j
 rw[List.getElem?_set]
 split
 ·rename_i e;subst e;split
  ·exact h.symm
  ·rename_i hl;rw[List.getElem?_eq_none (by omega)]
 ·rfl
theorem cL {a:tm} (h:tF a 2):bB Pg I.cL [jF a,.int .i64 16] (kq ⟨a,16⟩):=by
 refine af.intro T.cL (by simp[F.cL]) ?_
 simp[F.cL,an,aG]
 refine jh.jY 112 (λ_=>True) [1,2,4,5] (λi=>[(5,.int .i64 (16+(i:Int)))]) (λi=>[]) [.keep [1,2,4,5]] ?_
 simp
 refine⟨λi hi K hK=> ?_,λK=> ?_⟩
 ·obtain⟨m,hm⟩:∃m,m=(16+i)/8:=⟨_,rfl⟩
  obtain⟨t,ht⟩:∃t,t=(16+i)%8:=⟨_,rfl⟩
  have hx:a.ip[m]? =some 0:=h _ (by omega) (by omega)
  have TR:(a.ip.map u8)[m]? =some (.int .u8 0):=by simp[hx,u8]
  have hw:IntKind.i64.wrap (16+(i:Int)+1)=16+((i:Int)+1):=by rw[wrap_i64 (by omega)];omega
  have hd:IntKind.i64.wrap ((16+(i:Int)).tdiv 8)=(m:Int):=by
   rw[show(16+(i:Int))=((16+i:Nat):Int) by omega,show(8:Int)=((8:Nat):Int) from rfl,←Int.ofNat_tdiv,hm];exact wrap_i64 (by omega)
  have ht':(16+(i:Int)).tmod 8=(t:Int):=by
   rw[show(16+(i:Int))=((16+i:Nat):Int) by omega,show(8:Int)=((8:Nat):Int) from rfl,←Int.ofNat_tmod,ht]
  have lO:16+(i:Int)<128:=by omega
  have s9:(m:Int)<16:=by omega
  have hb:∀n:Int,bits .andNot .u8 0 n=0:=by
   intro n;simp[bits,BitVec.ofInt]
  simp[↓av,lO,TR,hw,hd,ht',s9,hb]
  rw[Ok TR]
  refine⟨[.keep [1,2,4,5]],?_⟩
  simp[Lk]
  exact hK _ (by simp)
 ·simp[↓av,↓av]
  refine aM.plain [] ?_
  simp[kq]
theorem cA {a:tm} (h:tF a 2) (h6:a.P3=false):bB Pg I.cA [kq ⟨a,16⟩] (.bl true):=by
 refine af.intro T.cA (by simp[F.cA]) ?_
 simp[F.cA,an,aG]
 refine a0.ret (cm (h.mono (by omega))) (by simp) (by simp) (by simp) ?_
 simp
 refine a0.ret (dq a) (by simp) (by simp) (by simp) ?_
 simp[h6]
 refine jh.jY 112 (λ_=>True) [1,2,3] (λi=>[(3,.int .i64 (16+(i:Int)))]) (λi=>[]) [.keep [1,2,3]] ?_
 simp
 refine⟨λi hi K hK=> ?_,λK=> ?_⟩
 ·have hw:IntKind.i64.wrap (16+(i:Int)+1)=16+((i:Int)+1):=by rw[wrap_i64 (by omega)];omega
  have lO:16+(i:Int)<128:=by omega
  have hb:=aa h (i:=16+i) (by omega) (by omega)
  rw[show((16+i:Nat):Int)=16+(i:Int) by omega]at hb
  simp[↓av,lO]
  refine al.ret hb (by simp) (by simp) (by simp) ?_
  simp[hw]
  refine⟨[.keep [1,2,3]],?_⟩
  simp
  exact hK _ (by simp)
 ·simp[↓av,↓av]
  refine aM.plain [] ?_
  simp
end Go.Ab
end E4s
noncomputable section E5s
namespace Go.Ab
open Go.Ab
def rE (n:UInt8):K5:=⟨jv n 0,16⟩
theorem H9 {n m:UInt8} (h:n<m):Op.bytesLess (jv n 0).ip (jv m 0).ip=true:=by
 have h':¬m<n:=λe=>absurd (UInt8.lt_iff_toNat_lt.1 e) (by have:=UInt8.lt_iff_toNat_lt.1 h;omega)
 simp[jv,Op.bytesLess,h]
theorem Gr {n m:UInt8} (h:n<m):Op.bytesLess (jv m 0).ip (jv n 0).ip=false:=by
 have h':¬m<n:=λe=>absurd (UInt8.lt_iff_toNat_lt.1 e) (by have:=UInt8.lt_iff_toNat_lt.1 h;omega)
 simp[jv,Op.bytesLess,h']
theorem ef (a b:tm) (h1:a.P3=false) (h2:b.P3=false):bB Pg I.ef [jF a,jF b] (.bl (Op.bytesLess a.ip b.ip)):=by
 refine af.intro T.ef (by simp[F.ef]) ?_
 have ta:(a.ip.map u8).take 16=a.ip.map u8:=tJ (by simp[a.h])
 have tb:(b.ip.map u8).take 16=b.ip.map u8:=tJ (by simp[b.h])
 simp[F.ef,an,aG,h1,h2,ta,tb]
 refine aM.plain [] ?_
 simp
theorem V6 {n m:UInt8} (h:n≠m):PV.beq (jF (jv n 0)) (jF (jv m 0))=false:=by
 have:¬(n.toNat=m.toNat):=λe=>h (UInt8.toNat_inj.1 e)
 simp[jF,jv,PV.beq,PV.oH,u8]
 intro e;omega
theorem cM {n m:UInt8} (h:n≠m):bB Pg I.cM [kq (rE n),kq (rE m)] (.bl (Op.bytesLess (jv n 0).ip (jv m 0).ip)):=by
 refine af.intro T.cM (by simp[F.cM]) ?_
 simp[F.cM,an,aG,rE,V6 h]
 refine al.ret (ef (jv n 0) (jv m 0) rfl rfl) (by simp) (by simp) (by simp) ?_
 simp
 refine aM.plain [] ?_
 simp
theorem ag3 {n m:UInt8} (h:n≠m):PV.beq (kq (rE n)) (kq (rE m))=false:=by
 simp[kq,rE,PV.beq,PV.oH,V6 h]
theorem bE {l:List uk} {n:UInt8} (h:∀r∈l,∃m,m<n∧r.K6=rE m) (hl:l.length<16) (k:Key):bB Pg I.bE [dV l,kq (rE n),eF k] (.tup [dV (l++[⟨rE n,k⟩]),.int .i64 0]):=by
 refine af.intro T.bE (by simp[F.bE]) ?_
 simp[F.bE,an,aG]
 refine al.ret (cA (s7 n) rfl) (by simp[rE]) (by simp) (by simp) ?_
 simp(disch:=omega) [dV]
 refine⟨⟨by omega,by omega⟩,?_⟩
 refine jh.jY l.length (λ_=>True) [0,4,5,6,7,8,17,18] (λi=>[(18,.int .i64 i)]) (λi=>[]) [.keep [0,4,5,6,7,8,17,18]] ?_
 simp
 refine⟨λi hi K hK=> ?_,λK=> ?_⟩
 ·have hx:l[i]? =some l[i]:=gJ hi
  obtain⟨m,hm,he⟩:=h _ (List.getElem_mem hi)
  have hb:(kq (rE m)).beq (kq (rE n))=false:=ag3 (UInt8.ne_of_lt hm)
  have hw:IntKind.i64.wrap ((i:Int)+1)=(i:Int)+1:=wrap_i64 (by omega)
  simp[↓av,hi,he,hb,hw]
  refine⟨[.keep [0,4,5,6,7,8,17,18]],?_⟩
  simp
  exact hK _ (by simp)
 ·have rT:¬(16:Int)≤l.length:=by omega
  simp[↓av,↓av,rT]
  refine jh.jY l.length (λ_=>True) [0,4,5,6,7,8,10] (λi=>[(10,.int .i64 i)]) (λi=>[]) [.keep [0,4,5,6,7,8,10]] ?_
  simp
  refine⟨λi hi K hK=> ?_,λK=> ?_⟩
  ·have hx:l[i]? =some l[i]:=gJ hi
   obtain⟨m,hm,he⟩:=h _ (List.getElem_mem hi)
   have hw:IntKind.i64.wrap ((i:Int)+1)=(i:Int)+1:=wrap_i64 (by omega)
   have hb:=cM (n:=n) (m:=m) (λe=>UInt8.ne_of_lt hm e.symm)
   rw[Gr hm]at hb
   simp[↓av,hi,he]
   refine a0.ret hb (by simp) (by simp) (by simp) ?_
   simp[hw]
   refine⟨[.keep [0,4,5,6,7,8,10]],?_⟩
   simp
   exact hK _ (by simp)
  ·simp[↓av,↓av]
   refine ny.run [61,66] rfl ?_
   simp
   refine⟨⟨by omega,by omega⟩,?_⟩
   refine aM.plain [.keep [6,7],.dr 61,.dr 15,.fz 66,.wk 6] ?_
   simp[cr,dx,ab,ah,jI]
end Go.Ab
end E5s
noncomputable section E6s
namespace Go.Ab
open Go.Ab
def zK:Key:=⟨List.replicate 32 0,rfl⟩
def zSl:iK:=⟨0,zK,false⟩
theorem sx {l:List iK} (hl:l.length≤1048576) {x:Int} (h:∀s∈l,s.index≠x):bB Pg I.bw [cZ l,.int .u32 x] (.tup [cy zSl,.bl false]):=by
 refine af.intro T.bw (by simp[F.bw]) ?_
 simp[F.bw,an,aG]
 refine jh.jY l.length (λ_=>True) [1,4,5,8,9,10] (λi=>[(10,.int .i64 i)]) (λi=>[]) [.keep [1,4,5,8,9,10]] ?_
 simp
 refine⟨λi hi K hK=> ?_,λK=> ?_⟩
 ·have hx:l[i]? =some l[i]:=gJ hi
  have he:=h _ (List.getElem_mem hi)
  simp[↓av,hi,he,fG hi hl]
  refine⟨[.keep [1,4,5,8,9,10],.dr 7],?_⟩
  simp
  exact hK _ (by simp)
 ·simp[↓av,↓av]
  refine aM.plain [] ?_
  simp[cy,zSl,zK,eF,gX,u8]
theorem vU {l:List iK} (hl:l.length≤1048576) {x:Int} {f:Nat} (hf:f<l.length) (he:l[f].index=x) (h:∀j (hj:j<l.length),j<f->l[j].index≠x):bB Pg I.bw [cZ l,.int .u32 x] (.tup [cy l[f],.bl true]):=by
 refine af.intro T.bw (by simp[F.bw]) ?_
 simp[F.bw,an,aG]
 refine jh.jY f (λ_=>True) [1,4,5,8,9,10] (λi=>[(10,.int .i64 i)]) (λi=>[]) [.keep [1,4,5,8,9,10]] ?_
 simp
 refine⟨λi hi K hK=> ?_,λK=> ?_⟩
 ·have uP:i<l.length:=by omega
  have hx:l[i]? =some l[i]:=gJ uP
  have he:=h i uP hi
  simp[↓av,uP,he,fG uP hl]
  refine⟨[.keep [1,4,5,8,9,10],.dr 7],?_⟩
  simp
  exact hK _ (by simp)
 ·have hx:l[f]? =some l[f]:=gJ hf
  simp[↓av,hf,he]
  refine aM.plain [] ?_
  simp
def L8 (x:Int) (s:iK):Bool:=decide (s.index≠x)
theorem Gs {l:List iK} (h:l.length≤1048576) (x:Int):bB Pg I.ew [cZ l,.int .u32 x] (cZ (l.filter (L8 x))):=by
 refine af.intro T.ew (by simp[F.ew]) ?_
 simp[F.ew,an,aG,cZ]
 refine jh.jY l.length (λ_=>True) [1,4,5,8,9,10] (λi=>[(5,.rs 5 [] 0 ((l.take i).filter (L8 x)).length ((l.take i).filter (L8 x)).length 34 .tip),(10,.int .i64 i)]) (λi=>[(5,.arr 34 (((l.take i).filter (L8 x)).map cy))]) [.vt 5 5 34] ?_
 simp
 refine⟨λi hi K hK=> ?_,λK=> ?_⟩
 ·have hx:l[i]? =some l[i]:=gJ hi
  have hlen:=oY (L8 x) l i
  rw[kO _ hi]at hK
  generalize (l.take i).filter (L8 x)=out at*
  by_cases h1:l[i].index=x
  ·simp[↓av,hi,h1,fG hi h]
   refine⟨[.keep [1,4,5,8,9,10],.dr 7],?_⟩
   simp[cr,dx,ab,ah]
   exact hK _ (by simp[L8,h1])
  ·simp[↓av,hi,h1,fG hi h]
   refine⟨⟨by omega,by omega⟩,[.keep [1,4,5,8,9,10],.dr 7],?_⟩
   simp[cr,dx,ab,ah]
   exact hK _ (by simp[L8,h1])
 ·simp[↓av,↓av]
  refine aM.plain [.keep [4],.fz 5,.wk 4] ?_
  simp
theorem Ol {d:bK} (hl:d.aj.length≤1048576) {k:Key} {f:Nat} (hf:f<d.aj.length) (he:d.aj[f].gC=k) (h:∀j (hj:j<d.aj.length),j<f->d.aj[j].gC≠k):bB Pg I.cD [dY d,eF k] (.int .i64 f):=by
 refine af.intro T.cD (by simp[F.cD]) ?_
 simp[F.cD,an,aG]
 refine jh.jY f (λ_=>True) [2,3,4,8,9,10] (λi=>[(10,.int .i64 i)]) (λi=>[]) [.keep [2,3,4,8,9,10]] ?_
 simp
 refine⟨λi hi K hK=> ?_,λK=> ?_⟩
 ·have uP:i<d.aj.length:=by omega
  have hx:d.aj[i]? =some d.aj[i]:=gJ uP
  have he:=h i uP hi
  simp[↓av,uP,he,yA,fG uP hl]
  refine⟨[.keep [2,3,4,8,9,10],.dr 6],?_⟩
  simp
  exact hK _ (by simp)
 ·have hx:d.aj[f]? =some d.aj[f]:=gJ hf
  simp[↓av,hf,he]
  refine aM.plain [] ?_
  simp
def nZ (i:Nat):Key:=⟨[UInt8.ofNat (40*(i+1)),9,7]++List.replicate 29 0,rfl⟩
theorem dR {i:Nat} (h:i<3):bB Pg I.dR [.int .i64 i] (eF (nZ i)):=by
 refine af.intro T.dR (by simp[F.dR]) ?_
 have hw:IntKind.i64.wrap ((i:Int)+1)=(i:Int)+1:=wrap_i64 (by omega)
 have uR:IntKind.i64.wrap (40*((i:Int)+1))=40*((i:Int)+1):=wrap_i64 (by omega)
 have hw3:IntKind.u8.wrap (40*((i:Int)+1))=40*((i:Int)+1):=wrap_u8 (by omega)
 simp[F.dR,an,aG,gX,List.replicate,hw,uR,hw3]
 refine aM.plain [] ?_
 have h40:(UInt8.ofNat (40*(i+1))).toNat=40*(i+1):=by simp[UInt8.toNat_ofNat];omega
 simp[eF,nZ,u8,List.replicate]
 omega
def uq (i:Nat):H0:=⟨⟨false,[192,0,2,UInt8.ofNat (i+1),0,0,0,0,0,0,0,0,0,0,0,0],rfl⟩,1000+i⟩
theorem fL {i:Nat} (h:i<3):bB Pg I.fL [.int .i64 i] (ji (uq i)):=by
 refine af.intro T.fL (by simp[F.fL]) ?_
 have hw:IntKind.i64.wrap ((i:Int)+1)=(i:Int)+1:=wrap_i64 (by omega)
 have uR:IntKind.i64.wrap (1000+(i:Int))=1000+(i:Int):=wrap_i64 (by omega)
 have hw3:IntKind.u8.wrap ((i:Int)+1)=(i:Int)+1:=wrap_u8 (by omega)
 simp[F.fL,an,aG,gX,List.replicate,hw,uR,hw3]
 refine aM.plain [] ?_
 have h40:(UInt8.ofNat (i+1)).toNat=i+1:=by simp[UInt8.toNat_ofNat];omega
 simp[ji,jF,uq,u8]
 omega
def iP (x:Int):List iK->Nat
 |[]=>0
 |s::r=>if s.index<x then iP x r+1 else 0
def rR (l:List iK) (s:iK):List iK:=l.take (iP s.index l)++[s]++l.drop (iP s.index l)
theorem zF (x:Int):∀l,iP x l≤l.length
 |[]=>Nat.le_refl _
 |s::r=>by simp only[iP];split<;>simp;exact zF x r
theorem Em (x:Int):∀(l:List iK) (i:Nat) (h:i<l.length),i<iP x l->l[i].index<x
 |s::r,0,h,hi=>by simp only[iP]at hi;split at hi<;>simp_all
 |
  s::r,i+1,h,hi=>by
  simp only[iP]at hi
  split at hi
  ·simpa using Em x r i (by simpa using h) (by omega)
  ·omega
theorem En (x:Int):∀(l:List iK) (h:iP x l<l.length),¬l[iP x l].index<x
 |[],h=>by simp at h
 |
  s::r,h=>by
  simp only[iP]at h⊢
  by_cases hx:s.index<x
  ·simp only[hx,if_true]at h⊢
   simpa using En x r (by simpa using h)
  ·simp[hx]
theorem Take {l:List iK} (hl:l.length<32) {x:Int} (hx1:1≤x) (h:∀s∈l,s.index≠x) (k:Key) (b:Bool):bB Pg I.cV [cZ l,.int .u32 x,eF k,.bl b] (.tup [cZ (rR l ⟨x,k,b⟩),.int .u32 x,.int .i64 0]):=by
 refine af.intro T.cV (by simp[F.cV]) ?_
 have rT:¬(32:Int)≤l.length:=by omega
 have hm:max x 1=x:=by omega
 simp[F.cV,an,aG,rT,hm]
 refine jh.jY 0 (λ_=>True) [0,1,2,3,6,8,9,10,11] (λi=>[]) (λi=>[]) [.keep [0,1,2,3,6,8,9,10,11]] ?_
 simp
 intro K
 simp[↓av]
 refine al.ret (sx (by omega) h) (by simp) (by simp) (by simp) ?_
 simp[↓av]
 have hp:=zF x l
 have hr:rR l ⟨x,k,b⟩=l.take (iP x l)++[⟨x,k,b⟩]++l.drop (iP x l):=rfl
 refine jh.jY (iP x l) (λ_=>True) [0,3,6,8,9,10,11,14] (λi=>[(14,.int .i64 i)]) (λi=>[]) [.keep [0,3,6,8,9,10,11,14],.dr 12] ?_
 simp
 refine⟨λi hi K hK=> ?_,λK=> ?_⟩
 ·have uP:i<l.length:=by omega
  have hx:l[i]? =some l[i]:=gJ uP
  have he:=Em x l i uP hi
  simp[↓av,uP,he,fG uP (by omega)]
  refine⟨[.keep [0,3,6,8,9,10,11,14]],?_⟩
  simp
  exact hK _ (by simp)
 ·by_cases hq:iP x l<l.length
  ·have hx:l[iP x l]? =some l[iP x l]:=gJ hq
   have he:=En x l hq
   simp[↓av,↓av,hq,he,cZ,hp]
   refine⟨⟨by omega,by omega⟩,⟨by omega,by omega⟩,⟨by omega,by omega⟩,?_⟩
   refine aM.plain [.keep [8,9,10],.fz 50,.wk 8] ?_
   have h1:min (iP x l) l.length=iP x l:=by omega
   have h2:iP x l+(l.length-iP x l+1)=iP x l+1+(l.length-iP x l):=by omega
   simp[h1,h2,tJ,hr,cy]
  ·simp[↓av,↓av,hq,cZ,hp]
   refine⟨⟨by omega,by omega⟩,⟨by omega,by omega⟩,⟨by omega,by omega⟩,?_⟩
   refine aM.plain [.keep [8,9,10],.fz 50,.wk 8] ?_
   have h1:min (iP x l) l.length=iP x l:=by omega
   have h2:iP x l+(l.length-iP x l+1)=iP x l+1+(l.length-iP x l):=by omega
   simp[h1,h2,tJ,hr,cy]
def rP (l:List iK):Prop:=(∀(i:Nat) (h:i<l.length),l[i].index≠0)∧∀(i:Nat) (h:i+1<l.length),l[i].index<l[i+1].index
theorem Ia {l:List iK} (hl:l.length≤32) (h:rP l):bB Pg I.dJ [cZ l] (.bl true):=by
 refine af.intro T.dJ (by simp[F.dJ]) ?_
 simp[F.dJ,an,aG]
 refine jh.jY l.length (λ_=>True) [0,2,5,6,7] (λi=>[(7,.int .i64 i)]) (λi=>[]) [.keep [0,2,5,6,7]] ?_
 simp
 refine⟨λi hi K hK=> ?_,λK=> ?_⟩
 ·have hx:l[i]? =some l[i]:=gJ hi
  have h0:=h.1 i hi
  by_cases hz:i=0
  ·subst hz
   simp[↓av,hi,h0]
   refine⟨[.keep [0,2,5,6,7],.dr 4],?_⟩
   simp
   exact hK _ (by simp)
  ·obtain⟨j,BZ⟩:∃j,i=j+1:=⟨i-1,by omega⟩
   have hj:j<l.length:=by omega
   have hy:l[j]? =some l[j]:=gJ hj
   have gG:=h.2 j (by omega)
   have zT:¬l[i].index≤l[j].index:=by subst BZ;omega
   have hw:IntKind.i64.wrap ((i:Int)-1)=j:=by rw[wrap_i64 (by omega)];omega
   simp[↓av,hi,hj,h0,hw,zT,show 0<i by omega,fG hi (by omega)]
   refine⟨[.keep [0,2,5,6,7],.dr 4],?_⟩
   simp
   exact hK _ (by simp)
 ·simp[↓av,↓av]
  refine aM.plain [] ?_
  simp
  omega
end Go.Ab
end E6s
noncomputable section E7s
namespace Go.Ab
open Go.Ab
structure sy where
 used:Bool
 top:Int
 w0:Int
 w1:Int
 w2:Int
 w3:Int
def wP (w:sy):PV:= .st 6 [.bl w.used,.int .u64 w.top,.ar 1 4 [.int .u64 w.w0,.int .u64 w.w1,.int .u64 w.w2,.int .u64 w.w3]]
def pr (w:sy):FV ui:=⟨wP w,by simp[wP,fits,jd,pj,pW,lj]⟩
def Ll (w:sy) (c:Int):Bool:= !w.used||decide (w.top<c)||decide (bits .and .u64 (w.w0.fdiv (2^min c.toNat 64)) 1=0)
structure SmW (w:sy) (c:Int):Prop where
 t0:0≤w.top
 t8:w.top<8
 c0:0≤c
 c8:c<8
theorem q64 {c:Int} (h0:0≤c) (h8:c<8):c.tdiv 64=0:=Int.tdiv_eq_zero_of_lt h0 (by omega)
theorem r64 {c:Int} (h0:0≤c) (h8:c<8):c.tmod 64=c:=Int.tmod_eq_of_lt h0 (by omega)
theorem bN {w:sy} {c:Int} (h:SmW w c):bB Pg I.bN [wP w,.int .u64 c] (.bl (Ll w c)):=by
 refine af.intro T.bN (by simp[F.bN]) ?_
 have h0:=h.c0
 have h1:=q64 h.c0 h.c8
 have h2:=r64 h.c0 h.c8
 have h3:=q64 h.t0 h.t8
 have w0:IntKind.u64.wrap 0=0:=rfl
 by_cases hu:w.used=true
 ·by_cases ht:w.top<c
  ·simp[F.bN,an,aG,wP,hu,ht,az]
   refine aM.plain [] ?_
   simp[Ll,hu,ht]
  ·simp[F.bN,an,aG,wP,hu,ht,az,h1,h2,h3,w0]
   refine⟨h0,?_⟩
   refine aM.plain [] ?_
   simp[Ll,hu,ht]
   rfl
 ·simp[F.bN,an,aG,wP,hu,az]
  refine aM.plain [] ?_
  simp[Ll,hu]
def rS (w:sy) (c:Int):sy×Bool:=
 if Ll w c=true then
  let v:sy:=if w.used=true then w else⟨true,c,0,0,0,0⟩
  (⟨true,max v.top c,bits .or .u64 v.w0 (IntKind.u64.wrap (2^min c.toNat 64)),v.w1,v.w2,v.w3⟩,true)
 else(w,false)
theorem aX {w:sy} {c:Int} (h:SmW w c):bB Pg I.aX [wP w,.int .u64 c] (.tup [wP (rS w c).1,.bl (rS w c).2]):=by
 refine af.intro T.aX (by simp[F.aX]) ?_
 have h0:=h.c0
 have h1:=q64 h.c0 h.c8
 have h2:=r64 h.c0 h.c8
 have h3:=q64 h.t0 h.t8
 have w0:IntKind.u64.wrap 0=0:=rfl
 have hc:=bN h
 cases hk:Ll w c with
 |
  false=>
  rw[hk]at hc
  simp[F.aX,an,aG,wP]
  refine al.ret hc (by simp[wP]) (by simp) (by simp) ?_
  simp
  refine aM.plain [] ?_
  simp[rS,hk]
 |
  true=>
  rw[hk]at hc
  have hp:∀x:Int,bits .or .u64 0 x=bits .or .u64 0 x:=λ_=>rfl
  by_cases hu:w.used=true
  ·by_cases ht:w.top<c
   ·have hm:max w.top c=c:=by omega
    simp[F.aX,an,aG,wP,hu]
    refine al.ret hc (by simp[wP,hu]) (by simp) (by simp) ?_
    simp[ht]
    refine jh.jY 0 (λ_=>True) [1,2,4,5,6] (λi=>[]) (λi=>[]) [.keep [1,2,4,5,6]] ?_
    simp
    intro K
    simp[↓av,↓av,↓av,h1,h2,h3,w0,az,h0,(by omega:min (0:Int) 4=0)]
    refine aM.plain [] ?_
    simp[rS,hk,hu,hm]
    rfl
   ·have hm:max w.top c=w.top:=by omega
    simp[F.aX,an,aG,wP,hu]
    refine al.ret hc (by simp[wP,hu]) (by simp) (by simp) ?_
    simp[ht,↓av,h1,h2,w0,az,h0]
    refine aM.plain [] ?_
    simp[rS,hk,hu,hm]
    rfl
  ·simp[F.aX,an,aG,wP,hu]
   refine al.ret hc (by simp[wP,hu]) (by simp) (by simp) ?_
   simp[↓av,h1,h2,w0,az,h0,gX,List.replicate]
   refine aM.plain [] ?_
   simp[rS,hk,hu]
   rfl
theorem SG {w:sy} {c:Int} (h:SmW w c):(rS w c).1.used=w.used∧(rS w c).1=w∨(rS w c).1.used=true:=by
 unfold rS;split
 ·right;rfl
 ·left;exact⟨rfl,rfl⟩
theorem Gt {w:sy} {c:Int} (h:SmW w c):0≤(rS w c).1.top∧(rS w c).1.top<8:=by
 obtain⟨a1,a2,a3,a4⟩:=h
 unfold rS;split
 ·by_cases hu:w.used=true<;>simp[hu]<;>omega
 ·exact⟨a1,a2⟩
end Go.Ab
end E7s
noncomputable section E8s
namespace Go.Ab
open Go.Ab
def Jx:FV ja:=⟨.ar 1 32 (zr 32 (.int .u8 0)),by rw[gX];rfl⟩
def Ib:FV ui:=⟨.st 6 [.bl false,.int .u64 0,.ar 1 4 (zr 4 (.int .u64 0))],by rw[gX];rfl⟩
def ag4:j9:=⟨0,0,Jx,Jx,0,0,Ib,0,false⟩
def qG:pq:=⟨false,ag4⟩
theorem YW:gP qG=(.st 77 [(.bl false),(.st 76 [(.int .u32 0),(.int .u32 0),(.ar 1 32 (zr 32 (.int .u8 0))),(.ar 1 32 (zr 32 (.int .u8 0))),(.int .u64 0),(.int .u64 0),(.st 6 [(.bl false),(.int .u64 0),(.ar 1 4 (zr 4 (.int .u64 0)))]),(.int .i64 0),(.bl false)])]):=by first|rfl|(rw[gX];rfl)
def Eo (l:List pq):List Int:=(l.filter (λp=>p.has)).map (λp=>p.iO.loc)
theorem Om {l:List pq} {i:Nat} (h:i<l.length):Eo (l.take (i+1))=Eo (l.take i)++(if l[i].has=true then [l[i].iO.loc]else []):=by
 unfold Eo;rw[kO _ h];by_cases hk:l[i].has=true<;>simp[hk]
theorem Bs (l:List pq):(Eo l).length≤l.length:=by
 unfold Eo;rw[List.length_map];exact List.length_filter_le _ _
theorem b9 {l:List pq} (h:l.length≤8) (b:Bool):bB Pg I.b9 [.sl 77 (l.map gP) b] (oq (Eo l)):=by
 refine af.intro T.b9 (by simp[F.b9]) ?_
 simp[F.b9,an,aG,oq]
 refine jh.jY l.length (λ_=>True) [2,3,6,7,8] (λi=>[(3,.rs 3 [] 0 (Eo (l.take i)).length (Eo (l.take i)).length 1 .tip),(8,.int .i64 i)]) (λi=>[(3,.arr 1 ((Eo (l.take i)).map (λn:Int=>PV.int .u32 n)))]) [.vt 3 3 1] ?_
 simp[show Eo []=[] from rfl]
 refine⟨λi hi K hK=> ?_,λK=> ?_⟩
 ·have hx:l[i]? =some l[i]:=gJ hi
  have hlen:=Bs (l.take i)
  have Pp:(l.take i).length≤i:=by rw[lJ];omega
  rw[Om hi]at hK
  generalize Eo (l.take i)=out at*
  by_cases h1:l[i].has=true
  ·simp[↓av,hi,h1,fG hi (by omega)]
   refine⟨⟨by omega,by omega⟩,[.keep [2,3,6,7,8],.dr 5],?_⟩
   simp[cr,dx,ab,ah]
   exact hK _ (by simp[h1])
  ·simp[↓av,hi,h1,fG hi (by omega)]
   refine⟨[.keep [2,3,6,7,8],.dr 5],?_⟩
   simp[cr,dx,ab,ah]
   exact hK _ (by simp[h1])
 ·simp[↓av,↓av]
  refine aM.plain [.keep [2],.fz 3,.wk 2] ?_
  simp
def SH (p:pq):pq:=if p.has=true then p else qG
theorem dt (p:pq):bB Pg I.dt [gP p] (gP (SH p)):=by
 refine af.intro T.dt (by simp[F.dt]) ?_
 by_cases h:p.has=true
 ·simp[F.dt,an,aG,h]
  refine aM.plain [] ?_
  simp[SH,h]
 ·simp[F.dt,an,aG,h]
  refine aM.plain [] ?_
  simp[SH,h,YW]
theorem cW (r:kN):bB Pg I.cW [ee r] (oq (Eo [r.p,r.c,r.n])):=by
 refine af.intro T.cW (by simp[F.cW]) ?_
 simp[F.cW,an,aG]
 refine al.ret (b9 (l:=[r.p,r.c,r.n]) (by simp) false) (by simp) (by simp) (by simp) ?_
 simp
 refine aM.plain [] ?_
 simp
def ur (r:kN) (s:j9):kN:=if r.n.has=true then⟨r.n,⟨true,s⟩,qG⟩else⟨SH r.c,⟨true,s⟩,qG⟩
def rF (r:kN):List Int:=if r.n.has=true then Eo [r.p,r.c]else Eo [r.p]
theorem dS (r:kN) (s:j9):bB Pg I.dS [ee r,fO s] (.tup [ee (ur r s),oq (rF r)]):=by
 refine af.intro T.dS (by simp[F.dS]) ?_
 by_cases h:r.n.has=true
 ·simp[F.dS,an,aG,h]
  refine a0.ret (b9 (l:=[r.p,r.c]) (by simp) false) (by simp) (by simp) (by simp) ?_
  simp
  refine aM.plain [] ?_
  simp[ur,rF,h,ee,gP]
  exact⟨rfl,rfl⟩
 ·simp[F.dS,an,aG,h]
  refine a0.ret (dt r.c) (by simp) (by simp) (by simp) ?_
  simp
  refine a0.ret (b9 (l:=[r.p]) (by simp) false) (by simp) (by simp) (by simp) ?_
  simp
  refine aM.plain [] ?_
  simp[ur,rF,h,ee,gP]
  exact⟨rfl,rfl⟩
def On (r:kN) (s:j9):kN:=⟨qG,r.c,⟨true,s⟩⟩
def Gu (r:kN):List Int:=Eo [r.p,r.n]
theorem dz (r:kN) (s:j9):bB Pg I.dz [ee r,fO s] (.tup [ee (On r s),oq (Gu r)]):=by
 refine af.intro T.dz (by simp[F.dz]) ?_
 simp[F.dz,an,aG]
 refine a0.ret (b9 (l:=[r.p,r.n]) (by simp) false) (by simp) (by simp) (by simp) ?_
 simp
 refine aM.plain [] ?_
 simp[On,Gu,ee,gP]
 exact⟨rfl,rfl⟩
theorem eR (loc rem:Int) (a b:FV ja) (born:Int) (Oa:Bool) (iI:Int):bB Pg I.eR [.int .u32 loc,.int .u32 rem,a.p,b.p,.int .i64 born,.bl Oa,.int .u64 iI] (fO ⟨loc,rem,a,b,0,iI,Ib,born,Oa⟩):=by
 refine af.intro T.eR (by simp[F.eR]) ?_
 simp[F.eR,an,aG]
 refine aM.plain [] ?_
 simp[fO,Ib]
end Go.Ab
end E8s
noncomputable section E9s
namespace Go.Ab
open Go.Ab
theorem kb {n a b:Int} (h1:a≤n) (h2:n≤b):bB Pg I.eJ [.int .i64 n,.int .i64 a,.int .i64 b] (.bl true):=by
 refine af.intro T.eJ (by simp[F.eJ]) ?_
 simp[F.eJ,an,aG,h1,h2]
 refine aM.plain [] ?_
 simp
theorem Ic {d:bK} {t:Int} (h1:0≤t) (h2:t≤d.now):bB Pg I.dN [dY d,.int .i64 t] (.bl true):=by
 refine af.intro T.dN (by simp[F.dN]) ?_
 simp[F.dN,an,aG]
 refine al.ret (kb h1 h2) (by simp) (by simp) (by simp) ?_
 simp
 refine aM.plain [] ?_
 simp
theorem Ep {r:xv} (h:yz r):bB Pg I.dK [dU r] (.bl true):=by
 refine af.intro T.dK (by simp[F.dK]) ?_
 obtain⟨h1,h2,h3,h4,h5,h6,h7,h8,h9,Mh,T5,QE,h13,h14,h15,h16,h17⟩:=h
 have n1:¬r.yT<1:=by omega
 have n2:¬r.uj<r.yT:=by omega
 have n3:¬(18446744073709543423:Int)<r.uj:=by omega
 have w1:IntKind.i64.wrap (r.RL+r.ret)=r.RL+r.ret:=wrap_i64 (by omega)
 have w2:IntKind.i64.wrap (20*r.ret)=20*r.ret:=wrap_i64 (by omega)
 have n4:r.RL+r.ret<r.lQ:=by omega
 simp[F.dK,an,aG,n1,n2,n3]
 refine al.ret (kb (n:=r.ret) (a:=1000) (b:=1073741824) (by omega) (by omega)) (by simp) (by simp) (by simp) ?_
 simp
 refine al.ret (kb (n:=r.RL) (a:=1000) (b:=1073741824) (by omega) (by omega)) (by simp) (by simp) (by simp) ?_
 simp
 refine al.ret (kb (n:=r.cot) (a:=1) (b:=1073741824) (by omega) (by omega)) (by simp) (by simp) (by simp) ?_
 simp
 refine al.ret (kb (n:=r.Ob) (a:=1) (b:=1073741824) (by omega) (by omega)) (by simp) (by simp) (by simp) ?_
 simp
 refine al.ret (kb (n:=r.lQ) (a:=1) (b:=1073741824) (by omega) (by omega)) (by simp) (by simp) (by simp) ?_
 simp[Mh,w1,n4,w2]
 refine al.ret (kb (n:=r.att) (a:=r.ret) (b:=20*r.ret) (by omega) (by omega)) (by simp) (by simp) (by simp) ?_
 simp
 refine al.ret (kb (n:=r.load) (a:=1) (b:=64) (by omega) (by omega)) (by simp) (by simp) (by simp) ?_
 simp
 refine al.ret (kb (n:=r.oX) (a:=1) (b:=8) (by omega) (by omega)) (by simp) (by simp) (by simp) ?_
 simp
 refine aM.plain [] ?_
 simp
def Gv (v:FV ui):Prop:=v=Ib∨∃w:sy,w.used=true∧(0≤w.top∧w.top<8)∧v=pr w
structure vV (d:bK) (s:j9):Prop where
 b0:0≤s.born
 b1:s.born≤d.now
 fe:s.iI=d.rules.uj
 n0:0≤s.next
 n1:s.next≤18446744073709543423
 wi:Gv s.py
theorem Jy {d:bK} {s:j9} (h:vV d s):bB Pg I.eX [dY d,fO s] (.bl true):=by
 refine af.intro T.eX (by simp[F.eX]) ?_
 have h1:=h.fe
 have h2:=h.n1
 simp[F.eX,an,aG]
 refine al.ret (Ic (d:=d) h.b0 h.b1) (by simp) (by simp) (by simp) ?_
 rcases h.wi with hw|⟨w,hu,_,hw⟩
 ·simp[h1,h2,hw,Ib]
  refine⟨by rw[gX];rfl,?_⟩
  refine aM.plain [] ?_
  simp
  rw[gX];rfl
 ·simp[h1,h2,hw,pr,wP,hu]
  refine aM.plain [] ?_
  simp
def xD:Nat->Nat->List UInt8
 |0,n=>[UInt8.ofNat (48+n)]
 |f+1,n=>if n<10 then [UInt8.ofNat (48+n)]else xD f (n/10)++[UInt8.ofNat (48+n%10)]
theorem qH:∀f n,1≤(xD f n).length∧(xD f n).length≤f+1
 |0,n=>by simp[xD]
 |
  f+1,n=>by
  have:=qH f (n/10)
  simp only[xD];split<;>simp<;>omega
theorem arX {n:Nat} (h:n<256):u8 (UInt8.ofNat n)= .int .u8 n:=by
 simp only[u8];congr 1;simp;omega
theorem YX {x:Int} {n:Nat} (e:x=n) (h:n<256):iV [.int .u8 x]=some [UInt8.ofNat n]:=by
 subst e;rw[←arX h];exact yr [UInt8.ofNat n]
theorem Jz:∀(f n:Nat),f≤100->n<10^(f+1)->n<1000000->bB Pg I.cB [.int .i64 n] (.str (xD f n)):=by
 intro f
 induction f with
 |
  zero=>
  intro n hf h h'
  have hn:(n:Int)<10:=by simp at h;omega
  refine af.intro T.cB (by simp[F.cB]) ?_
  have w1:IntKind.i64.wrap (48+(n:Int))=48+(n:Int):=wrap_i64 (by omega)
  have w2:IntKind.u8.wrap (48+(n:Int))=48+(n:Int):=wrap_u8 (by omega)
  simp[F.cB,an,aG,hn,w1,w2,YX (x:=48+(n:Int)) (n:=48+n) (by omega) (by omega)]
  refine aM.plain [] ?_
  simp[xD]
 |
  succ f ih=>
  intro n hf h h'
  refine af.intro T.cB (by simp[F.cB]) ?_
  by_cases hn:(n:Int)<10
  ·have w1:IntKind.i64.wrap (48+(n:Int))=48+(n:Int):=wrap_i64 (by omega)
   have w2:IntKind.u8.wrap (48+(n:Int))=48+(n:Int):=wrap_u8 (by omega)
   simp[F.cB,an,aG,hn,w1,w2,YX (x:=48+(n:Int)) (n:=48+n) (by omega) (by omega)]
   refine aM.plain [] ?_
   have Pq:n<10:=by omega
   simp[xD,Pq]
  ·have hl:=qH f (n/10)
   obtain⟨q,hq⟩:∃q,q=n/10:=⟨_,rfl⟩
   obtain⟨t,ht⟩:∃t,t=n%10:=⟨_,rfl⟩
   have hd:IntKind.i64.wrap ((n:Int).tdiv 10)=(q:Int):=by
    rw[show(10:Int)=((10:Nat):Int) from rfl,←Int.ofNat_tdiv,hq];exact wrap_i64 (by omega)
   have LR:IntKind.i64.wrap ((n:Int)/10)=(q:Int):=by
    rw[show(n:Int)/10=((n/10:Nat):Int) by omega,hq];exact wrap_i64 (by omega)
   have hm:(n:Int).tmod 10=(t:Int):=by
    rw[show(10:Int)=((10:Nat):Int) from rfl,←Int.ofNat_tmod,ht]
   have w1:IntKind.i64.wrap (48+(t:Int))=48+(t:Int):=wrap_i64 (by omega)
   have w2:IntKind.u8.wrap (48+(t:Int))=48+(t:Int):=wrap_u8 (by omega)
   have hi:=ih q (by omega) (by rw[Nat.pow_succ]at h;omega) (by omega)
   simp[F.cB,an,aG,hn,LR]
   refine a0.ret hi (by simp) (by simp) (by simp) ?_
   rw[←hq]at hl
   simp[hm,w1,w2,YX (x:=48+(t:Int)) (n:=48+t) (by omega) (by omega)]
   refine⟨by omega,?_⟩
   refine aM.plain [] ?_
   have Pq:¬n<10:=by omega
   simp[xD,Pq,←hq,←ht]
theorem JA {n:Int} (h:n=0∨1000≤n∧n≤1073741824):bB Pg I.eY [.int .i64 n] (.bl true):=by
 refine af.intro T.eY (by simp[F.eY]) ?_
 rcases h with h|⟨h1,h2⟩
 ·simp[F.eY,an,aG,h]
  refine aM.plain [] ?_
  simp
 ·have h0:¬n=0:=by omega
  simp[F.eY,an,aG,h0,h1,h2]
  refine aM.plain [] ?_
  simp
@[simp↓] theorem ac9 (a b:List UInt8) (K:PV->Prop):wT .geq a b K=K (.bl (!Op.bytesLess a b)):=_root_.id rfl
def vW (a:tm) (n:Nat):List UInt8:=((a.ip.take n).map (λb=>[46]++xD 2 b.toNat)).flatten
theorem Er (a:tm):∀n,(vW a n).length≤4*n:=by
 intro n
 unfold vW
 generalize a.ip=l
 induction l generalizing n with
 |nil=>simp
 |
  cons x l ih=>
  cases n with
  |zero=>simp
  |
   succ n=>
   have:=ih n
   have h2:=qH 2 x.toNat
   simp at this⊢
   omega
theorem Lm (a:tm) {n:Nat} {b:UInt8} (h:a.ip[n]? =some b):vW a (n+1)=vW a n++([46]++xD 2 b.toNat):=by
 unfold vW
 rw[List.take_add_one,h];simp
theorem Gw (a:tm):2≤(vW a 4).length:=by
 have h:=a.h
 obtain⟨x,l,e⟩:∃x l,a.ip=x::l:=by
  cases hx:a.ip with
  |nil=>rw[hx]at h;simp at h
  |cons x l=>exact⟨x,l,rfl⟩
 unfold vW
 rw[e]
 have h2:=qH 2 x.toNat
 simp
 omega
theorem Ie {a:tm} (h:tF a 4) (h6:a.P3=false):bB Pg I.ey [jF a] (.str ((vW a 4).drop 1)):=by
 refine af.intro T.ey (by simp[F.ey]) ?_
 simp[F.ey,an,aG]
 refine al.ret (cm h) (by simp) (by simp) (by simp) ?_
 simp[h6]
 refine jh.jY 4 (λ_=>True) [1,2,3,4] (λi=>[(3,.str (vW a i)),(4,.int .i64 i)]) (λi=>[]) [.keep [1,2,3,4]] ?_
 simp[show vW a 0=[] from rfl]
 refine⟨λi hi K hK=> ?_,λK=> ?_⟩
 ·have uP:i<a.ip.length:=by rw[a.h];omega
  have hx:a.ip[i]? =some a.ip[i]:=gJ uP
  have hb:=(a.ip[i]).toNat_lt
  have hw:IntKind.i64.wrap ((a.ip[i]).toNat:Int)=((a.ip[i]).toNat:Int):=wrap_i64 (by omega)
  have hi4:(i:Int)<4:=by omega
  have hl:=Er a i
  have EU:=qH 2 (a.ip[i]).toNat
  rw[Lm a hx]at hK
  have awz:(i:Int)<16:=by omega
  simp[↓av,hi4,awz,hx,u8,hw]
  refine al.ret (Jz 2 (a.ip[i]).toNat (by omega) (by omega) (by omega)) (by simp) (by simp) (by simp) ?_
  simp[fG hi (by omega)]
  refine⟨by omega,by omega,[.keep [1,2,3,4]],?_⟩
  simp
  exact hK _ (by simp)
 ·have hl:=Er a 4
  have hp:=Gw a
  simp[↓av,↓av]
  refine⟨by omega,?_⟩
  refine aM.plain [] ?_
  simp
theorem YY (i:Nat):tF (uq i).addr 4:=by
 intro j h1 h2
 simp only[uq]
 rcases(by omega:j=4∨j=5∨j=6∨j=7∨j=8∨j=9∨j=10∨j=11∨j=12∨j=13∨j=14∨j=15)with rfl|rfl|rfl|rfl|rfl|rfl|rfl|rfl|rfl|rfl|rfl|rfl<;>rfl
def SI (i:Nat):List UInt8:=(vW (uq i).addr 4).drop 1++[58]++xD 3 (1000+i)
theorem Oo (i:Nat):SI i≠[]:=by simp[SI]
theorem Bt {i:Nat} (h:i<3):bB Pg I.cN [ji (uq i)] (.str (SI i)):=by
 refine af.intro T.cN (by simp[F.cN]) ?_
 have hf:=Ie (YY i) rfl
 have hl:=Er (uq i).addr 4
 have hp:=Gw (uq i).addr
 have hd:=qH 3 (1000+i)
 have he:SI i=(vW (uq i).addr 4).drop 1++[58]++xD 3 (1000+i):=rfl
 rw[he]
 obtain⟨m,hm⟩:∃m,(vW (uq i).addr 4).drop 1=m:=⟨_,rfl⟩
 have QF:m.length=(vW (uq i).addr 4).length-1:=by rw[←hm,List.length_drop]
 rw[hm]at hf⊢
 have hn:m≠[]:=by intro e;rw[e]at QF;simp at QF;omega
 have p1:(uq i).port=1000+(i:Int):=rfl
 have p2:¬(1000+(i:Int))<1:=by omega
 have p3:¬(65535:Int)<1000+(i:Int):=by omega
 have p4:(uq i).addr.P3=false:=rfl
 have hdc:=Jz 3 (1000+i) (by omega) (by omega) (by omega)
 rw[show((1000+i:Nat):Int)=1000+(i:Int) by omega]at hdc
 simp[F.cN,an,aG]
 refine al.ret hf (by simp) (by simp) (by simp) ?_
 simp[hn,p1,p2,p3,p4]
 refine⟨by omega,?_⟩
 refine al.ret hdc (by simp) (by simp) (by simp) ?_
 simp
 refine⟨by omega,?_⟩
 refine aM.plain [] ?_
 simp
end Go.Ab
end E9s
