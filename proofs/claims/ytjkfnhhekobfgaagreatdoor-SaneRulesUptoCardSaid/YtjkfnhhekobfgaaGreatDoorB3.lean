/- Codes, keys, prefixes, indices, rings of the reference. No condition. -/
import Derived.Test.YtjkfnhhekobfgaaGreatDoorB2
import Derived.Laws.BitsAllLaws
set_option maxRecDepth 10000
set_option maxHeartbeats 1000000
set_option linter.all false
noncomputable section E3s
namespace Go.Ab
open Go.Ab
theorem BF:∀l m:List UInt8,PV.mF (l.map u8) (m.map u8)=decide (l=m)
 |[],[]=>by simp[PV.mF]
 |[],_::_=>by simp[PV.mF]
 |_::_,[]=>by simp[PV.mF]
 |
  a::l,b::m=>by
  have ih:=BF l m
  simp only[List.map_cons,PV.mF,ih,u8,PV.beq]
  by_cases h:a=b
  ·subst h;simp
  ·have:¬(a.toNat=b.toNat):=λe=>h (UInt8.toNat_inj.1 e)
   simp[h,this]
   intro e;exact absurd (by omega) this
theorem Key.ext' {a b:Key} (h:a.l=b.l):a=b:=by cases a;cases b;simp_all
instance:DecidableEq Key:=λa b=>if h:a.l=b.l then isTrue (Key.ext' h)else isFalse (λe=>h (by rw[e]))
theorem gr (a b:Key):PV.beq (dU a) (dU b)=decide (a=b):=by
 have:(a=b)↔a.l=b.l:=⟨λe=>by rw[e],Key.ext'⟩
 simp[dU,PV.beq,BF,this]
def RL (a b:Key):Bool:=Op.bytesLess a.l b.l
def iF (a b:iR):Bool:=if a.at_≠b.at_ then decide (a.at_<b.at_)else if a.peer≠b.peer then RL a.peer b.peer else decide (a.kind<b.kind)
theorem aW (a b:iR):bg Pg I.aW [iv a,iv b] (.bl (iF a b)):=by
 refine ai.intro T.aW (by simp[F.aW]) ?_
 by_cases h1:a.at_=b.at_
 ·by_cases h2:a.peer=b.peer
  ·simp[F.aW,aj,aF,h1,h2,gr]
   refine al.plain [] ?_
   simp[iF,h1,h2]
  ·simp[F.aW,aj,aF,h1,h2,gr]
   have ta:(a.peer.l.map u8).take 32=a.peer.l.map u8:=tJ (by simp[a.peer.h])
   have tb:(b.peer.l.map u8).take 32=b.peer.l.map u8:=tJ (by simp[b.peer.h])
   simp[dU,a.peer.h,b.peer.h,ta,tb]
   refine al.plain [] ?_
   simp[iF,RL,h1,h2]
 ·simp[F.aW,aj,aF,h1]
  refine al.plain [] ?_
  simp[iF,h1]
def zt (k:Key) (n:Int) (x:iR):Bool:= !(decide (x.peer=k)&&decide (x.kind=n))
def jM (l:List iR) (k:Key) (n:Int):List iR:=l.filter (zt k n)
theorem qK {α:Type} (p:α->Bool) {l:List α} {i:Nat} (h:i<l.length):(l.take (i+1)).filter p=(l.take i).filter p++(if p l[i]=true then [l[i]]else []):=by
 rw[List.take_succ_eq_append_getElem h,List.filter_append]
 congr 1
 by_cases hk:p l[i]=true<;>simp[hk]
theorem qL {α:Type} (p:α->Bool) (l:List α) (i:Nat):((l.take i).filter p).length≤i:=by
 have:=List.length_filter_le p (l.take i)
 rw[lJ]at this;omega
theorem dk {l:List iR} (h:l.length≤1048576) (k:Key) (n:Int):bg Pg I.dk [cN l,dU k,.int .i64 n] (cN (jM l k n)):=by
 refine ai.intro T.dk (by simp[F.dk]) ?_
 simp[F.dk,aj,aF,cN]
 refine fb.fG l.length (λ_=>True) [2,4,6,7,10,11,12] (λi=>[(7,.rs 7 [] 0 ((l.take i).filter (zt k n)).length ((l.take i).filter (zt k n)).length 34 .tip),(12,.int .i64 i)]) (λi=>[(7,.arr 34 (((l.take i).filter (zt k n)).map iv))]) [.vt 7 7 34] ?_
 simp
 refine⟨λi hi K hK=> ?_,λK=> ?_⟩
 ·have hx:l[i]? =some l[i]:=gJ hi
  have hlen:=qL (zt k n) l i
  rw[qK _ hi]at hK
  generalize (l.take i).filter (zt k n)=out at*
  by_cases h1:l[i].peer=k
  ·by_cases h2:l[i].kind=n
   ·simp[↓ah,hx,hi,h1,h2,gr,cu hi h]
    refine⟨[.keep [2,4,6,7,10,11,12],.dr 9],?_⟩
    simp[eI,fE,ae,af]
    exact hK _ (by simp[zt,h1,h2])
   ·simp[↓ah,hx,hi,h1,h2,gr,cu hi h]
    refine⟨⟨by omega,by omega⟩,[.keep [2,4,6,7,10,11,12],.dr 9],?_⟩
    simp[eI,fE,ae,af]
    exact hK _ (by simp[zt,h1,h2])
  ·simp[↓ah,hx,hi,h1,gr,cu hi h]
   refine⟨⟨by omega,by omega⟩,[.keep [2,4,6,7,10,11,12],.dr 9],?_⟩
   simp[eI,fE,ae,af]
   exact hK _ (by simp[zt,h1])
 ·simp[↓ah,↓ah]
  refine al.plain [.keep [6],.fz 7,.wk 6] ?_
  simp[jM]
def jO (t:iR):List iR->Nat
 |[]=>0
 |x::r=>if iF t x=true then 0 else jO t r+1
def yA (l:List iR) (t:iR):List iR:=let r:=jM l t.peer t.kind;r.take (jO t r)++[t]++r.drop (jO t r)
theorem Gm (t:iR):∀l,jO t l≤l.length
 |[]=>Nat.le_refl _
 |x::r=>by simp only[jO];split<;>simp;exact Gm t r
theorem Gn (t:iR):∀(l:List iR) (i:Nat) (h:i<l.length),i<jO t l->iF t l[i]=false
 |x::r,0,h,hi=>by simp only[jO]at hi;split at hi<;>simp_all
 |
  x::r,i+1,h,hi=>by
  simp only[jO]at hi
  split at hi
  ·omega
  ·simpa using Gn t r i (by simpa using h) (by omega)
theorem Gp (t:iR):∀(l:List iR) (h:jO t l<l.length),iF t l[jO t l]=true
 |[],h=>by simp at h
 |
  x::r,h=>by
  simp only[jO]at h⊢
  by_cases hx:iF t x=true
  ·simp[hx]
  ·simp only[hx,fJ,if_false]at h⊢
   simpa using Gp t r (by simpa using h)
theorem dC {l:List iR} (h:l.length≤1048575) (t:iR):bg Pg I.dC [cN l,iv t] (cN (yA l t)):=by
 refine ai.intro T.dC (by simp[F.dC]) ?_
 simp[F.dC,aj,aF]
 refine an.ret (dk (l:=l) (by omega) t.peer t.kind) (by simp) (by simp) (by simp) ?_
 have hle:(jM l t.peer t.kind).length≤l.length:=List.length_filter_le _ _
 have hr:yA l t=(jM l t.peer t.kind).take (jO t (jM l t.peer t.kind))++[t]++(jM l t.peer t.kind).drop (jO t (jM l t.peer t.kind)):=rfl
 rw[hr]
 generalize jM l t.peer t.kind=r at*
 have hp:=Gm t r
 simp
 refine fb.fG (jO t r) (λ_=>True) [3,4,5,6] (λi=>[(6,.int .i64 i)]) (λi=>[]) [.keep [3,4,5,6]] ?_
 simp
 refine⟨λi hi K hK=> ?_,λK=> ?_⟩
 ·have hl:i<r.length:=by omega
  have hx:r[i]? =some r[i]:=gJ hl
  have hn:=Gn t r i hl hi
  simp[↓ah,hx,hl]
  refine aU.ret (aW t r[i]) (by simp) (by simp) (by simp) ?_
  simp[hn,cu hl (by omega)]
  refine⟨[.keep [3,4,5,6]],?_⟩
  simp
  exact hK _ (by simp)
 ·by_cases hq:jO t r<r.length
  ·have hx:r[jO t r]? =some r[jO t r]:=gJ hq
   have hn:=Gp t r hq
   simp[↓ah,hx,hq]
   refine aU.ret (aW t r[jO t r]) (by simp) (by simp) (by simp) ?_
   simp[hn]
   simp[↓ah,cN]
   refine qD.run [33,38] rfl ?_
   simp[hp]
   have pj:min (1+(r.length-jO t r)) (r.length-jO t r+1)=1+(r.length-jO t r):=by omega
   rw[pj]
   refine⟨⟨by omega,by omega⟩,⟨by omega,by omega⟩,⟨by omega,by omega⟩,?_⟩
   refine al.plain [.keep [4],.dr 33,.fz 38,.wk 4] ?_
   have h1:min (jO t r) r.length=jO t r:=by omega
   have h2:r.length-jO t r+1=1+(r.length-jO t r):=by omega
   simp[eI,fE,ae,af,ab,h1,h2,tJ]
  ·simp[↓ah,hq]
   simp[↓ah,cN]
   refine qD.run [33,38] rfl ?_
   simp[hp]
   have pj:min (1+(r.length-jO t r)) (r.length-jO t r+1)=1+(r.length-jO t r):=by omega
   rw[pj]
   refine⟨⟨by omega,by omega⟩,⟨by omega,by omega⟩,⟨by omega,by omega⟩,?_⟩
   refine al.plain [.keep [4],.dr 33,.fz 38,.wk 4] ?_
   have h1:min (jO t r) r.length=jO t r:=by omega
   have h2:r.length-jO t r+1=1+(r.length-jO t r):=by omega
   simp[eI,fE,ae,af,ab,h1,h2,tJ]
end Go.Ab
end E3s
noncomputable section E4s
namespace Go.Ab
open Go.Ab
theorem Dh {n:Nat} (h:n<2^8):IntKind.u8.wrap (n:Int)=(n:Int):=wrap_u8 (by omega)
def j8 (net host:UInt8):im:=⟨false,[10,net,0,host,0,0,0,0,0,0,0,0,0,0,0,0],rfl⟩
theorem en (n h:UInt8):bg Pg I.en [.int .i64 (n.toNat:Int),.int .i64 (h.toNat:Int)] (dN (j8 n h)):=by
 refine ai.intro T.en (by simp[F.en]) ?_
 have h1:=n.toNat_lt
 have h2:=h.toNat_lt
 simp[F.en,aj,aF,fC,List.replicate,Dh h1,Dh h2]
 refine al.plain [] ?_
 simp[dN,j8,u8]
def rT (a:im) (k:Nat):Prop:=∀j,k≤j->j<16->a.ip[j]? =some 0
theorem rv (n:UInt8):rT (j8 n 0) 2:=by
 intro j h1 h2
 simp only[j8]
 rcases(by omega:j=2∨j=3∨j=4∨j=5∨j=6∨j=7∨j=8∨j=9∨j=10∨j=11∨j=12∨j=13∨j=14∨j=15)with rfl|rfl|rfl|rfl|rfl|rfl|rfl|rfl|rfl|rfl|rfl|rfl|rfl|rfl<;>rfl
theorem rT.mono {a:im} {k m:Nat} (h:rT a k) (hk:k≤m):rT a m:=λj h1 h2=>h j (by omega) h2
theorem bT {a:im} (h:rT a 4):bg Pg I.bT [dN a] (.bl true):=by
 refine ai.intro T.bT (by simp[F.bT]) ?_
 simp[F.bT,aj,aF]
 refine fb.fG 12 (λ_=>True) [1,2,6,7,8] (λi=>[(8,.int .i64 i)]) (λi=>[]) [.keep [1,2,6,7,8]] ?_
 simp
 refine⟨λi hi K hK=> ?_,λK=> ?_⟩
 ·have hx:a.ip[4+i]? =some 0:=h _ (by omega) (by omega)
  have hw:IntKind.i64.wrap ((i:Int)+1)=(i:Int)+1:=wrap_i64 (by omega)
  have qo:(i:Int)<12:=by omega
  simp[↓ah,hi,qo,hx,hw,u8]
  refine⟨[.keep [1,2,6,7,8]],?_⟩
  simp
  exact hK _ (by simp)
 ·simp[↓ah,↓ah]
  refine al.plain [] ?_
  simp
theorem dc (a:im):bg Pg I.dc [dN a] (.int .i64 (if a.jJ=true then 128 else 32)):=by
 refine ai.intro T.dc (by simp[F.dc]) ?_
 by_cases h:a.jJ=true
 ·simp[F.dc,aj,aF,h]
  refine al.plain [] ?_
  simp
 ·simp[F.dc,aj,aF,h]
  refine al.plain [] ?_
  simp
theorem RM (i:Nat):(i:Int).tmod 8=((i%8:Nat):Int):=by rw[show(8:Int)=((8:Nat):Int) from rfl,←Int.ofNat_tmod]
theorem dm {a:im} {k:Nat} (h:rT a k) {i:Nat} (hi:8*k≤i) (eS:i<128):bg Pg I.dm [dN a,.int .i64 (i:Int)] (.int .u8 0):=by
 refine ai.intro T.dm (by simp[F.dm]) ?_
 have hx:a.ip[i/8]? =some 0:=h _ (by omega) (by omega)
 have hw:IntKind.i64.wrap ((i/8:Nat):Int)=((i/8:Nat):Int):=wrap_i64 (by omega)
 have Cq:IntKind.i64.wrap (7-((i%8:Nat):Int))=((7-i%8:Nat):Int):=by rw[wrap_i64 (by omega)];omega
 have hd:(i:Int).tdiv 8=((i/8:Nat):Int):=by rw[show(8:Int)=((8:Nat):Int) from rfl,←Int.ofNat_tdiv]
 have hb:bits .and .u8 0 1=0:=rfl
 simp[F.dm,aj,aF,hx,RM,hw,Cq,hd,hb,u8,-Int.natCast_ediv,-Int.natCast_emod,]
 refine⟨by omega,?_⟩
 refine al.plain [] ?_
 simp
theorem At (a:im):tQ a (.ar 1 16 (a.ip.map u8))=dN a:=rfl
theorem Kp {α:Type} {l:List α} {i:Nat} {x:α} (h:l[i]? =some x):l.set i x=l:=by
 apply List.ext_getElem?;intro j
 rw[List.getElem?_set]
 split
 ·rename_i e;subst e;split
  ·exact h.symm
  ·rename_i hl;rw[List.getElem?_eq_none (by omega)]
 ·rfl
theorem cG {a:im} (h:rT a 2):bg Pg I.cG [dN a,.int .i64 16] (iE ⟨a,16⟩):=by
 refine ai.intro T.cG (by simp[F.cG]) ?_
 simp[F.cG,aj,aF]
 refine fb.fG 112 (λ_=>True) [1,2,4,5] (λi=>[(5,.int .i64 (16+(i:Int)))]) (λi=>[]) [.keep [1,2,4,5]] ?_
 simp
 refine⟨λi hi K hK=> ?_,λK=> ?_⟩
 ·obtain⟨m,hm⟩:∃m,m=(16+i)/8:=⟨_,rfl⟩
  obtain⟨t,ht⟩:∃t,t=(16+i)%8:=⟨_,rfl⟩
  have hx:a.ip[m]? =some 0:=h _ (by omega) (by omega)
  have MV:(a.ip.map u8)[m]? =some (.int .u8 0):=by simp[hx,u8]
  have hw:IntKind.i64.wrap (16+(i:Int)+1)=16+((i:Int)+1):=by rw[wrap_i64 (by omega)];omega
  have hd:IntKind.i64.wrap ((16+(i:Int)).tdiv 8)=(m:Int):=by
   rw[show(16+(i:Int))=((16+i:Nat):Int) by omega,show(8:Int)=((8:Nat):Int) from rfl,←Int.ofNat_tdiv,hm];exact wrap_i64 (by omega)
  have ht':(16+(i:Int)).tmod 8=(t:Int):=by
   rw[show(16+(i:Int))=((16+i:Nat):Int) by omega,show(8:Int)=((8:Nat):Int) from rfl,←Int.ofNat_tmod,ht]
  have qo:16+(i:Int)<128:=by omega
  have mO:(m:Int)<16:=by omega
  have hb:∀n:Int,bits .andNot .u8 0 n=0:=by
   intro n;simp[bits,BitVec.ofInt]
  simp[↓ah,hi,qo,hx,MV,hw,hd,ht',mO,hb,u8,At]
  rw[Kp MV]
  refine⟨[.keep [1,2,4,5]],?_⟩
  simp[At]
  exact hK _ (by simp)
 ·simp[↓ah,↓ah]
  refine al.plain [] ?_
  simp[iE]
theorem bK {a:im} (h:rT a 2) (h6:a.jJ=false):bg Pg I.bK [iE ⟨a,16⟩] (.bl true):=by
 refine ai.intro T.bK (by simp[F.bK]) ?_
 simp[F.bK,aj,aF]
 refine aU.ret (bT (h.mono (by omega))) (by simp) (by simp) (by simp) ?_
 simp
 refine aU.ret (dc a) (by simp) (by simp) (by simp) ?_
 simp[h6]
 refine fb.fG 112 (λ_=>True) [1,2,3] (λi=>[(3,.int .i64 (16+(i:Int)))]) (λi=>[]) [.keep [1,2,3]] ?_
 simp
 refine⟨λi hi K hK=> ?_,λK=> ?_⟩
 ·have hw:IntKind.i64.wrap (16+(i:Int)+1)=16+((i:Int)+1):=by rw[wrap_i64 (by omega)];omega
  have qo:16+(i:Int)<128:=by omega
  have hb:=dm h (i:=16+i) (by omega) (by omega)
  rw[show((16+i:Nat):Int)=16+(i:Int) by omega]at hb
  simp[↓ah,hi,qo,hw]
  refine an.ret hb (by simp) (by simp) (by simp) ?_
  simp[hw]
  refine⟨[.keep [1,2,3]],?_⟩
  simp
  exact hK _ (by simp)
 ·simp[↓ah,↓ah]
  refine al.plain [] ?_
  simp
end Go.Ab
end E4s
noncomputable section E5s
namespace Go.Ab
open Go.Ab
def qM (n:UInt8):Aq:=⟨j8 n 0,16⟩
theorem E0 {n m:UInt8} (h:n<m):Op.bytesLess (j8 n 0).ip (j8 m 0).ip=true:=by
 have h':¬m<n:=λe=>absurd (UInt8.lt_iff_toNat_lt.1 e) (by have:=UInt8.lt_iff_toNat_lt.1 h;omega)
 simp[j8,Op.bytesLess,h,h']
theorem Di {n m:UInt8} (h:n<m):Op.bytesLess (j8 m 0).ip (j8 n 0).ip=false:=by
 have h':¬m<n:=λe=>absurd (UInt8.lt_iff_toNat_lt.1 e) (by have:=UInt8.lt_iff_toNat_lt.1 h;omega)
 simp[j8,Op.bytesLess,h,h']
theorem cC (a b:im) (h1:a.jJ=false) (h2:b.jJ=false):bg Pg I.cC [dN a,dN b] (.bl (Op.bytesLess a.ip b.ip)):=by
 refine ai.intro T.cC (by simp[F.cC]) ?_
 have ta:(a.ip.map u8).take 16=a.ip.map u8:=tJ (by simp[a.h])
 have tb:(b.ip.map u8).take 16=b.ip.map u8:=tJ (by simp[b.h])
 simp[F.cC,aj,aF,h1,h2,ta,tb]
 refine al.plain [] ?_
 simp
theorem RN {n m:UInt8} (h:n≠m):PV.beq (dN (j8 n 0)) (dN (j8 m 0))=false:=by
 have:¬(n.toNat=m.toNat):=λe=>h (UInt8.toNat_inj.1 e)
 simp[dN,j8,PV.beq,PV.mF,u8,this]
 intro e;omega
theorem bu {n m:UInt8} (h:n≠m):bg Pg I.bu [iE (qM n),iE (qM m)] (.bl (Op.bytesLess (j8 n 0).ip (j8 m 0).ip)):=by
 refine ai.intro T.bu (by simp[F.bu]) ?_
 simp[F.bu,aj,aF,qM,RN h]
 refine an.ret (cC (j8 n 0) (j8 m 0) rfl rfl) (by simp) (by simp) (by simp) ?_
 simp
 refine al.plain [] ?_
 simp
theorem abF {n m:UInt8} (h:n≠m):PV.beq (iE (qM n)) (iE (qM m))=false:=by
 simp[iE,qM,PV.beq,PV.mF,RN h]
theorem bz {l:List pn} {n:UInt8} (h:∀r∈l,∃m,m<n∧r.mA=qM m) (hl:l.length<16) (k:Key):bg Pg I.bz [ee l,iE (qM n),dU k] (.tup [ee (l++[⟨qM n,k⟩]),.int .i64 0]):=by
 refine ai.intro T.bz (by simp[F.bz]) ?_
 simp[F.bz,aj,aF]
 refine an.ret (bK (rv n) rfl) (by simp[qM]) (by simp) (by simp) ?_
 simp(disch:=omega) [ee]
 refine⟨⟨by omega,by omega⟩,?_⟩
 refine fb.fG l.length (λ_=>True) [0,4,5,6,7,8,17,18] (λi=>[(18,.int .i64 i)]) (λi=>[]) [.keep [0,4,5,6,7,8,17,18]] ?_
 simp
 refine⟨λi hi K hK=> ?_,λK=> ?_⟩
 ·have hx:l[i]? =some l[i]:=gJ hi
  obtain⟨m,hm,he⟩:=h _ (List.getElem_mem hi)
  have hb:(iE (qM m)).beq (iE (qM n))=false:=abF (UInt8.ne_of_lt hm)
  have hw:IntKind.i64.wrap ((i:Int)+1)=(i:Int)+1:=wrap_i64 (by omega)
  simp[↓ah,hx,hi,he,hb,hw]
  refine⟨[.keep [0,4,5,6,7,8,17,18]],?_⟩
  simp
  exact hK _ (by simp)
 ·have Ce:¬(16:Int)≤l.length:=by omega
  simp[↓ah,↓ah,Ce]
  refine fb.fG l.length (λ_=>True) [0,4,5,6,7,8,10] (λi=>[(10,.int .i64 i)]) (λi=>[]) [.keep [0,4,5,6,7,8,10]] ?_
  simp
  refine⟨λi hi K hK=> ?_,λK=> ?_⟩
  ·have hx:l[i]? =some l[i]:=gJ hi
   obtain⟨m,hm,he⟩:=h _ (List.getElem_mem hi)
   have hw:IntKind.i64.wrap ((i:Int)+1)=(i:Int)+1:=wrap_i64 (by omega)
   have hb:=bu (n:=n) (m:=m) (λe=>UInt8.ne_of_lt hm e.symm)
   rw[Di hm]at hb
   simp[↓ah,hx,hi,he,hw]
   refine aU.ret hb (by simp) (by simp) (by simp) ?_
   simp[hw]
   refine⟨[.keep [0,4,5,6,7,8,10]],?_⟩
   simp
   exact hK _ (by simp)
  ·simp[↓ah,↓ah]
   refine qD.run [61,66] rfl ?_
   simp
   refine⟨⟨by omega,by omega⟩,?_⟩
   refine al.plain [.keep [6,7],.dr 61,.dr 15,.fz 66,.wk 6] ?_
   simp[eI,fE,ae,af,ab,ee,iQ]
end Go.Ab
end E5s
noncomputable section E6s
namespace Go.Ab
open Go.Ab
def zK:Key:=⟨List.replicate 32 0,rfl⟩
def zSl:cS:=⟨0,zK,false⟩
theorem qN {l:List cS} (hl:l.length≤1048576) {x:Int} (h:∀s∈l,s.index≠x):bg Pg I.aX [b6 l,.int .u32 x] (.tup [aM zSl,.bl false]):=by
 refine ai.intro T.aX (by simp[F.aX]) ?_
 simp[F.aX,aj,aF]
 refine fb.fG l.length (λ_=>True) [1,4,5,8,9,10] (λi=>[(10,.int .i64 i)]) (λi=>[]) [.keep [1,4,5,8,9,10]] ?_
 simp
 refine⟨λi hi K hK=> ?_,λK=> ?_⟩
 ·have hx:l[i]? =some l[i]:=gJ hi
  have he:=h _ (List.getElem_mem hi)
  simp[↓ah,hx,hi,he,cu hi hl]
  refine⟨[.keep [1,4,5,8,9,10],.dr 7],?_⟩
  simp
  exact hK _ (by simp)
 ·simp[↓ah,↓ah]
  refine al.plain [] ?_
  simp[aM,zSl,zK,dU,fC,u8]
theorem tU {l:List cS} (hl:l.length≤1048576) {x:Int} {f:Nat} (hf:f<l.length) (he:l[f].index=x) (h:∀j (hj:j<l.length),j<f->l[j].index≠x):bg Pg I.aX [b6 l,.int .u32 x] (.tup [aM l[f],.bl true]):=by
 refine ai.intro T.aX (by simp[F.aX]) ?_
 simp[F.aX,aj,aF]
 refine fb.fG f (λ_=>True) [1,4,5,8,9,10] (λi=>[(10,.int .i64 i)]) (λi=>[]) [.keep [1,4,5,8,9,10]] ?_
 simp
 refine⟨λi hi K hK=> ?_,λK=> ?_⟩
 ·have eS:i<l.length:=by omega
  have hx:l[i]? =some l[i]:=gJ eS
  have he:=h i eS hi
  simp[↓ah,hx,eS,he,cu eS hl]
  refine⟨[.keep [1,4,5,8,9,10],.dr 7],?_⟩
  simp
  exact hK _ (by simp)
 ·have hx:l[f]? =some l[f]:=gJ hf
  simp[↓ah,hx,hf,he]
  refine al.plain [] ?_
  simp
def IK (x:Int) (s:cS):Bool:=decide (s.index≠x)
theorem Kq {l:List cS} (h:l.length≤1048576) (x:Int):bg Pg I.dZ [b6 l,.int .u32 x] (b6 (l.filter (IK x))):=by
 refine ai.intro T.dZ (by simp[F.dZ]) ?_
 simp[F.dZ,aj,aF,b6]
 refine fb.fG l.length (λ_=>True) [1,4,5,8,9,10] (λi=>[(5,.rs 5 [] 0 ((l.take i).filter (IK x)).length ((l.take i).filter (IK x)).length 34 .tip),(10,.int .i64 i)]) (λi=>[(5,.arr 34 (((l.take i).filter (IK x)).map aM))]) [.vt 5 5 34] ?_
 simp
 refine⟨λi hi K hK=> ?_,λK=> ?_⟩
 ·have hx:l[i]? =some l[i]:=gJ hi
  have hlen:=qL (IK x) l i
  rw[qK _ hi]at hK
  generalize (l.take i).filter (IK x)=out at*
  by_cases h1:l[i].index=x
  ·simp[↓ah,hx,hi,h1,cu hi h]
   refine⟨[.keep [1,4,5,8,9,10],.dr 7],?_⟩
   simp[eI,fE,ae,af]
   exact hK _ (by simp[IK,h1])
  ·simp[↓ah,hx,hi,h1,cu hi h]
   refine⟨⟨by omega,by omega⟩,[.keep [1,4,5,8,9,10],.dr 7],?_⟩
   simp[eI,fE,ae,af]
   exact hK _ (by simp[IK,h1])
 ·simp[↓ah,↓ah]
  refine al.plain [.keep [4],.fz 5,.wk 4] ?_
  simp
theorem Ks {d:cK} (hl:d.aa.length≤1048576) {k:Key} {f:Nat} (hf:f<d.aa.length) (he:d.aa[f].fF=k) (h:∀j (hj:j<d.aa.length),j<f->d.aa[j].fF≠k):bg Pg I.cL [bE d,dU k] (.int .i64 f):=by
 refine ai.intro T.cL (by simp[F.cL]) ?_
 simp[F.cL,aj,aF]
 refine fb.fG f (λ_=>True) [2,3,4,8,9,10] (λi=>[(10,.int .i64 i)]) (λi=>[]) [.keep [2,3,4,8,9,10]] ?_
 simp
 refine⟨λi hi K hK=> ?_,λK=> ?_⟩
 ·have eS:i<d.aa.length:=by omega
  have hx:d.aa[i]? =some d.aa[i]:=gJ eS
  have he:=h i eS hi
  simp[↓ah,hx,eS,he,gr,cu eS hl]
  refine⟨[.keep [2,3,4,8,9,10],.dr 6],?_⟩
  simp
  exact hK _ (by simp)
 ·have hx:d.aa[f]? =some d.aa[f]:=gJ hf
  simp[↓ah,hx,hf,he,gr]
  refine al.plain [] ?_
  simp
def nK (i:Nat):Key:=⟨[UInt8.ofNat (40*(i+1)),9,7]++List.replicate 29 0,rfl⟩
theorem dD {i:Nat} (h:i<3):bg Pg I.dD [.int .i64 i] (dU (nK i)):=by
 refine ai.intro T.dD (by simp[F.dD]) ?_
 have hw:IntKind.i64.wrap ((i:Int)+1)=(i:Int)+1:=wrap_i64 (by omega)
 have Cq:IntKind.i64.wrap (40*((i:Int)+1))=40*((i:Int)+1):=wrap_i64 (by omega)
 have Ed:IntKind.u8.wrap (40*((i:Int)+1))=40*((i:Int)+1):=wrap_u8 (by omega)
 simp[F.dD,aj,aF,fC,List.replicate,hw,Cq,Ed]
 refine al.plain [] ?_
 have P0:(UInt8.ofNat (40*(i+1))).toNat=40*(i+1):=by simp[UInt8.toNat_ofNat];omega
 simp[dU,nK,u8,P0,List.replicate]
 omega
def sE (i:Nat):Cl:=⟨⟨false,[192,0,2,UInt8.ofNat (i+1),0,0,0,0,0,0,0,0,0,0,0,0],rfl⟩,1000+i⟩
theorem eO {i:Nat} (h:i<3):bg Pg I.eO [.int .i64 i] (gZ (sE i)):=by
 refine ai.intro T.eO (by simp[F.eO]) ?_
 have hw:IntKind.i64.wrap ((i:Int)+1)=(i:Int)+1:=wrap_i64 (by omega)
 have Cq:IntKind.i64.wrap (1000+(i:Int))=1000+(i:Int):=wrap_i64 (by omega)
 have Ed:IntKind.u8.wrap ((i:Int)+1)=(i:Int)+1:=wrap_u8 (by omega)
 simp[F.eO,aj,aF,fC,List.replicate,hw,Cq,Ed]
 refine al.plain [] ?_
 have P0:(UInt8.ofNat (i+1)).toNat=i+1:=by simp[UInt8.toNat_ofNat];omega
 simp[gZ,dN,sE,u8,P0,List.replicate]
 omega
def kX (x:Int):List cS->Nat
 |[]=>0
 |s::r=>if s.index<x then kX x r+1 else 0
def wH (l:List cS) (s:cS):List cS:=l.take (kX s.index l)++[s]++l.drop (kX s.index l)
theorem Gq (x:Int):∀l,kX x l≤l.length
 |[]=>Nat.le_refl _
 |s::r=>by simp only[kX];split<;>simp;exact Gq x r
theorem Gr (x:Int):∀(l:List cS) (i:Nat) (h:i<l.length),i<kX x l->l[i].index<x
 |s::r,0,h,hi=>by simp only[kX]at hi;split at hi<;>simp_all
 |
  s::r,i+1,h,hi=>by
  simp only[kX]at hi
  split at hi
  ·simpa using Gr x r i (by simpa using h) (by omega)
  ·omega
theorem Gs (x:Int):∀(l:List cS) (h:kX x l<l.length),¬l[kX x l].index<x
 |[],h=>by simp at h
 |
  s::r,h=>by
  simp only[kX]at h⊢
  by_cases hx:s.index<x
  ·simp only[hx,if_true]at h⊢
   simpa using Gs x r (by simpa using h)
  ·simp[hx]
theorem Take {l:List cS} (hl:l.length<32) {x:Int} (YU:1≤x) (h:∀s∈l,s.index≠x) (k:Key) (b:Bool):bg Pg I.eZ [b6 l,.int .u32 x,dU k,.bl b] (.tup [b6 (wH l ⟨x,k,b⟩),.int .u32 x,.int .i64 0]):=by
 refine ai.intro T.eZ (by simp[F.eZ]) ?_
 have Ce:¬(32:Int)≤l.length:=by omega
 have hm:max x 1=x:=by omega
 simp[F.eZ,aj,aF,Ce,hm]
 refine fb.fG 0 (λ_=>True) [0,1,2,3,6,8,9,10,11] (λi=>[]) (λi=>[]) [.keep [0,1,2,3,6,8,9,10,11]] ?_
 simp
 intro K
 simp[↓ah]
 refine an.ret (qN (by omega) h) (by simp) (by simp) (by simp) ?_
 simp[↓ah]
 have hp:=Gq x l
 have hr:wH l ⟨x,k,b⟩=l.take (kX x l)++[⟨x,k,b⟩]++l.drop (kX x l):=rfl
 refine fb.fG (kX x l) (λ_=>True) [0,3,6,8,9,10,11,14] (λi=>[(14,.int .i64 i)]) (λi=>[]) [.keep [0,3,6,8,9,10,11,14],.dr 12] ?_
 simp
 refine⟨λi hi K hK=> ?_,λK=> ?_⟩
 ·have eS:i<l.length:=by omega
  have hx:l[i]? =some l[i]:=gJ eS
  have he:=Gr x l i eS hi
  simp[↓ah,hx,eS,he,cu eS (by omega)]
  refine⟨[.keep [0,3,6,8,9,10,11,14]],?_⟩
  simp
  exact hK _ (by simp)
 ·by_cases hq:kX x l<l.length
  ·have hx:l[kX x l]? =some l[kX x l]:=gJ hq
   have he:=Gs x l hq
   simp[↓ah,↓ah,hx,hq,he,b6,hp]
   refine⟨⟨by omega,by omega⟩,⟨by omega,by omega⟩,⟨by omega,by omega⟩,?_⟩
   refine al.plain [.keep [8,9,10],.fz 50,.wk 8] ?_
   have h1:min (kX x l) l.length=kX x l:=by omega
   have h2:kX x l+(l.length-kX x l+1)=kX x l+1+(l.length-kX x l):=by omega
   simp[eI,fE,ae,af,ab,h1,h2,tJ,hr,aM]
  ·simp[↓ah,↓ah,hq,b6,hp]
   refine⟨⟨by omega,by omega⟩,⟨by omega,by omega⟩,⟨by omega,by omega⟩,?_⟩
   refine al.plain [.keep [8,9,10],.fz 50,.wk 8] ?_
   have h1:min (kX x l) l.length=kX x l:=by omega
   have h2:kX x l+(l.length-kX x l+1)=kX x l+1+(l.length-kX x l):=by omega
   simp[eI,fE,ae,af,ab,h1,h2,tJ,hr,aM]
def qb (l:List cS):Prop:=(∀(i:Nat) (h:i<l.length),l[i].index≠0)∧∀(i:Nat) (h:i+1<l.length),l[i].index<l[i+1].index
theorem E1 {l:List cS} (hl:l.length≤32) (h:qb l):bg Pg I.bW [b6 l] (.bl true):=by
 refine ai.intro T.bW (by simp[F.bW]) ?_
 simp[F.bW,aj,aF]
 refine fb.fG l.length (λ_=>True) [0,2,5,6,7] (λi=>[(7,.int .i64 i)]) (λi=>[]) [.keep [0,2,5,6,7]] ?_
 simp
 refine⟨λi hi K hK=> ?_,λK=> ?_⟩
 ·have hx:l[i]? =some l[i]:=gJ hi
  have h0:=h.1 i hi
  by_cases hz:i=0
  ·subst hz
   simp[↓ah,hx,hi,h0]
   refine⟨[.keep [0,2,5,6,7],.dr 4],?_⟩
   simp
   exact hK _ (by simp)
  ·obtain⟨j,zT⟩:∃j,i=j+1:=⟨i-1,by omega⟩
   have hj:j<l.length:=by omega
   have hy:l[j]? =some l[j]:=gJ hj
   have dG:=h.2 j (by omega)
   have wo:¬l[i].index≤l[j].index:=by subst zT;omega
   have hw:IntKind.i64.wrap ((i:Int)-1)=j:=by rw[wrap_i64 (by omega)];omega
   simp[↓ah,hx,hy,hi,hj,h0,hw,wo,show 0<i by omega,cu hi (by omega)]
   refine⟨[.keep [0,2,5,6,7],.dr 4],?_⟩
   simp
   exact hK _ (by simp)
 ·simp[↓ah,↓ah]
  refine al.plain [] ?_
  simp[hl]
  omega
end Go.Ab
end E6s
noncomputable section E7s
namespace Go.Ab
open Go.Ab
structure sF where
 used:Bool
 top:Int
 w0:Int
 w1:Int
 w2:Int
 w3:Int
def wP (w:sF):PV:= .st 6 [.bl w.used,.int .u64 w.top,.ar 1 4 [.int .u64 w.w0,.int .u64 w.w1,.int .u64 w.w2,.int .u64 w.w3]]
def tV (w:sF):FV H3:=⟨wP w,by simp[wP,fits,j7,rO,tc,qv]⟩
def H9 (w:sF) (c:Int):Bool:= !w.used||decide (w.top<c)||decide (bits .and .u64 (w.w0.fdiv (2^min c.toNat 64)) 1=0)
structure Yr (w:sF) (c:Int):Prop where
 t0:0≤w.top
 t8:w.top<8
 c0:0≤c
 c8:c<8
theorem q64 {c:Int} (h0:0≤c) (h8:c<8):c.tdiv 64=0:=Int.tdiv_eq_zero_of_lt h0 (by omega)
theorem r64 {c:Int} (h0:0≤c) (h8:c<8):c.tmod 64=c:=Int.tmod_eq_of_lt h0 (by omega)
theorem bA {w:sF} {c:Int} (h:Yr w c):bg Pg I.bA [wP w,.int .u64 c] (.bl (H9 w c)):=by
 refine ai.intro T.bA (by simp[F.bA]) ?_
 have h0:=h.c0
 have h1:=q64 h.c0 h.c8
 have h2:=r64 h.c0 h.c8
 have h3:=q64 h.t0 h.t8
 have w0:IntKind.u64.wrap 0=0:=rfl
 by_cases hu:w.used=true
 ·by_cases ht:w.top<c
  ·simp[F.bA,aj,aF,wP,hu,ht,av]
   refine al.plain [] ?_
   simp[H9,hu,ht]
  ·simp[F.bA,aj,aF,wP,hu,ht,av,h1,h2,h3,w0]
   refine⟨h0,?_⟩
   refine al.plain [] ?_
   simp[H9,hu,ht]
   rfl
 ·simp[F.bA,aj,aF,wP,hu,av]
  refine al.plain [] ?_
  simp[H9,hu]
def qk (w:sF) (c:Int):sF×Bool:=
 if H9 w c=true then
  let v:sF:=if w.used=true then w else⟨true,c,0,0,0,0⟩
  (⟨true,max v.top c,bits .or .u64 v.w0 (IntKind.u64.wrap (2^min c.toNat 64)),v.w1,v.w2,v.w3⟩,true)
 else(w,false)
theorem aZ {w:sF} {c:Int} (h:Yr w c):bg Pg I.aZ [wP w,.int .u64 c] (.tup [wP (qk w c).1,.bl (qk w c).2]):=by
 refine ai.intro T.aZ (by simp[F.aZ]) ?_
 have h0:=h.c0
 have h1:=q64 h.c0 h.c8
 have h2:=r64 h.c0 h.c8
 have h3:=q64 h.t0 h.t8
 have w0:IntKind.u64.wrap 0=0:=rfl
 have hc:=bA h
 cases hk:H9 w c with
 |
  false=>
  rw[hk]at hc
  simp[F.aZ,aj,aF,wP]
  refine an.ret hc (by simp[wP]) (by simp) (by simp) ?_
  simp
  refine al.plain [] ?_
  simp[qk,hk]
 |
  true=>
  rw[hk]at hc
  have hp:∀x:Int,bits .or .u64 0 x=bits .or .u64 0 x:=λ_=>rfl
  by_cases hu:w.used=true
  ·by_cases ht:w.top<c
   ·have hm:max w.top c=c:=by omega
    simp[F.aZ,aj,aF,wP,hu]
    refine an.ret hc (by simp[wP,hu]) (by simp) (by simp) ?_
    simp[ht]
    refine fb.fG 0 (λ_=>True) [1,2,4,5,6] (λi=>[]) (λi=>[]) [.keep [1,2,4,5,6]] ?_
    simp
    intro K
    simp[↓ah,↓ah,↓ah,h1,h2,h3,w0,av,h0,(by omega:min (0:Int) 4=0)]
    refine al.plain [] ?_
    simp[qk,hk,hu,hm]
    rfl
   ·have hm:max w.top c=w.top:=by omega
    simp[F.aZ,aj,aF,wP,hu]
    refine an.ret hc (by simp[wP,hu]) (by simp) (by simp) ?_
    simp[ht,↓ah,h1,h2,h3,w0,av,h0]
    refine al.plain [] ?_
    simp[qk,hk,hu,hm]
    rfl
  ·simp[F.aZ,aj,aF,wP,hu]
   refine an.ret hc (by simp[wP,hu]) (by simp) (by simp) ?_
   simp[↓ah,h1,h2,h3,w0,av,h0,fC,List.replicate]
   refine al.plain [] ?_
   simp[qk,hk,hu]
   rfl
theorem OO {w:sF} {c:Int} (h:Yr w c):(qk w c).1.used=w.used∧(qk w c).1=w∨(qk w c).1.used=true:=by
 unfold qk;split
 ·right;rfl
 ·left;exact⟨rfl,rfl⟩
theorem Dj {w:sF} {c:Int} (h:Yr w c):0≤(qk w c).1.top∧(qk w c).1.top<8:=by
 obtain⟨a1,a2,a3,a4⟩:=h
 unfold qk;split
 ·by_cases hu:w.used=true<;>simp[hu]<;>omega
 ·exact⟨a1,a2⟩
end Go.Ab
end E7s
noncomputable section E8s
namespace Go.Ab
open Go.Ab
def Kt:FV nR:=⟨.ar 1 32 (zr 32 (.int .u8 0)),by rw[fC];rfl⟩
def Dk:FV H3:=⟨.st 6 [.bl false,.int .u64 0,.ar 1 4 (zr 4 (.int .u64 0))],by rw[fC];rfl⟩
def Uj:lq:=⟨0,0,Kt,Kt,0,0,Dk,0,false⟩
def ql:rl:=⟨false,Uj⟩
theorem BG:iD ql=(.st 77 [(.bl false),(.st 76 [(.int .u32 0),(.int .u32 0),(.ar 1 32 (zr 32 (.int .u8 0))),(.ar 1 32 (zr 32 (.int .u8 0))),(.int .u64 0),(.int .u64 0),(.st 6 [(.bl false),(.int .u64 0),(.ar 1 4 (zr 4 (.int .u64 0)))]),(.int .i64 0),(.bl false)])]):=by first|rfl|(rw[fC];rfl)
def rU (l:List rl):List Int:=(l.filter (λp=>p.has)).map (λp=>p.pk.loc)
theorem Dl {l:List rl} {i:Nat} (h:i<l.length):rU (l.take (i+1))=rU (l.take i)++(if l[i].has=true then [l[i].pk.loc]else []):=by
 unfold rU;rw[qK _ h];by_cases hk:l[i].has=true<;>simp[hk]
theorem sG (l:List rl):(rU l).length≤l.length:=by
 unfold rU;rw[List.length_map];exact List.length_filter_le _ _
theorem bR {l:List rl} (h:l.length≤8) (b:Bool):bg Pg I.bR [.sl 77 (l.map iD) b] (jE (rU l)):=by
 refine ai.intro T.bR (by simp[F.bR]) ?_
 simp[F.bR,aj,aF,jE]
 refine fb.fG l.length (λ_=>True) [2,3,6,7,8] (λi=>[(3,.rs 3 [] 0 (rU (l.take i)).length (rU (l.take i)).length 1 .tip),(8,.int .i64 i)]) (λi=>[(3,.arr 1 ((rU (l.take i)).map (λn:Int=>PV.int .u32 n)))]) [.vt 3 3 1] ?_
 simp[show rU []=[] from rfl]
 refine⟨λi hi K hK=> ?_,λK=> ?_⟩
 ·have hx:l[i]? =some l[i]:=gJ hi
  have hlen:=sG (l.take i)
  have G9:(l.take i).length≤i:=by rw[lJ];omega
  rw[Dl hi]at hK
  generalize rU (l.take i)=out at*
  by_cases h1:l[i].has=true
  ·simp[↓ah,hx,hi,h1,cu hi (by omega)]
   refine⟨⟨by omega,by omega⟩,[.keep [2,3,6,7,8],.dr 5],?_⟩
   simp[eI,fE,ae,af]
   exact hK _ (by simp[h1])
  ·simp[↓ah,hx,hi,h1,cu hi (by omega)]
   refine⟨[.keep [2,3,6,7,8],.dr 5],?_⟩
   simp[eI,fE,ae,af]
   exact hK _ (by simp[h1])
 ·simp[↓ah,↓ah]
  refine al.plain [.keep [2],.fz 3,.wk 2] ?_
  simp
def OP (p:rl):rl:=if p.has=true then p else ql
theorem de (p:rl):bg Pg I.de [iD p] (iD (OP p)):=by
 refine ai.intro T.de (by simp[F.de]) ?_
 by_cases h:p.has=true
 ·simp[F.de,aj,aF,h]
  refine al.plain [] ?_
  simp[OP,h]
 ·simp[F.de,aj,aF,h]
  refine al.plain [] ?_
  simp[OP,h,BG]
theorem cy (r:nO):bg Pg I.cy [gi r] (jE (rU [r.p,r.c,r.n])):=by
 refine ai.intro T.cy (by simp[F.cy]) ?_
 simp[F.cy,aj,aF]
 refine an.ret (bR (l:=[r.p,r.c,r.n]) (by simp) false) (by simp) (by simp) (by simp) ?_
 simp
 refine al.plain [] ?_
 simp
def sH (r:nO) (s:lq):nO:=if r.n.has=true then⟨r.n,⟨true,s⟩,ql⟩else⟨OP r.c,⟨true,s⟩,ql⟩
def pP (r:nO):List Int:=if r.n.has=true then rU [r.p,r.c]else rU [r.p]
theorem dE (r:nO) (s:lq):bg Pg I.dE [gi r,gH s] (.tup [gi (sH r s),jE (pP r)]):=by
 refine ai.intro T.dE (by simp[F.dE]) ?_
 by_cases h:r.n.has=true
 ·simp[F.dE,aj,aF,h]
  refine aU.ret (bR (l:=[r.p,r.c]) (by simp) false) (by simp) (by simp) (by simp) ?_
  simp
  refine al.plain [] ?_
  simp[sH,pP,h,gi,iD]
  exact⟨rfl,rfl⟩
 ·simp[F.dE,aj,aF,h]
  refine aU.ret (de r.c) (by simp) (by simp) (by simp) ?_
  simp
  refine aU.ret (bR (l:=[r.p]) (by simp) false) (by simp) (by simp) (by simp) ?_
  simp
  refine al.plain [] ?_
  simp[sH,pP,h,gi,iD]
  exact⟨rfl,rfl⟩
def Ku (r:nO) (s:lq):nO:=⟨ql,r.c,⟨true,s⟩⟩
def Dm (r:nO):List Int:=rU [r.p,r.n]
theorem dH (r:nO) (s:lq):bg Pg I.dH [gi r,gH s] (.tup [gi (Ku r s),jE (Dm r)]):=by
 refine ai.intro T.dH (by simp[F.dH]) ?_
 simp[F.dH,aj,aF]
 refine aU.ret (bR (l:=[r.p,r.n]) (by simp) false) (by simp) (by simp) (by simp) ?_
 simp
 refine al.plain [] ?_
 simp[Ku,Dm,gi,iD]
 exact⟨rfl,rfl⟩
theorem eo (loc rem:Int) (a b:FV nR) (born:Int) (QQ:Bool) (gB:Int):bg Pg I.eo [.int .u32 loc,.int .u32 rem,a.p,b.p,.int .i64 born,.bl QQ,.int .u64 gB] (gH ⟨loc,rem,a,b,0,gB,Dk,born,QQ⟩):=by
 refine ai.intro T.eo (by simp[F.eo]) ?_
 simp[F.eo,aj,aF]
 refine al.plain [] ?_
 simp[gH,Dk]
end Go.Ab
end E8s
noncomputable section E9s
namespace Go.Ab
open Go.Ab
theorem jx {n a b:Int} (h1:a≤n) (h2:n≤b):bg Pg I.aP [.int .i64 n,.int .i64 a,.int .i64 b] (.bl true):=by
 refine ai.intro T.aP (by simp[F.aP]) ?_
 simp[F.aP,aj,aF,h1,h2]
 refine al.plain [] ?_
 simp
theorem E2 {d:cK} {t:Int} (h1:0≤t) (h2:t≤d.now):bg Pg I.bO [bE d,.int .i64 t] (.bl true):=by
 refine ai.intro T.bO (by simp[F.bO]) ?_
 simp[F.bO,aj,aF]
 refine an.ret (jx h1 h2) (by simp) (by simp) (by simp) ?_
 simp
 refine al.plain [] ?_
 simp
theorem BH {r:vS} (h:vT r):bg Pg I.bj [fa r] (.bl true):=by
 refine ai.intro T.bj (by simp[F.bj]) ?_
 obtain⟨h1,h2,h3,h4,h5,h6,h7,h8,h9,Ci,Ee,FM,YR,YS,YT,h16,h17⟩:=h
 have n1:¬r.wF<1:=by omega
 have n2:¬r.mj<r.wF:=by omega
 have n3:¬(18446744073709543423:Int)<r.mj:=by omega
 have w1:IntKind.i64.wrap (r.Ap+r.ret)=r.Ap+r.ret:=wrap_i64 (by omega)
 have w2:IntKind.i64.wrap (20*r.ret)=20*r.ret:=wrap_i64 (by omega)
 have n4:r.Ap+r.ret<r.lr:=by omega
 simp[F.bj,aj,aF,n1,n2,n3]
 refine an.ret (jx (n:=r.ret) (a:=1000) (b:=1073741824) (by omega) (by omega)) (by simp) (by simp) (by simp) ?_
 simp
 refine an.ret (jx (n:=r.Ap) (a:=1000) (b:=1073741824) (by omega) (by omega)) (by simp) (by simp) (by simp) ?_
 simp
 refine an.ret (jx (n:=r.TK) (a:=1) (b:=1073741824) (by omega) (by omega)) (by simp) (by simp) (by simp) ?_
 simp
 refine an.ret (jx (n:=r.vf) (a:=1) (b:=1073741824) (by omega) (by omega)) (by simp) (by simp) (by simp) ?_
 simp
 refine an.ret (jx (n:=r.lr) (a:=1) (b:=1073741824) (by omega) (by omega)) (by simp) (by simp) (by simp) ?_
 simp[Ci,w1,n4,w2]
 refine an.ret (jx (n:=r.Q6) (a:=r.ret) (b:=20*r.ret) (by omega) (by omega)) (by simp) (by simp) (by simp) ?_
 simp
 refine an.ret (jx (n:=r.load) (a:=1) (b:=64) (by omega) (by omega)) (by simp) (by simp) (by simp) ?_
 simp
 refine an.ret (jx (n:=r.gC) (a:=1) (b:=8) (by omega) (by omega)) (by simp) (by simp) (by simp) ?_
 simp
 refine al.plain [] ?_
 simp
def Dn (v:FV H3):Prop:=v=Dk∨∃w:sF,w.used=true∧(0≤w.top∧w.top<8)∧v=tV w
structure tW (d:cK) (s:lq):Prop where
 b0:0≤s.born
 b1:s.born≤d.now
 fe:s.gB=d.rules.mj
 n0:0≤s.next
 n1:s.next≤18446744073709543423
 wi:Dn s.wO
theorem Gt {d:cK} {s:lq} (h:tW d s):bg Pg I.cU [bE d,gH s] (.bl true):=by
 refine ai.intro T.cU (by simp[F.cU]) ?_
 have h1:=h.fe
 have h2:=h.n1
 simp[F.cU,aj,aF]
 refine an.ret (E2 (d:=d) h.b0 h.b1) (by simp) (by simp) (by simp) ?_
 rcases h.wi with hw|⟨w,hu,_,hw⟩
 ·simp[h1,h2,hw,Dk,av]
  refine⟨by rw[fC];rfl,?_⟩
  refine al.plain [] ?_
  simp
  rw[fC];rfl
 ·simp[h1,h2,hw,tV,wP,av,hu]
  refine al.plain [] ?_
  simp
def tX:Nat->Nat->List UInt8
 |0,n=>[UInt8.ofNat (48+n)]
 |f+1,n=>if n<10 then [UInt8.ofNat (48+n)]else tX f (n/10)++[UInt8.ofNat (48+n%10)]
theorem mr:∀f n,1≤(tX f n).length∧(tX f n).length≤f+1
 |0,n=>by simp[tX]
 |
  f+1,n=>by
  have:=mr f (n/10)
  simp only[tX];split<;>simp<;>omega
theorem abG {n:Nat} (h:n<256):u8 (UInt8.ofNat n)= .int .u8 n:=by
 simp only[u8];congr 1;simp[UInt8.toNat_ofNat];omega
theorem Uk {x:Int} {n:Nat} (e:x=n) (h:n<256):ij [.int .u8 x]=some [UInt8.ofNat n]:=by
 subst e;rw[←abG h];exact qC [UInt8.ofNat n]
theorem xb:∀(f n:Nat),f≤100->n<10^(f+1)->n<1000000->bg Pg I.cA [.int .i64 n] (.str (tX f n)):=by
 intro f
 induction f with
 |
  zero=>
  intro n hf h h'
  have hn:(n:Int)<10:=by simp at h;omega
  refine ai.intro T.cA (by simp[F.cA]) ?_
  have w1:IntKind.i64.wrap (48+(n:Int))=48+(n:Int):=wrap_i64 (by omega)
  have w2:IntKind.u8.wrap (48+(n:Int))=48+(n:Int):=wrap_u8 (by omega)
  simp[F.cA,aj,aF,hn,w1,w2,Uk (x:=48+(n:Int)) (n:=48+n) (by omega) (by omega)]
  refine al.plain [] ?_
  simp[tX]
 |
  succ f ih=>
  intro n hf h h'
  refine ai.intro T.cA (by simp[F.cA]) ?_
  by_cases hn:(n:Int)<10
  ·have w1:IntKind.i64.wrap (48+(n:Int))=48+(n:Int):=wrap_i64 (by omega)
   have w2:IntKind.u8.wrap (48+(n:Int))=48+(n:Int):=wrap_u8 (by omega)
   simp[F.cA,aj,aF,hn,w1,w2,Uk (x:=48+(n:Int)) (n:=48+n) (by omega) (by omega)]
   refine al.plain [] ?_
   have DR:n<10:=by omega
   simp[tX,DR]
  ·have hl:=mr f (n/10)
   obtain⟨q,hq⟩:∃q,q=n/10:=⟨_,rfl⟩
   obtain⟨t,ht⟩:∃t,t=n%10:=⟨_,rfl⟩
   have hd:IntKind.i64.wrap ((n:Int).tdiv 10)=(q:Int):=by
    rw[show(10:Int)=((10:Nat):Int) from rfl,←Int.ofNat_tdiv,hq];exact wrap_i64 (by omega)
   have PD:IntKind.i64.wrap ((n:Int)/10)=(q:Int):=by
    rw[show(n:Int)/10=((n/10:Nat):Int) by omega,hq];exact wrap_i64 (by omega)
   have hm:(n:Int).tmod 10=(t:Int):=by
    rw[show(10:Int)=((10:Nat):Int) from rfl,←Int.ofNat_tmod,ht]
   have w1:IntKind.i64.wrap (48+(t:Int))=48+(t:Int):=wrap_i64 (by omega)
   have w2:IntKind.u8.wrap (48+(t:Int))=48+(t:Int):=wrap_u8 (by omega)
   have hi:=ih q (by omega) (by rw[Nat.pow_succ]at h;omega) (by omega)
   simp[F.cA,aj,aF,hn,hd,PD]
   refine aU.ret hi (by simp) (by simp) (by simp) ?_
   rw[←hq]at hl
   simp[hm,w1,w2,Uk (x:=48+(t:Int)) (n:=48+t) (by omega) (by omega)]
   refine⟨by omega,?_⟩
   refine al.plain [] ?_
   have DR:¬n<10:=by omega
   simp[tX,DR,←hq,←ht]
theorem Gu {n:Int} (h:n=0∨1000≤n∧n≤1073741824):bg Pg I.b9 [.int .i64 n] (.bl true):=by
 refine ai.intro T.b9 (by simp[F.b9]) ?_
 rcases h with h|⟨h1,h2⟩
 ·simp[F.b9,aj,aF,h]
  refine al.plain [] ?_
  simp
 ·have h0:¬n=0:=by omega
  simp[F.b9,aj,aF,h0,h1,h2]
  refine al.plain [] ?_
  simp
@[simp↓] theorem Ys (a b:List UInt8) (K:PV->Prop):uA .geq a b K=K (.bl (!Op.bytesLess a b)):=_root_.id rfl
def qm (a:im) (n:Nat):List UInt8:=((a.ip.take n).map (λb=>[46]++tX 2 b.toNat)).flatten
theorem rz (a:im):∀n,(qm a n).length≤4*n:=by
 intro n
 unfold qm
 generalize a.ip=l
 induction l generalizing n with
 |nil=>simp
 |
  cons x l ih=>
  cases n with
  |zero=>simp
  |
   succ n=>
   have:=ih n
   have h2:=mr 2 x.toNat
   simp at this⊢
   omega
theorem Au (a:im) {n:Nat} {b:UInt8} (h:a.ip[n]? =some b):qm a (n+1)=qm a n++([46]++tX 2 b.toNat):=by
 unfold qm
 rw[List.take_add_one,h];simp
theorem tY (a:im):2≤(qm a 4).length:=by
 have h:=a.h
 obtain⟨x,l,e⟩:∃x l,a.ip=x::l:=by
  cases hx:a.ip with
  |nil=>rw[hx]at h;simp at h
  |cons x l=>exact⟨x,l,rfl⟩
 unfold qm
 rw[e]
 have h2:=mr 2 x.toNat
 simp
 omega
theorem E3 {a:im} (h:rT a 4) (h6:a.jJ=false):bg Pg I.cq [dN a] (.str ((qm a 4).drop 1)):=by
 refine ai.intro T.cq (by simp[F.cq]) ?_
 simp[F.cq,aj,aF]
 refine an.ret (bT h) (by simp) (by simp) (by simp) ?_
 simp[h6]
 refine fb.fG 4 (λ_=>True) [1,2,3,4] (λi=>[(3,.str (qm a i)),(4,.int .i64 i)]) (λi=>[]) [.keep [1,2,3,4]] ?_
 simp[show qm a 0=[] from rfl]
 refine⟨λi hi K hK=> ?_,λK=> ?_⟩
 ·have eS:i<a.ip.length:=by rw[a.h];omega
  have hx:a.ip[i]? =some a.ip[i]:=gJ eS
  have hb:=(a.ip[i]).toNat_lt
  have hw:IntKind.i64.wrap ((a.ip[i]).toNat:Int)=((a.ip[i]).toNat:Int):=wrap_i64 (by omega)
  have MO:(i:Int)<4:=by omega
  have hl:=rz a i
  have MY:=mr 2 (a.ip[i]).toNat
  rw[Au a hx]at hK
  have Mh:(i:Int)<16:=by omega
  simp[↓ah,hi,MO,Mh,hx,u8,hw,cu hi (by omega)]
  refine an.ret (xb 2 (a.ip[i]).toNat (by omega) (by omega) (by omega)) (by simp) (by simp) (by simp) ?_
  simp[hw,cu hi (by omega)]
  refine⟨by omega,by omega,[.keep [1,2,3,4]],?_⟩
  simp
  exact hK _ (by simp)
 ·have hl:=rz a 4
  have hp:=tY a
  simp[↓ah,↓ah]
  refine⟨by omega,?_⟩
  refine al.plain [] ?_
  simp
theorem Ul (i:Nat):rT (sE i).addr 4:=by
 intro j h1 h2
 simp only[sE]
 rcases(by omega:j=4∨j=5∨j=6∨j=7∨j=8∨j=9∨j=10∨j=11∨j=12∨j=13∨j=14∨j=15)with rfl|rfl|rfl|rfl|rfl|rfl|rfl|rfl|rfl|rfl|rfl|rfl<;>rfl
def OQ (i:Nat):List UInt8:=(qm (sE i).addr 4).drop 1++[58]++tX 3 (1000+i)
theorem Kv (i:Nat):OQ i≠[]:=by simp[OQ]
theorem yB {i:Nat} (h:i<3):bg Pg I.aA [gZ (sE i)] (.str (OQ i)):=by
 refine ai.intro T.aA (by simp[F.aA]) ?_
 have hf:=E3 (Ul i) rfl
 have hl:=rz (sE i).addr 4
 have hp:=tY (sE i).addr
 have hd:=mr 3 (1000+i)
 have he:OQ i=(qm (sE i).addr 4).drop 1++[58]++tX 3 (1000+i):=rfl
 rw[he]
 obtain⟨m,hm⟩:∃m,(qm (sE i).addr 4).drop 1=m:=⟨_,rfl⟩
 have mD:m.length=(qm (sE i).addr 4).length-1:=by rw[←hm,List.length_drop]
 rw[hm]at hf⊢
 have hn:m≠[]:=by intro e;rw[e]at mD;simp at mD;omega
 have p1:(sE i).port=1000+(i:Int):=rfl
 have p2:¬(1000+(i:Int))<1:=by omega
 have p3:¬(65535:Int)<1000+(i:Int):=by omega
 have p4:(sE i).addr.jJ=false:=rfl
 have hdc:=xb 3 (1000+i) (by omega) (by omega) (by omega)
 rw[show((1000+i:Nat):Int)=1000+(i:Int) by omega]at hdc
 simp[F.aA,aj,aF]
 refine an.ret hf (by simp) (by simp) (by simp) ?_
 simp[hn,p1,p2,p3,p4]
 refine⟨by omega,?_⟩
 refine an.ret hdc (by simp) (by simp) (by simp) ?_
 simp
 refine⟨by omega,?_⟩
 refine al.plain [] ?_
 simp
end Go.Ab
end E9s
