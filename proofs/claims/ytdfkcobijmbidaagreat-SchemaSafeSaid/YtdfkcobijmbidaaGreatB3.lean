/- Codes, keys, prefixes, indices, rings of the reference. No condition. -/
import Derived.Test.YtdfkcobijmbidaaGreatB2
import Derived.Laws.BitsAllLaws
set_option maxRecDepth 10000
set_option maxHeartbeats 1000000
set_option linter.all false
noncomputable section E3s
namespace Go.Ab
open Go.Ab
theorem IJ:∀l m:List UInt8,PV.nZ (l.map u8) (m.map u8)=decide (l=m)
 |[],[]=>by simp[PV.nZ]
 |[],_::_=>by simp[PV.nZ]
 |_::_,[]=>by simp[PV.nZ]
 |
  a::l,b::m=>by
  have ih:=IJ l m
  simp only[List.map_cons,PV.nZ,ih,u8,PV.beq]
  by_cases h:a=b
  ·subst h;simp
  ·have:¬(a.toNat=b.toNat):=λe=>h (UInt8.toNat_inj.1 e)
   simp[h]
   intro e;exact absurd (by omega) this
theorem Key.ext' {a b:Key} (h:a.l=b.l):a=b:=by cases a;cases b;simp_all
instance:DecidableEq Key:=λa b=>if h:a.l=b.l then isTrue (Key.ext' h)else isFalse (λe=>h (by rw[e]))
theorem xt (a b:Key):PV.beq (ey a) (ey b)=decide (a=b):=by
 have:(a=b)↔a.l=b.l:=⟨λe=>by rw[e],Key.ext'⟩
 simp[ey,PV.beq,IJ,this]
def RL (a b:Key):Bool:=Op.bytesLess a.l b.l
def iI (a b:fS):Bool:=if a.at_≠b.at_ then decide (a.at_<b.at_)else if a.peer≠b.peer then RL a.peer b.peer else decide (a.kind<b.kind)
theorem bm (a b:fS):bI Pg I.bm [bY a,bY b] (.bl (iI a b)):=by
 refine ah.intro T.bm (by simp[F.bm]) ?_
 by_cases h1:a.at_=b.at_
 ·by_cases h2:a.peer=b.peer
  ·simp[F.bm,au,aG,h1,h2]
   refine aL.plain [] ?_
   simp[iI,h1,h2]
  ·simp[F.bm,au,aG,h1,h2,xt]
   have ta:(a.peer.l.map u8).take 32=a.peer.l.map u8:=tJ (by simp[a.peer.h])
   have tb:(b.peer.l.map u8).take 32=b.peer.l.map u8:=tJ (by simp[b.peer.h])
   simp[ey,ta,tb]
   refine aL.plain [] ?_
   simp[iI,RL,h1,h2]
 ·simp[F.bm,au,aG,h1]
  refine aL.plain [] ?_
  simp[iI,h1]
def rG (k:Key) (n:Int) (x:fS):Bool:= !(decide (x.peer=k)&&decide (x.kind=n))
def dv (l:List fS) (k:Key) (n:Int):List fS:=l.filter (rG k n)
theorem kg {α:Type} (p:α->Bool) {l:List α} {i:Nat} (h:i<l.length):(l.take (i+1)).filter p=(l.take i).filter p++(if p l[i]=true then [l[i]]else []):=by
 rw[List.take_succ_eq_append_getElem h,List.filter_append]
 congr 1
 by_cases hk:p l[i]=true<;>simp[hk]
theorem rH {α:Type} (p:α->Bool) (l:List α) (i:Nat):((l.take i).filter p).length≤i:=by
 have:=List.length_filter_le p (l.take i)
 rw[lJ]at this;omega
theorem cC {l:List fS} (h:l.length≤1048576) (k:Key) (n:Int):bI Pg I.cC [dA l,ey k,.int .i64 n] (dA (dv l k n)):=by
 refine ah.intro T.cC (by simp[F.cC]) ?_
 simp[F.cC,au,aG,dA]
 refine jx.kl l.length (λ_=>True) [2,4,6,7,10,11,12] (λi=>[(7,.rs 7 [] 0 ((l.take i).filter (rG k n)).length ((l.take i).filter (rG k n)).length 34 .tip),(12,.int .i64 i)]) (λi=>[(7,.arr 34 (((l.take i).filter (rG k n)).map bY))]) [.vt 7 7 34] ?_
 simp
 refine⟨λi hi K hK=> ?_,λK=> ?_⟩
 ·have hx:l[i]? =some l[i]:=gJ hi
  have hlen:=rH (rG k n) l i
  rw[kg _ hi]at hK
  generalize (l.take i).filter (rG k n)=out at*
  by_cases h1:l[i].peer=k
  ·by_cases h2:l[i].kind=n
   ·simp[↓aA,hi,h1,h2,fV hi h]
    refine⟨[.keep [2,4,6,7,10,11,12],.dr 9],?_⟩
    simp[bL,cL,ab,af]
    exact hK _ (by simp[rG,h1,h2])
   ·simp[↓aA,hi,h1,h2,fV hi h]
    refine⟨⟨by omega,by omega⟩,[.keep [2,4,6,7,10,11,12],.dr 9],?_⟩
    simp[bL,cL,ab,af]
    exact hK _ (by simp[rG,h1,h2])
  ·simp[↓aA,hi,h1,xt,fV hi h]
   refine⟨⟨by omega,by omega⟩,[.keep [2,4,6,7,10,11,12],.dr 9],?_⟩
   simp[bL,cL,ab,af]
   exact hK _ (by simp[rG,h1])
 ·simp[↓aA,↓aA]
  refine aL.plain [.keep [6],.fz 7,.wk 6] ?_
  simp[dv]
def iV (t:fS):List fS->Nat
 |[]=>0
 |x::r=>if iI t x=true then 0 else iV t r+1
def lT (l:List fS) (t:fS):List fS:=let r:=dv l t.peer t.kind;r.take (iV t r)++[t]++r.drop (iV t r)
theorem uZ (t:fS):∀l,iV t l≤l.length
 |[]=>Nat.le_refl _
 |x::r=>by simp only[iV];split<;>simp;exact uZ t r
theorem IK (t:fS):∀(l:List fS) (i:Nat) (h:i<l.length),i<iV t l->iI t l[i]=false
 |x::r,0,h,hi=>by simp only[iV]at hi;split at hi<;>simp_all
 |
  x::r,i+1,h,hi=>by
  simp only[iV]at hi
  split at hi
  ·omega
  ·simpa using IK t r i (by simpa using h) (by omega)
theorem IL (t:fS):∀(l:List fS) (h:iV t l<l.length),iI t l[iV t l]=true
 |[],h=>by simp at h
 |
  x::r,h=>by
  simp only[iV]at h⊢
  by_cases hx:iI t x=true
  ·simp[hx]
  ·simp only[hx,fJ,if_false]at h⊢
   simpa using IL t r (by simpa using h)
theorem db {l:List fS} (h:l.length≤1048575) (t:fS):bI Pg I.db [dA l,bY t] (dA (lT l t)):=by
 refine ah.intro T.db (by simp[F.db]) ?_
 simp[F.db,au,aG]
 refine al.ret (cC (l:=l) (by omega) t.peer t.kind) (by simp) (by simp) (by simp) ?_
 have hle:(dv l t.peer t.kind).length≤l.length:=List.length_filter_le _ _
 have hr:lT l t=(dv l t.peer t.kind).take (iV t (dv l t.peer t.kind))++[t]++(dv l t.peer t.kind).drop (iV t (dv l t.peer t.kind)):=rfl
 rw[hr]
 generalize dv l t.peer t.kind=r at*
 have hp:=uZ t r
 simp
 refine jx.kl (iV t r) (λ_=>True) [3,4,5,6] (λi=>[(6,.int .i64 i)]) (λi=>[]) [.keep [3,4,5,6]] ?_
 simp
 refine⟨λi hi K hK=> ?_,λK=> ?_⟩
 ·have hl:i<r.length:=by omega
  have hx:r[i]? =some r[i]:=gJ hl
  have hn:=IK t r i hl hi
  simp[↓aA,hl]
  refine a8.ret (bm t r[i]) (by simp) (by simp) (by simp) ?_
  simp[hn,fV hl (by omega)]
  refine⟨[.keep [3,4,5,6]],?_⟩
  simp
  exact hK _ (by simp)
 ·by_cases hq:iV t r<r.length
  ·have hx:r[iV t r]? =some r[iV t r]:=gJ hq
   have hn:=IL t r hq
   simp[↓aA,hq]
   refine a8.ret (bm t r[iV t r]) (by simp) (by simp) (by simp) ?_
   simp[hn]
   simp[↓aA,dA]
   refine nj.run [33,38] rfl ?_
   simp[hp]
   have Tf:min (1+(r.length-iV t r)) (r.length-iV t r+1)=1+(r.length-iV t r):=by omega
   rw[Tf]
   refine⟨⟨by omega,by omega⟩,⟨by omega,by omega⟩,⟨by omega,by omega⟩,?_⟩
   refine aL.plain [.keep [4],.dr 33,.fz 38,.wk 4] ?_
   have h1:min (iV t r) r.length=iV t r:=by omega
   have h2:r.length-iV t r+1=1+(r.length-iV t r):=by omega
   simp[bL,cL,ab,af,h1,h2,tJ]
  ·simp[↓aA,hq]
   simp[dA]
   refine nj.run [33,38] rfl ?_
   simp[hp]
   have Tf:min (1+(r.length-iV t r)) (r.length-iV t r+1)=1+(r.length-iV t r):=by omega
   rw[Tf]
   refine⟨⟨by omega,by omega⟩,⟨by omega,by omega⟩,⟨by omega,by omega⟩,?_⟩
   refine aL.plain [.keep [4],.dr 33,.fz 38,.wk 4] ?_
   have h1:min (iV t r) r.length=iV t r:=by omega
   have h2:r.length-iV t r+1=1+(r.length-iV t r):=by omega
   simp[bL,cL,ab,af,h1,h2,tJ]
end Go.Ab
end E3s
noncomputable section E4s
namespace Go.Ab
open Go.Ab
theorem Fy {n:Nat} (h:n<2^8):IntKind.u8.wrap (n:Int)=(n:Int):=wrap_u8 (by omega)
def iW (net host:UInt8):sQ:=⟨false,[10,net,0,host,0,0,0,0,0,0,0,0,0,0,0,0],rfl⟩
theorem bR (n h:UInt8):bI Pg I.bR [.int .i64 (n.toNat:Int),.int .i64 (h.toNat:Int)] (jf (iW n h)):=by
 refine ah.intro T.bR (by simp[F.bR]) ?_
 have h1:=n.toNat_lt
 have h2:=h.toNat_lt
 simp[F.bR,au,aG,gC,List.replicate,Fy h1,Fy h2]
 refine aL.plain [] ?_
 simp[jf,iW,u8]
def sR (a:sQ) (k:Nat):Prop:=∀j,k≤j->j<16->a.ip[j]? =some 0
theorem ss (n:UInt8):sR (iW n 0) 2:=by
 intro j h1 h2
 simp only[iW]
 rcases(by omega:j=2∨j=3∨j=4∨j=5∨j=6∨j=7∨j=8∨j=9∨j=10∨j=11∨j=12∨j=13∨j=14∨j=15)with rfl|rfl|rfl|rfl|rfl|rfl|rfl|rfl|rfl|rfl|rfl|rfl|rfl|rfl<;>rfl
theorem sR.mono {a:sQ} {k m:Nat} (h:sR a k) (hk:k≤m):sR a m:=λj h1 h2=>h j (by omega) h2
theorem bW {a:sQ} (h:sR a 4):bI Pg I.bW [jf a] (.bl true):=by
 refine ah.intro T.bW (by simp[F.bW]) ?_
 simp[F.bW,au,aG]
 refine jx.kl 12 (λ_=>True) [1,2,6,7,8] (λi=>[(8,.int .i64 i)]) (λi=>[]) [.keep [1,2,6,7,8]] ?_
 simp
 refine⟨λi hi K hK=> ?_,λK=> ?_⟩
 ·have hx:a.ip[4+i]? =some 0:=h _ (by omega) (by omega)
  have hw:IntKind.i64.wrap ((i:Int)+1)=(i:Int)+1:=wrap_i64 (by omega)
  have lE:(i:Int)<12:=by omega
  simp[↓aA,lE,hx,hw,u8]
  refine⟨[.keep [1,2,6,7,8]],?_⟩
  simp
  exact hK _ (by simp)
 ·simp[↓aA,↓aA]
  refine aL.plain [] ?_
  simp
theorem cY (a:sQ):bI Pg I.cY [jf a] (.int .i64 (if a.O7=true then 128 else 32)):=by
 refine ah.intro T.cY (by simp[F.cY]) ?_
 by_cases h:a.O7=true
 ·simp[F.cY,au,aG,h]
  refine aL.plain [] ?_
  simp
 ·simp[F.cY,au,aG,h]
  refine aL.plain [] ?_
  simp
theorem afs (i:Nat):(i:Int).tmod 8=((i%8:Nat):Int):=by rw[show(8:Int)=((8:Nat):Int) from rfl,←Int.ofNat_tmod]
theorem aa {a:sQ} {k:Nat} (h:sR a k) {i:Nat} (hi:8*k≤i) (vA:i<128):bI Pg I.aa [jf a,.int .i64 (i:Int)] (.int .u8 0):=by
 refine ah.intro T.aa (by simp[F.aa]) ?_
 have hx:a.ip[i/8]? =some 0:=h _ (by omega) (by omega)
 have hw:IntKind.i64.wrap ((i/8:Nat):Int)=((i/8:Nat):Int):=wrap_i64 (by omega)
 have tV:IntKind.i64.wrap (7-((i%8:Nat):Int))=((7-i%8:Nat):Int):=by rw[wrap_i64 (by omega)];omega
 have hd:(i:Int).tdiv 8=((i/8:Nat):Int):=by rw[show(8:Int)=((8:Nat):Int) from rfl,←Int.ofNat_tdiv]
 have hb:bits .and .u8 0 1=0:=rfl
 simp[F.aa,au,aG,hx,afs,hw,tV,hd,hb,u8,-Int.natCast_ediv,-Int.natCast_emod,]
 refine⟨by omega,?_⟩
 refine aL.plain [] ?_
 simp
theorem Km (a:sQ):Dw a (.ar 1 16 (a.ip.map u8))=jf a:=rfl
theorem Nj {α:Type} {l:List α} {i:Nat} {x:α} (h:l[i]? =some x):l.set i x=l:=by
 apply List.ext_getElem?;intro j
 rw[List.getElem?_set]
 split
 ·rename_i e;subst e;split
  ·exact h.symm
  ·rename_i hl;rw[List.getElem?_eq_none (by omega)]
 ·rfl
theorem cD {a:sQ} (h:sR a 2):bI Pg I.cD [jf a,.int .i64 16] (jZ ⟨a,16⟩):=by
 refine ah.intro T.cD (by simp[F.cD]) ?_
 simp[F.cD,au,aG]
 refine jx.kl 112 (λ_=>True) [1,2,4,5] (λi=>[(5,.int .i64 (16+(i:Int)))]) (λi=>[]) [.keep [1,2,4,5]] ?_
 simp
 refine⟨λi hi K hK=> ?_,λK=> ?_⟩
 ·obtain⟨m,hm⟩:∃m,m=(16+i)/8:=⟨_,rfl⟩
  obtain⟨t,ht⟩:∃t,t=(16+i)%8:=⟨_,rfl⟩
  have hx:a.ip[m]? =some 0:=h _ (by omega) (by omega)
  have SQ:(a.ip.map u8)[m]? =some (.int .u8 0):=by simp[hx,u8]
  have hw:IntKind.i64.wrap (16+(i:Int)+1)=16+((i:Int)+1):=by rw[wrap_i64 (by omega)];omega
  have hd:IntKind.i64.wrap ((16+(i:Int)).tdiv 8)=(m:Int):=by
   rw[show(16+(i:Int))=((16+i:Nat):Int) by omega,show(8:Int)=((8:Nat):Int) from rfl,←Int.ofNat_tdiv,hm];exact wrap_i64 (by omega)
  have ht':(16+(i:Int)).tmod 8=(t:Int):=by
   rw[show(16+(i:Int))=((16+i:Nat):Int) by omega,show(8:Int)=((8:Nat):Int) from rfl,←Int.ofNat_tmod,ht]
  have lE:16+(i:Int)<128:=by omega
  have sv:(m:Int)<16:=by omega
  have hb:∀n:Int,bits .andNot .u8 0 n=0:=by
   intro n;simp[bits,BitVec.ofInt]
  simp[↓aA,lE,SQ,hw,hd,ht',sv,hb]
  rw[Nj SQ]
  refine⟨[.keep [1,2,4,5]],?_⟩
  simp[Km]
  exact hK _ (by simp)
 ·simp[↓aA,↓aA]
  refine aL.plain [] ?_
  simp[jZ]
theorem b8 {a:sQ} (h:sR a 2) (h6:a.O7=false):bI Pg I.b8 [jZ ⟨a,16⟩] (.bl true):=by
 refine ah.intro T.b8 (by simp[F.b8]) ?_
 simp[F.b8,au,aG]
 refine a8.ret (bW (h.mono (by omega))) (by simp) (by simp) (by simp) ?_
 simp
 refine a8.ret (cY a) (by simp) (by simp) (by simp) ?_
 simp[h6]
 refine jx.kl 112 (λ_=>True) [1,2,3] (λi=>[(3,.int .i64 (16+(i:Int)))]) (λi=>[]) [.keep [1,2,3]] ?_
 simp
 refine⟨λi hi K hK=> ?_,λK=> ?_⟩
 ·have hw:IntKind.i64.wrap (16+(i:Int)+1)=16+((i:Int)+1):=by rw[wrap_i64 (by omega)];omega
  have lE:16+(i:Int)<128:=by omega
  have hb:=aa h (i:=16+i) (by omega) (by omega)
  rw[show((16+i:Nat):Int)=16+(i:Int) by omega]at hb
  simp[↓aA,lE]
  refine al.ret hb (by simp) (by simp) (by simp) ?_
  simp[hw]
  refine⟨[.keep [1,2,3]],?_⟩
  simp
  exact hK _ (by simp)
 ·simp[↓aA,↓aA]
  refine aL.plain [] ?_
  simp
end Go.Ab
end E4s
noncomputable section E5s
namespace Go.Ab
open Go.Ab
def qH (n:UInt8):K5:=⟨iW n 0,16⟩
theorem Hk {n m:UInt8} (h:n<m):Op.bytesLess (iW n 0).ip (iW m 0).ip=true:=by
 have h':¬m<n:=λe=>absurd (UInt8.lt_iff_toNat_lt.1 e) (by have:=UInt8.lt_iff_toNat_lt.1 h;omega)
 simp[iW,Op.bytesLess,h]
theorem Fz {n m:UInt8} (h:n<m):Op.bytesLess (iW m 0).ip (iW n 0).ip=false:=by
 have h':¬m<n:=λe=>absurd (UInt8.lt_iff_toNat_lt.1 e) (by have:=UInt8.lt_iff_toNat_lt.1 h;omega)
 simp[iW,Op.bytesLess,h']
theorem dR (a b:sQ) (h1:a.O7=false) (h2:b.O7=false):bI Pg I.dR [jf a,jf b] (.bl (Op.bytesLess a.ip b.ip)):=by
 refine ah.intro T.dR (by simp[F.dR]) ?_
 have ta:(a.ip.map u8).take 16=a.ip.map u8:=tJ (by simp[a.h])
 have tb:(b.ip.map u8).take 16=b.ip.map u8:=tJ (by simp[b.h])
 simp[F.dR,au,aG,h1,h2,ta,tb]
 refine aL.plain [] ?_
 simp
theorem Va {n m:UInt8} (h:n≠m):PV.beq (jf (iW n 0)) (jf (iW m 0))=false:=by
 have:¬(n.toNat=m.toNat):=λe=>h (UInt8.toNat_inj.1 e)
 simp[jf,iW,PV.beq,PV.nZ,u8]
 intro e;omega
theorem cE {n m:UInt8} (h:n≠m):bI Pg I.cE [jZ (qH n),jZ (qH m)] (.bl (Op.bytesLess (iW n 0).ip (iW m 0).ip)):=by
 refine ah.intro T.cE (by simp[F.cE]) ?_
 simp[F.cE,au,aG,qH,Va h]
 refine al.ret (dR (iW n 0) (iW m 0) rfl rfl) (by simp) (by simp) (by simp) ?_
 simp
 refine aL.plain [] ?_
 simp
theorem aft {n m:UInt8} (h:n≠m):PV.beq (jZ (qH n)) (jZ (qH m))=false:=by
 simp[jZ,qH,PV.beq,PV.nZ,Va h]
theorem br {l:List vD} {n:UInt8} (h:∀r∈l,∃m,m<n∧r.K6=qH m) (hl:l.length<16) (k:Key):bI Pg I.br [eE l,jZ (qH n),ey k] (.tup [eE (l++[⟨qH n,k⟩]),.int .i64 0]):=by
 refine ah.intro T.br (by simp[F.br]) ?_
 simp[F.br,au,aG]
 refine al.ret (b8 (ss n) rfl) (by simp[qH]) (by simp) (by simp) ?_
 simp(disch:=omega) [eE]
 refine⟨⟨by omega,by omega⟩,?_⟩
 refine jx.kl l.length (λ_=>True) [0,4,5,6,7,8,17,18] (λi=>[(18,.int .i64 i)]) (λi=>[]) [.keep [0,4,5,6,7,8,17,18]] ?_
 simp
 refine⟨λi hi K hK=> ?_,λK=> ?_⟩
 ·have hx:l[i]? =some l[i]:=gJ hi
  obtain⟨m,hm,he⟩:=h _ (List.getElem_mem hi)
  have hb:(jZ (qH m)).beq (jZ (qH n))=false:=aft (UInt8.ne_of_lt hm)
  have hw:IntKind.i64.wrap ((i:Int)+1)=(i:Int)+1:=wrap_i64 (by omega)
  simp[↓aA,hi,he,hb,hw]
  refine⟨[.keep [0,4,5,6,7,8,17,18]],?_⟩
  simp
  exact hK _ (by simp)
 ·have rR:¬(16:Int)≤l.length:=by omega
  simp[↓aA,↓aA,rR]
  refine jx.kl l.length (λ_=>True) [0,4,5,6,7,8,10] (λi=>[(10,.int .i64 i)]) (λi=>[]) [.keep [0,4,5,6,7,8,10]] ?_
  simp
  refine⟨λi hi K hK=> ?_,λK=> ?_⟩
  ·have hx:l[i]? =some l[i]:=gJ hi
   obtain⟨m,hm,he⟩:=h _ (List.getElem_mem hi)
   have hw:IntKind.i64.wrap ((i:Int)+1)=(i:Int)+1:=wrap_i64 (by omega)
   have hb:=cE (n:=n) (m:=m) (λe=>UInt8.ne_of_lt hm e.symm)
   rw[Fz hm]at hb
   simp[↓aA,hi,he]
   refine a8.ret hb (by simp) (by simp) (by simp) ?_
   simp[hw]
   refine⟨[.keep [0,4,5,6,7,8,10]],?_⟩
   simp
   exact hK _ (by simp)
  ·simp[↓aA,↓aA]
   refine nj.run [61,66] rfl ?_
   simp
   refine⟨⟨by omega,by omega⟩,?_⟩
   refine aL.plain [.keep [6,7],.dr 61,.dr 15,.fz 66,.wk 6] ?_
   simp[bL,cL,ab,af,lC]
end Go.Ab
end E5s
noncomputable section E6s
namespace Go.Ab
open Go.Ab
def zK:Key:=⟨List.replicate 32 0,rfl⟩
def zSl:ja:=⟨0,zK,false⟩
theorem rI {l:List ja} (hl:l.length≤1048576) {x:Int} (h:∀s∈l,s.index≠x):bI Pg I.bn [dX l,.int .u32 x] (.tup [cI zSl,.bl false]):=by
 refine ah.intro T.bn (by simp[F.bn]) ?_
 simp[F.bn,au,aG]
 refine jx.kl l.length (λ_=>True) [1,4,5,8,9,10] (λi=>[(10,.int .i64 i)]) (λi=>[]) [.keep [1,4,5,8,9,10]] ?_
 simp
 refine⟨λi hi K hK=> ?_,λK=> ?_⟩
 ·have hx:l[i]? =some l[i]:=gJ hi
  have he:=h _ (List.getElem_mem hi)
  simp[↓aA,hi,he,fV hi hl]
  refine⟨[.keep [1,4,5,8,9,10],.dr 7],?_⟩
  simp
  exact hK _ (by simp)
 ·simp[↓aA,↓aA]
  refine aL.plain [] ?_
  simp[cI,zSl,zK,ey,gC,u8]
theorem u0 {l:List ja} (hl:l.length≤1048576) {x:Int} {f:Nat} (hf:f<l.length) (he:l[f].index=x) (h:∀j (hj:j<l.length),j<f->l[j].index≠x):bI Pg I.bn [dX l,.int .u32 x] (.tup [cI l[f],.bl true]):=by
 refine ah.intro T.bn (by simp[F.bn]) ?_
 simp[F.bn,au,aG]
 refine jx.kl f (λ_=>True) [1,4,5,8,9,10] (λi=>[(10,.int .i64 i)]) (λi=>[]) [.keep [1,4,5,8,9,10]] ?_
 simp
 refine⟨λi hi K hK=> ?_,λK=> ?_⟩
 ·have vA:i<l.length:=by omega
  have hx:l[i]? =some l[i]:=gJ vA
  have he:=h i vA hi
  simp[↓aA,vA,he,fV vA hl]
  refine⟨[.keep [1,4,5,8,9,10],.dr 7],?_⟩
  simp
  exact hK _ (by simp)
 ·have hx:l[f]? =some l[f]:=gJ hf
  simp[↓aA,hf,he]
  refine aL.plain [] ?_
  simp
def K7 (x:Int) (s:ja):Bool:=decide (s.index≠x)
theorem FA {l:List ja} (h:l.length≤1048576) (x:Int):bI Pg I.dY [dX l,.int .u32 x] (dX (l.filter (K7 x))):=by
 refine ah.intro T.dY (by simp[F.dY]) ?_
 simp[F.dY,au,aG,dX]
 refine jx.kl l.length (λ_=>True) [1,4,5,8,9,10] (λi=>[(5,.rs 5 [] 0 ((l.take i).filter (K7 x)).length ((l.take i).filter (K7 x)).length 34 .tip),(10,.int .i64 i)]) (λi=>[(5,.arr 34 (((l.take i).filter (K7 x)).map cI))]) [.vt 5 5 34] ?_
 simp
 refine⟨λi hi K hK=> ?_,λK=> ?_⟩
 ·have hx:l[i]? =some l[i]:=gJ hi
  have hlen:=rH (K7 x) l i
  rw[kg _ hi]at hK
  generalize (l.take i).filter (K7 x)=out at*
  by_cases h1:l[i].index=x
  ·simp[↓aA,hi,h1,fV hi h]
   refine⟨[.keep [1,4,5,8,9,10],.dr 7],?_⟩
   simp[bL,cL,ab,af]
   exact hK _ (by simp[K7,h1])
  ·simp[↓aA,hi,h1,fV hi h]
   refine⟨⟨by omega,by omega⟩,[.keep [1,4,5,8,9,10],.dr 7],?_⟩
   simp[bL,cL,ab,af]
   exact hK _ (by simp[K7,h1])
 ·simp[↓aA,↓aA]
  refine aL.plain [.keep [4],.fz 5,.wk 4] ?_
  simp
theorem Nk {d:bU} (hl:d.aj.length≤1048576) {k:Key} {f:Nat} (hf:f<d.aj.length) (he:d.aj[f].gF=k) (h:∀j (hj:j<d.aj.length),j<f->d.aj[j].gF≠k):bI Pg I.cm [gO d,ey k] (.int .i64 f):=by
 refine ah.intro T.cm (by simp[F.cm]) ?_
 simp[F.cm,au,aG]
 refine jx.kl f (λ_=>True) [2,3,4,8,9,10] (λi=>[(10,.int .i64 i)]) (λi=>[]) [.keep [2,3,4,8,9,10]] ?_
 simp
 refine⟨λi hi K hK=> ?_,λK=> ?_⟩
 ·have vA:i<d.aj.length:=by omega
  have hx:d.aj[i]? =some d.aj[i]:=gJ vA
  have he:=h i vA hi
  simp[↓aA,vA,he,xt,fV vA hl]
  refine⟨[.keep [2,3,4,8,9,10],.dr 6],?_⟩
  simp
  exact hK _ (by simp)
 ·have hx:d.aj[f]? =some d.aj[f]:=gJ hf
  simp[↓aA,hf,he]
  refine aL.plain [] ?_
  simp
def nn (i:Nat):Key:=⟨[UInt8.ofNat (40*(i+1)),9,7]++List.replicate 29 0,rfl⟩
theorem dH {i:Nat} (h:i<3):bI Pg I.dH [.int .i64 i] (ey (nn i)):=by
 refine ah.intro T.dH (by simp[F.dH]) ?_
 have hw:IntKind.i64.wrap ((i:Int)+1)=(i:Int)+1:=wrap_i64 (by omega)
 have tV:IntKind.i64.wrap (40*((i:Int)+1))=40*((i:Int)+1):=wrap_i64 (by omega)
 have Zq:IntKind.u8.wrap (40*((i:Int)+1))=40*((i:Int)+1):=wrap_u8 (by omega)
 simp[F.dH,au,aG,gC,List.replicate,hw,tV,Zq]
 refine aL.plain [] ?_
 have h40:(UInt8.ofNat (40*(i+1))).toNat=40*(i+1):=by simp[UInt8.toNat_ofNat];omega
 simp[ey,nn,u8,List.replicate]
 omega
def tB (i:Nat):IF:=⟨⟨false,[192,0,2,UInt8.ofNat (i+1),0,0,0,0,0,0,0,0,0,0,0,0],rfl⟩,1000+i⟩
theorem ft {i:Nat} (h:i<3):bI Pg I.ft [.int .i64 i] (iU (tB i)):=by
 refine ah.intro T.ft (by simp[F.ft]) ?_
 have hw:IntKind.i64.wrap ((i:Int)+1)=(i:Int)+1:=wrap_i64 (by omega)
 have tV:IntKind.i64.wrap (1000+(i:Int))=1000+(i:Int):=wrap_i64 (by omega)
 have Zq:IntKind.u8.wrap ((i:Int)+1)=(i:Int)+1:=wrap_u8 (by omega)
 simp[F.ft,au,aG,gC,List.replicate,hw,tV,Zq]
 refine aL.plain [] ?_
 have h40:(UInt8.ofNat (i+1)).toNat=i+1:=by simp[UInt8.toNat_ofNat];omega
 simp[iU,jf,tB,u8]
 omega
def ir (x:Int):List ja->Nat
 |[]=>0
 |s::r=>if s.index<x then ir x r+1 else 0
def qX (l:List ja) (s:ja):List ja:=l.take (ir s.index l)++[s]++l.drop (ir s.index l)
theorem yD (x:Int):∀l,ir x l≤l.length
 |[]=>Nat.le_refl _
 |s::r=>by simp only[ir];split<;>simp;exact yD x r
theorem Dz (x:Int):∀(l:List ja) (i:Nat) (h:i<l.length),i<ir x l->l[i].index<x
 |s::r,0,h,hi=>by simp only[ir]at hi;split at hi<;>simp_all
 |
  s::r,i+1,h,hi=>by
  simp only[ir]at hi
  split at hi
  ·simpa using Dz x r i (by simpa using h) (by omega)
  ·omega
theorem DA (x:Int):∀(l:List ja) (h:ir x l<l.length),¬l[ir x l].index<x
 |[],h=>by simp at h
 |
  s::r,h=>by
  simp only[ir]at h⊢
  by_cases hx:s.index<x
  ·simp only[hx,if_true]at h⊢
   simpa using DA x r (by simpa using h)
  ·simp[hx]
theorem Take {l:List ja} (hl:l.length<32) {x:Int} (hx1:1≤x) (h:∀s∈l,s.index≠x) (k:Key) (b:Bool):bI Pg I.cP [dX l,.int .u32 x,ey k,.bl b] (.tup [dX (qX l ⟨x,k,b⟩),.int .u32 x,.int .i64 0]):=by
 refine ah.intro T.cP (by simp[F.cP]) ?_
 have rR:¬(32:Int)≤l.length:=by omega
 have hm:max x 1=x:=by omega
 simp[F.cP,au,aG,rR,hm]
 refine jx.kl 0 (λ_=>True) [0,1,2,3,6,8,9,10,11] (λi=>[]) (λi=>[]) [.keep [0,1,2,3,6,8,9,10,11]] ?_
 simp
 intro K
 simp[↓aA]
 refine al.ret (rI (by omega) h) (by simp) (by simp) (by simp) ?_
 simp[↓aA]
 have hp:=yD x l
 have hr:qX l ⟨x,k,b⟩=l.take (ir x l)++[⟨x,k,b⟩]++l.drop (ir x l):=rfl
 refine jx.kl (ir x l) (λ_=>True) [0,3,6,8,9,10,11,14] (λi=>[(14,.int .i64 i)]) (λi=>[]) [.keep [0,3,6,8,9,10,11,14],.dr 12] ?_
 simp
 refine⟨λi hi K hK=> ?_,λK=> ?_⟩
 ·have vA:i<l.length:=by omega
  have hx:l[i]? =some l[i]:=gJ vA
  have he:=Dz x l i vA hi
  simp[↓aA,vA,he,fV vA (by omega)]
  refine⟨[.keep [0,3,6,8,9,10,11,14]],?_⟩
  simp
  exact hK _ (by simp)
 ·by_cases hq:ir x l<l.length
  ·have hx:l[ir x l]? =some l[ir x l]:=gJ hq
   have he:=DA x l hq
   simp[↓aA,↓aA,hq,he,dX,hp]
   refine⟨⟨by omega,by omega⟩,⟨by omega,by omega⟩,⟨by omega,by omega⟩,?_⟩
   refine aL.plain [.keep [8,9,10],.fz 50,.wk 8] ?_
   have h1:min (ir x l) l.length=ir x l:=by omega
   have h2:ir x l+(l.length-ir x l+1)=ir x l+1+(l.length-ir x l):=by omega
   simp[h1,h2,tJ,hr,cI]
  ·simp[↓aA,↓aA,hq,dX,hp]
   refine⟨⟨by omega,by omega⟩,⟨by omega,by omega⟩,⟨by omega,by omega⟩,?_⟩
   refine aL.plain [.keep [8,9,10],.fz 50,.wk 8] ?_
   have h1:min (ir x l) l.length=ir x l:=by omega
   have h2:ir x l+(l.length-ir x l+1)=ir x l+1+(l.length-ir x l):=by omega
   simp[h1,h2,tJ,hr,cI]
def qT (l:List ja):Prop:=(∀(i:Nat) (h:i<l.length),l[i].index≠0)∧∀(i:Nat) (h:i+1<l.length),l[i].index<l[i+1].index
theorem Hl {l:List ja} (hl:l.length≤32) (h:qT l):bI Pg I.dx [dX l] (.bl true):=by
 refine ah.intro T.dx (by simp[F.dx]) ?_
 simp[F.dx,au,aG]
 refine jx.kl l.length (λ_=>True) [0,2,5,6,7] (λi=>[(7,.int .i64 i)]) (λi=>[]) [.keep [0,2,5,6,7]] ?_
 simp
 refine⟨λi hi K hK=> ?_,λK=> ?_⟩
 ·have hx:l[i]? =some l[i]:=gJ hi
  have h0:=h.1 i hi
  by_cases hz:i=0
  ·subst hz
   simp[↓aA,hi,h0]
   refine⟨[.keep [0,2,5,6,7],.dr 4],?_⟩
   simp
   exact hK _ (by simp)
  ·obtain⟨j,A9⟩:∃j,i=j+1:=⟨i-1,by omega⟩
   have hj:j<l.length:=by omega
   have hy:l[j]? =some l[j]:=gJ hj
   have fZ:=h.2 j (by omega)
   have yK:¬l[i].index≤l[j].index:=by subst A9;omega
   have hw:IntKind.i64.wrap ((i:Int)-1)=j:=by rw[wrap_i64 (by omega)];omega
   simp[↓aA,hi,hj,h0,hw,yK,show 0<i by omega,fV hi (by omega)]
   refine⟨[.keep [0,2,5,6,7],.dr 4],?_⟩
   simp
   exact hK _ (by simp)
 ·simp[↓aA,↓aA]
  refine aL.plain [] ?_
  simp
  omega
end Go.Ab
end E6s
noncomputable section E7s
namespace Go.Ab
open Go.Ab
structure oM where
 used:Bool
 top:Int
 w0:Int
 w1:Int
 w2:Int
 w3:Int
def wP (w:oM):PV:= .st 6 [.bl w.used,.int .u64 w.top,.ar 1 4 [.int .u64 w.w0,.int .u64 w.w1,.int .u64 w.w2,.int .u64 w.w3]]
def ot (w:oM):FV uV:=⟨wP w,by simp[wP,fits,kE,qf,tY,kR]⟩
def Kn (w:oM) (c:Int):Bool:= !w.used||decide (w.top<c)||decide (bits .and .u64 (w.w0.fdiv (2^min c.toNat 64)) 1=0)
structure SmW (w:oM) (c:Int):Prop where
 t0:0≤w.top
 t8:w.top<8
 c0:0≤c
 c8:c<8
theorem q64 {c:Int} (h0:0≤c) (h8:c<8):c.tdiv 64=0:=Int.tdiv_eq_zero_of_lt h0 (by omega)
theorem r64 {c:Int} (h0:0≤c) (h8:c<8):c.tmod 64=c:=Int.tmod_eq_of_lt h0 (by omega)
theorem aO {w:oM} {c:Int} (h:SmW w c):bI Pg I.aO [wP w,.int .u64 c] (.bl (Kn w c)):=by
 refine ah.intro T.aO (by simp[F.aO]) ?_
 have h0:=h.c0
 have h1:=q64 h.c0 h.c8
 have h2:=r64 h.c0 h.c8
 have h3:=q64 h.t0 h.t8
 have w0:IntKind.u64.wrap 0=0:=rfl
 by_cases hu:w.used=true
 ·by_cases ht:w.top<c
  ·simp[F.aO,au,aG,wP,hu,ht,av]
   refine aL.plain [] ?_
   simp[Kn,hu,ht]
  ·simp[F.aO,au,aG,wP,hu,ht,av,h1,h2,h3,w0]
   refine⟨h0,?_⟩
   refine aL.plain [] ?_
   simp[Kn,hu,ht]
   rfl
 ·simp[F.aO,au,aG,wP,hu,av]
  refine aL.plain [] ?_
  simp[Kn,hu]
def qY (w:oM) (c:Int):oM×Bool:=
 if Kn w c=true then
  let v:oM:=if w.used=true then w else⟨true,c,0,0,0,0⟩
  (⟨true,max v.top c,bits .or .u64 v.w0 (IntKind.u64.wrap (2^min c.toNat 64)),v.w1,v.w2,v.w3⟩,true)
 else(w,false)
theorem aV {w:oM} {c:Int} (h:SmW w c):bI Pg I.aV [wP w,.int .u64 c] (.tup [wP (qY w c).1,.bl (qY w c).2]):=by
 refine ah.intro T.aV (by simp[F.aV]) ?_
 have h0:=h.c0
 have h1:=q64 h.c0 h.c8
 have h2:=r64 h.c0 h.c8
 have h3:=q64 h.t0 h.t8
 have w0:IntKind.u64.wrap 0=0:=rfl
 have hc:=aO h
 cases hk:Kn w c with
 |
  false=>
  rw[hk]at hc
  simp[F.aV,au,aG,wP]
  refine al.ret hc (by simp[wP]) (by simp) (by simp) ?_
  simp
  refine aL.plain [] ?_
  simp[qY,hk]
 |
  true=>
  rw[hk]at hc
  have hp:∀x:Int,bits .or .u64 0 x=bits .or .u64 0 x:=λ_=>rfl
  by_cases hu:w.used=true
  ·by_cases ht:w.top<c
   ·have hm:max w.top c=c:=by omega
    simp[F.aV,au,aG,wP,hu]
    refine al.ret hc (by simp[wP,hu]) (by simp) (by simp) ?_
    simp[ht]
    refine jx.kl 0 (λ_=>True) [1,2,4,5,6] (λi=>[]) (λi=>[]) [.keep [1,2,4,5,6]] ?_
    simp
    intro K
    simp[↓aA,↓aA,↓aA,h1,h2,h3,w0,av,h0,(by omega:min (0:Int) 4=0)]
    refine aL.plain [] ?_
    simp[qY,hk,hu,hm]
    rfl
   ·have hm:max w.top c=w.top:=by omega
    simp[F.aV,au,aG,wP,hu]
    refine al.ret hc (by simp[wP,hu]) (by simp) (by simp) ?_
    simp[ht,↓aA,h1,h2,w0,av,h0]
    refine aL.plain [] ?_
    simp[qY,hk,hu,hm]
    rfl
  ·simp[F.aV,au,aG,wP,hu]
   refine al.ret hc (by simp[wP,hu]) (by simp) (by simp) ?_
   simp[↓aA,h1,h2,w0,av,h0,gC,List.replicate]
   refine aL.plain [] ?_
   simp[qY,hk,hu]
   rfl
theorem RM {w:oM} {c:Int} (h:SmW w c):(qY w c).1.used=w.used∧(qY w c).1=w∨(qY w c).1.used=true:=by
 unfold qY;split
 ·right;rfl
 ·left;exact⟨rfl,rfl⟩
theorem FB {w:oM} {c:Int} (h:SmW w c):0≤(qY w c).1.top∧(qY w c).1.top<8:=by
 obtain⟨a1,a2,a3,a4⟩:=h
 unfold qY;split
 ·by_cases hu:w.used=true<;>simp[hu]<;>omega
 ·exact⟨a1,a2⟩
end Go.Ab
end E7s
noncomputable section E8s
namespace Go.Ab
open Go.Ab
def IM:FV jJ:=⟨.ar 1 32 (zr 32 (.int .u8 0)),by rw[gC];rfl⟩
def Hm:FV uV:=⟨.st 6 [.bl false,.int .u64 0,.ar 1 4 (zr 4 (.int .u64 0))],by rw[gC];rfl⟩
def afu:jt:=⟨0,0,IM,IM,0,0,Hm,0,false⟩
def pU:oC:=⟨false,afu⟩
theorem X2:iy pU=(.st 77 [(.bl false),(.st 76 [(.int .u32 0),(.int .u32 0),(.ar 1 32 (zr 32 (.int .u8 0))),(.ar 1 32 (zr 32 (.int .u8 0))),(.int .u64 0),(.int .u64 0),(.st 6 [(.bl false),(.int .u64 0),(.ar 1 4 (zr 4 (.int .u64 0)))]),(.int .i64 0),(.bl false)])]):=by first|rfl|(rw[gC];rfl)
def DB (l:List oC):List Int:=(l.filter (λp=>p.has)).map (λp=>p.ju.loc)
theorem Nl {l:List oC} {i:Nat} (h:i<l.length):DB (l.take (i+1))=DB (l.take i)++(if l[i].has=true then [l[i].ju.loc]else []):=by
 unfold DB;rw[kg _ h];by_cases hk:l[i].has=true<;>simp[hk]
theorem Ax (l:List oC):(DB l).length≤l.length:=by
 unfold DB;rw[List.length_map];exact List.length_filter_le _ _
theorem bT {l:List oC} (h:l.length≤8) (b:Bool):bI Pg I.bT [.sl 77 (l.map iy) b] (nI (DB l)):=by
 refine ah.intro T.bT (by simp[F.bT]) ?_
 simp[F.bT,au,aG,nI]
 refine jx.kl l.length (λ_=>True) [2,3,6,7,8] (λi=>[(3,.rs 3 [] 0 (DB (l.take i)).length (DB (l.take i)).length 1 .tip),(8,.int .i64 i)]) (λi=>[(3,.arr 1 ((DB (l.take i)).map (λn:Int=>PV.int .u32 n)))]) [.vt 3 3 1] ?_
 simp[show DB []=[] from rfl]
 refine⟨λi hi K hK=> ?_,λK=> ?_⟩
 ·have hx:l[i]? =some l[i]:=gJ hi
  have hlen:=Ax (l.take i)
  have OC:(l.take i).length≤i:=by rw[lJ];omega
  rw[Nl hi]at hK
  generalize DB (l.take i)=out at*
  by_cases h1:l[i].has=true
  ·simp[↓aA,hi,h1,fV hi (by omega)]
   refine⟨⟨by omega,by omega⟩,[.keep [2,3,6,7,8],.dr 5],?_⟩
   simp[bL,cL,ab,af]
   exact hK _ (by simp[h1])
  ·simp[↓aA,hi,h1,fV hi (by omega)]
   refine⟨[.keep [2,3,6,7,8],.dr 5],?_⟩
   simp[bL,cL,ab,af]
   exact hK _ (by simp[h1])
 ·simp[↓aA,↓aA]
  refine aL.plain [.keep [2],.fz 3,.wk 2] ?_
  simp
def RN (p:oC):oC:=if p.has=true then p else pU
theorem cZ (p:oC):bI Pg I.cZ [iy p] (iy (RN p)):=by
 refine ah.intro T.cZ (by simp[F.cZ]) ?_
 by_cases h:p.has=true
 ·simp[F.cZ,au,aG,h]
  refine aL.plain [] ?_
  simp[RN,h]
 ·simp[F.cZ,au,aG,h]
  refine aL.plain [] ?_
  simp[RN,h,X2]
theorem cQ (r:lB):bI Pg I.cQ [fh r] (nI (DB [r.p,r.c,r.n])):=by
 refine ah.intro T.cQ (by simp[F.cQ]) ?_
 simp[F.cQ,au,aG]
 refine al.ret (bT (l:=[r.p,r.c,r.n]) (by simp) false) (by simp) (by simp) (by simp) ?_
 simp
 refine aL.plain [] ?_
 simp
def tC (r:lB) (s:jt):lB:=if r.n.has=true then⟨r.n,⟨true,s⟩,pU⟩else⟨RN r.c,⟨true,s⟩,pU⟩
def qI (r:lB):List Int:=if r.n.has=true then DB [r.p,r.c]else DB [r.p]
theorem dI (r:lB) (s:jt):bI Pg I.dI [fh r,eX s] (.tup [fh (tC r s),nI (qI r)]):=by
 refine ah.intro T.dI (by simp[F.dI]) ?_
 by_cases h:r.n.has=true
 ·simp[F.dI,au,aG,h]
  refine a8.ret (bT (l:=[r.p,r.c]) (by simp) false) (by simp) (by simp) (by simp) ?_
  simp
  refine aL.plain [] ?_
  simp[tC,qI,h,fh,iy]
  exact⟨rfl,rfl⟩
 ·simp[F.dI,au,aG,h]
  refine a8.ret (cZ r.c) (by simp) (by simp) (by simp) ?_
  simp
  refine a8.ret (bT (l:=[r.p]) (by simp) false) (by simp) (by simp) (by simp) ?_
  simp
  refine aL.plain [] ?_
  simp[tC,qI,h,fh,iy]
  exact⟨rfl,rfl⟩
def Nm (r:lB) (s:jt):lB:=⟨pU,r.c,⟨true,s⟩⟩
def FC (r:lB):List Int:=DB [r.p,r.n]
theorem dc (r:lB) (s:jt):bI Pg I.dc [fh r,eX s] (.tup [fh (Nm r s),nI (FC r)]):=by
 refine ah.intro T.dc (by simp[F.dc]) ?_
 simp[F.dc,au,aG]
 refine a8.ret (bT (l:=[r.p,r.n]) (by simp) false) (by simp) (by simp) (by simp) ?_
 simp
 refine aL.plain [] ?_
 simp[Nm,FC,fh,iy]
 exact⟨rfl,rfl⟩
theorem eB (loc rem:Int) (a b:FV jJ) (born:Int) (M8:Bool) (ij:Int):bI Pg I.eB [.int .u32 loc,.int .u32 rem,a.p,b.p,.int .i64 born,.bl M8,.int .u64 ij] (eX ⟨loc,rem,a,b,0,ij,Hm,born,M8⟩):=by
 refine ah.intro T.eB (by simp[F.eB]) ?_
 simp[F.eB,au,aG]
 refine aL.plain [] ?_
 simp[eX,Hm]
end Go.Ab
end E8s
noncomputable section E9s
namespace Go.Ab
open Go.Ab
theorem jK {n a b:Int} (h1:a≤n) (h2:n≤b):bI Pg I.en [.int .i64 n,.int .i64 a,.int .i64 b] (.bl true):=by
 refine ah.intro T.en (by simp[F.en]) ?_
 simp[F.en,au,aG,h1,h2]
 refine aL.plain [] ?_
 simp
theorem Hn {d:bU} {t:Int} (h1:0≤t) (h2:t≤d.now):bI Pg I.dF [gO d,.int .i64 t] (.bl true):=by
 refine ah.intro T.dF (by simp[F.dF]) ?_
 simp[F.dF,au,aG]
 refine al.ret (jK h1 h2) (by simp) (by simp) (by simp) ?_
 simp
 refine aL.plain [] ?_
 simp
theorem DC {r:yC} (h:xr r):bI Pg I.dz [eP r] (.bl true):=by
 refine ah.intro T.dz (by simp[F.dz]) ?_
 obtain⟨h1,h2,h3,h4,h5,h6,h7,h8,h9,h10,h11,h12,h13,h14,h15,h16,h17⟩:=h
 have n1:¬r.xP<1:=by omega
 have n2:¬r.tz<r.xP:=by omega
 have n3:¬(18446744073709543423:Int)<r.tz:=by omega
 have w1:IntKind.i64.wrap (r.QX+r.ret)=r.QX+r.ret:=wrap_i64 (by omega)
 have w2:IntKind.i64.wrap (20*r.ret)=20*r.ret:=wrap_i64 (by omega)
 have n4:r.QX+r.ret<r.mM:=by omega
 simp[F.dz,au,aG,n1,n2,n3]
 refine al.ret (jK (n:=r.ret) (a:=1000) (b:=1073741824) (by omega) (by omega)) (by simp) (by simp) (by simp) ?_
 simp
 refine al.ret (jK (n:=r.QX) (a:=1000) (b:=1073741824) (by omega) (by omega)) (by simp) (by simp) (by simp) ?_
 simp
 refine al.ret (jK (n:=r.cot) (a:=1) (b:=1073741824) (by omega) (by omega)) (by simp) (by simp) (by simp) ?_
 simp
 refine al.ret (jK (n:=r.M9) (a:=1) (b:=1073741824) (by omega) (by omega)) (by simp) (by simp) (by simp) ?_
 simp
 refine al.ret (jK (n:=r.mM) (a:=1) (b:=1073741824) (by omega) (by omega)) (by simp) (by simp) (by simp) ?_
 simp[h10,w1,n4,w2]
 refine al.ret (jK (n:=r.att) (a:=r.ret) (b:=20*r.ret) (by omega) (by omega)) (by simp) (by simp) (by simp) ?_
 simp
 refine al.ret (jK (n:=r.load) (a:=1) (b:=64) (by omega) (by omega)) (by simp) (by simp) (by simp) ?_
 simp
 refine al.ret (jK (n:=r.oo) (a:=1) (b:=8) (by omega) (by omega)) (by simp) (by simp) (by simp) ?_
 simp
 refine aL.plain [] ?_
 simp
def FD (v:FV uV):Prop:=v=Hm∨∃w:oM,w.used=true∧(0≤w.top∧w.top<8)∧v=ot w
structure u4 (d:bU) (s:jt):Prop where
 b0:0≤s.born
 b1:s.born≤d.now
 fe:s.ij=d.rules.tz
 n0:0≤s.next
 n1:s.next≤18446744073709543423
 wi:FD s.nY
theorem IN {d:bU} {s:jt} (h:u4 d s):bI Pg I.eJ [gO d,eX s] (.bl true):=by
 refine ah.intro T.eJ (by simp[F.eJ]) ?_
 have h1:=h.fe
 have h2:=h.n1
 simp[F.eJ,au,aG]
 refine al.ret (Hn (d:=d) h.b0 h.b1) (by simp) (by simp) (by simp) ?_
 rcases h.wi with hw|⟨w,hu,_,hw⟩
 ·simp[h1,h2,hw,Hm]
  refine⟨by rw[gC];rfl,?_⟩
  refine aL.plain [] ?_
  simp
  rw[gC];rfl
 ·simp[h1,h2,hw,ot,wP,hu]
  refine aL.plain [] ?_
  simp
def wF:Nat->Nat->List UInt8
 |0,n=>[UInt8.ofNat (48+n)]
 |f+1,n=>if n<10 then [UInt8.ofNat (48+n)]else wF f (n/10)++[UInt8.ofNat (48+n%10)]
theorem pV:∀f n,1≤(wF f n).length∧(wF f n).length≤f+1
 |0,n=>by simp[wF]
 |
  f+1,n=>by
  have:=pV f (n/10)
  simp only[wF];split<;>simp<;>omega
theorem aqg {n:Nat} (h:n<256):u8 (UInt8.ofNat n)= .int .u8 n:=by
 simp only[u8];congr 1;simp;omega
theorem X3 {x:Int} {n:Nat} (e:x=n) (h:n<256):iA [.int .u8 x]=some [UInt8.ofNat n]:=by
 subst e;rw[←aqg h];exact xl [UInt8.ofNat n]
theorem IP:∀(f n:Nat),f≤100->n<10^(f+1)->n<1000000->bI Pg I.b9 [.int .i64 n] (.str (wF f n)):=by
 intro f
 induction f with
 |
  zero=>
  intro n hf h h'
  have hn:(n:Int)<10:=by simp at h;omega
  refine ah.intro T.b9 (by simp[F.b9]) ?_
  have w1:IntKind.i64.wrap (48+(n:Int))=48+(n:Int):=wrap_i64 (by omega)
  have w2:IntKind.u8.wrap (48+(n:Int))=48+(n:Int):=wrap_u8 (by omega)
  simp[F.b9,au,aG,hn,w1,w2,X3 (x:=48+(n:Int)) (n:=48+n) (by omega) (by omega)]
  refine aL.plain [] ?_
  simp[wF]
 |
  succ f ih=>
  intro n hf h h'
  refine ah.intro T.b9 (by simp[F.b9]) ?_
  by_cases hn:(n:Int)<10
  ·have w1:IntKind.i64.wrap (48+(n:Int))=48+(n:Int):=wrap_i64 (by omega)
   have w2:IntKind.u8.wrap (48+(n:Int))=48+(n:Int):=wrap_u8 (by omega)
   simp[F.b9,au,aG,hn,w1,w2,X3 (x:=48+(n:Int)) (n:=48+n) (by omega) (by omega)]
   refine aL.plain [] ?_
   have OD:n<10:=by omega
   simp[wF,OD]
  ·have hl:=pV f (n/10)
   obtain⟨q,hq⟩:∃q,q=n/10:=⟨_,rfl⟩
   obtain⟨t,ht⟩:∃t,t=n%10:=⟨_,rfl⟩
   have hd:IntKind.i64.wrap ((n:Int).tdiv 10)=(q:Int):=by
    rw[show(10:Int)=((10:Nat):Int) from rfl,←Int.ofNat_tdiv,hq];exact wrap_i64 (by omega)
   have KQ:IntKind.i64.wrap ((n:Int)/10)=(q:Int):=by
    rw[show(n:Int)/10=((n/10:Nat):Int) by omega,hq];exact wrap_i64 (by omega)
   have hm:(n:Int).tmod 10=(t:Int):=by
    rw[show(10:Int)=((10:Nat):Int) from rfl,←Int.ofNat_tmod,ht]
   have w1:IntKind.i64.wrap (48+(t:Int))=48+(t:Int):=wrap_i64 (by omega)
   have w2:IntKind.u8.wrap (48+(t:Int))=48+(t:Int):=wrap_u8 (by omega)
   have hi:=ih q (by omega) (by rw[Nat.pow_succ]at h;omega) (by omega)
   simp[F.b9,au,aG,hn,KQ]
   refine a8.ret hi (by simp) (by simp) (by simp) ?_
   rw[←hq]at hl
   simp[hm,w1,w2,X3 (x:=48+(t:Int)) (n:=48+t) (by omega) (by omega)]
   refine⟨by omega,?_⟩
   refine aL.plain [] ?_
   have OD:¬n<10:=by omega
   simp[wF,OD,←hq,←ht]
theorem IQ {n:Int} (h:n=0∨1000≤n∧n≤1073741824):bI Pg I.eK [.int .i64 n] (.bl true):=by
 refine ah.intro T.eK (by simp[F.eK]) ?_
 rcases h with h|⟨h1,h2⟩
 ·simp[F.eK,au,aG,h]
  refine aL.plain [] ?_
  simp
 ·have h0:¬n=0:=by omega
  simp[F.eK,au,aG,h0,h1,h2]
  refine aL.plain [] ?_
  simp
@[simp↓] theorem abH (a b:List UInt8) (K:PV->Prop):yT .geq a b K=K (.bl (!Op.bytesLess a b)):=_root_.id rfl
def u5 (a:sQ) (n:Nat):List UInt8:=((a.ip.take n).map (λb=>[46]++wF 2 b.toNat)).flatten
theorem DD (a:sQ):∀n,(u5 a n).length≤4*n:=by
 intro n
 unfold u5
 generalize a.ip=l
 induction l generalizing n with
 |nil=>simp
 |
  cons x l ih=>
  cases n with
  |zero=>simp
  |
   succ n=>
   have:=ih n
   have h2:=pV 2 x.toNat
   simp at this⊢
   omega
theorem Ko (a:sQ) {n:Nat} {b:UInt8} (h:a.ip[n]? =some b):u5 a (n+1)=u5 a n++([46]++wF 2 b.toNat):=by
 unfold u5
 rw[List.take_add_one,h];simp
theorem FE (a:sQ):2≤(u5 a 4).length:=by
 have h:=a.h
 obtain⟨x,l,e⟩:∃x l,a.ip=x::l:=by
  cases hx:a.ip with
  |nil=>rw[hx]at h;simp at h
  |cons x l=>exact⟨x,l,rfl⟩
 unfold u5
 rw[e]
 have h2:=pV 2 x.toNat
 simp
 omega
theorem Ho {a:sQ} (h:sR a 4) (h6:a.O7=false):bI Pg I.dZ [jf a] (.str ((u5 a 4).drop 1)):=by
 refine ah.intro T.dZ (by simp[F.dZ]) ?_
 simp[F.dZ,au,aG]
 refine al.ret (bW h) (by simp) (by simp) (by simp) ?_
 simp[h6]
 refine jx.kl 4 (λ_=>True) [1,2,3,4] (λi=>[(3,.str (u5 a i)),(4,.int .i64 i)]) (λi=>[]) [.keep [1,2,3,4]] ?_
 simp[show u5 a 0=[] from rfl]
 refine⟨λi hi K hK=> ?_,λK=> ?_⟩
 ·have vA:i<a.ip.length:=by rw[a.h];omega
  have hx:a.ip[i]? =some a.ip[i]:=gJ vA
  have hb:=(a.ip[i]).toNat_lt
  have hw:IntKind.i64.wrap ((a.ip[i]).toNat:Int)=((a.ip[i]).toNat:Int):=wrap_i64 (by omega)
  have hi4:(i:Int)<4:=by omega
  have hl:=DD a i
  have DZ:=pV 2 (a.ip[i]).toNat
  rw[Ko a hx]at hK
  have auX:(i:Int)<16:=by omega
  simp[↓aA,hi4,auX,hx,u8,hw]
  refine al.ret (IP 2 (a.ip[i]).toNat (by omega) (by omega) (by omega)) (by simp) (by simp) (by simp) ?_
  simp[fV hi (by omega)]
  refine⟨by omega,by omega,[.keep [1,2,3,4]],?_⟩
  simp
  exact hK _ (by simp)
 ·have hl:=DD a 4
  have hp:=FE a
  simp[↓aA,↓aA]
  refine⟨by omega,?_⟩
  refine aL.plain [] ?_
  simp
theorem X4 (i:Nat):sR (tB i).addr 4:=by
 intro j h1 h2
 simp only[tB]
 rcases(by omega:j=4∨j=5∨j=6∨j=7∨j=8∨j=9∨j=10∨j=11∨j=12∨j=13∨j=14∨j=15)with rfl|rfl|rfl|rfl|rfl|rfl|rfl|rfl|rfl|rfl|rfl|rfl<;>rfl
def RO (i:Nat):List UInt8:=(u5 (tB i).addr 4).drop 1++[58]++wF 3 (1000+i)
theorem Nn (i:Nat):RO i≠[]:=by simp[RO]
theorem Ay {i:Nat} (h:i<3):bI Pg I.cF [iU (tB i)] (.str (RO i)):=by
 refine ah.intro T.cF (by simp[F.cF]) ?_
 have hf:=Ho (X4 i) rfl
 have hl:=DD (tB i).addr 4
 have hp:=FE (tB i).addr
 have hd:=pV 3 (1000+i)
 have he:RO i=(u5 (tB i).addr 4).drop 1++[58]++wF 3 (1000+i):=rfl
 rw[he]
 obtain⟨m,hm⟩:∃m,(u5 (tB i).addr 4).drop 1=m:=⟨_,rfl⟩
 have PF:m.length=(u5 (tB i).addr 4).length-1:=by rw[←hm,List.length_drop]
 rw[hm]at hf⊢
 have hn:m≠[]:=by intro e;rw[e]at PF;simp at PF;omega
 have p1:(tB i).port=1000+(i:Int):=rfl
 have p2:¬(1000+(i:Int))<1:=by omega
 have p3:¬(65535:Int)<1000+(i:Int):=by omega
 have p4:(tB i).addr.O7=false:=rfl
 have hdc:=IP 3 (1000+i) (by omega) (by omega) (by omega)
 rw[show((1000+i:Nat):Int)=1000+(i:Int) by omega]at hdc
 simp[F.cF,au,aG]
 refine al.ret hf (by simp) (by simp) (by simp) ?_
 simp[hn,p1,p2,p3,p4]
 refine⟨by omega,?_⟩
 refine al.ret hdc (by simp) (by simp) (by simp) ?_
 simp
 refine⟨by omega,?_⟩
 refine aL.plain [] ?_
 simp
end Go.Ab
end E9s
