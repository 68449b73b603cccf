/- Walks of functions, part 7. No condition. -/
import Derived.Test.YtddacpkeacbjfaaGreatDoorB6
import Derived.Laws.Externs
import Derived.Lib.Overlaps
set_option maxRecDepth 10000
set_option maxHeartbeats 1000000
set_option linter.all false
noncomputable section
namespace Go.Ab
structure Okd (d:aR):Prop where
 Ix:G9 d
 pl:d.aa.length≤4
 wn:∀p∈d.aa,IP p
 il:MW d.rules.load
 is:MW d.rules.fU
 ib:MW d.bad
 u:∀s∈gl d.aa d.aa.length,Tr s
def rr (d:aR) (i:Nat):Bool:=
 match i with
 |0=>r1 d
 |1=>r2 d
 |2=>r3 d
 |3=>r4 d
 |4=>r5 d
 |5=>r6 d
 |6=>r7 d
 |7=>r8 d
 |8=>r9 d
 |_=>true
theorem Yh {d:aR} (h:Okd d):∀i (hi:i<GP.length),(∀j,j<i->rr d j=true)->aP Pg GP[i] [bN d] (.bl (rr d i)):=by
 intro i hi hj;have hlen:GP.length=9:=rfl;match i,hi with
 |0,_=>exact Ss h.il h.is h.ib
 |1,_=>exact aeY h.Ix.aa
 |2,_=>exact X7 h.Ix.aa h.Ix.aM
 |3,_=>exact ae0 h.Ix.aa
 |4,_=>exact OW h.Ix.aa h.wn
 |5,_=>exact SX h.Ix.aa h.Ix.aX
 |6,_=>exact afi h.pl h.Ix.aE h.u
 |7,_=>exact Yc h.Ix.aa h.Ix.timers
 |8,_=>exact arl h.Ix.aY h.Ix.buckets
def Tu:zr 3 PV.nf=[.nf,.nf,.nf]:=by rw[dh];rfl
@[simp] theorem ary:PV.nf.width=1:=rfl
theorem O6 (r:lU) (x:jx):aP Pg 45 [dt r,.int .i64 1,dQ x] (dt (D4 r 1 x)):=by
 refine ab.intro (aA R.ju.2) (by simp[R.ju]) ?_;simp[R.ju,ah,az];refine aj.zF 11 (by simp) (dv r) (by simp) (by simp) (by simp) (by simp) (by simp[nX,ae,al,dL]) (r':=nX 11) (by simp[nX,aI,bw,cN]) ?_;simp[nX,Tu];refine oG.run [11] rfl ?_;simp;refine aj.zF 11 (by simp) (eX r) (by simp) (by simp) (by simp) (by simp) (by simp[ae,dL]) (r':= .pt 11 [.f 0 0,.f 0 0] 0) (by simp[aI,cN]) ?_;simp[dt];refine bH ?_;simp[D4];rfl
def O7 (r:lU) (x:jx):aP Pg 45 [dt r,.int .i64 2,dQ x] (dt (D4 r 2 x)):=by
 refine ab.intro (aA R.ju.2) (by simp[R.ju]) ?_;simp[R.ju,ah,az];refine aj.zF 11 (by simp) (dv r) (by simp) (by simp) (by simp) (by simp) (by simp[nX,ae,al,dL]) (r':=nX 11) (by simp[nX,aI,bw,cN]) ?_;simp[nX,Tu];refine oG.run [11] rfl ?_;simp;refine aj.zF 11 (by simp) (fy r) (by simp) (by simp) (by simp) (by simp) (by simp[ae,dL]) (r':= .pt 11 [.f 0 0,.f 1 77] 0) (by simp[aI,cN]) ?_;simp[dt];refine bH ?_;simp[D4];rfl
def O8 (r:lU) (x:jx):aP Pg 45 [dt r,.int .i64 3,dQ x] (dt (D4 r 3 x)):=by
 refine ab.intro (aA R.ju.2) (by simp[R.ju]) ?_;simp[R.ju,ah,az];refine aj.zF 11 (by simp) (dv r) (by simp) (by simp) (by simp) (by simp) (by simp[nX,ae,al,dL]) (r':=nX 11) (by simp[nX,aI,bw,cN]) ?_;simp[nX,Tu];refine oG.run [11] rfl ?_;simp;refine aj.zF 11 (by simp) (ja r) (by simp) (by simp) (by simp) (by simp) (by simp[ae,dL]) (r':= .pt 11 [.f 0 0,.f 2 154] 0) (by simp[aI,cN]) ?_;simp[dt];refine bH ?_;simp[D4];rfl
def Tv (r:lU) {k:Nat} (h:k=1∨k=2∨k=3) (x:jx):aP Pg 45 [dt r,.int .i64 k,dQ x] (dt (D4 r k x)):=by
 rcases h with rfl|rfl|rfl
 ·exact O6 r x
 ·exact O7 r x
 ·exact O8 r x
def Yi (l:Zz) (i:Nat):(⟨l.toArray⟩:ByteArray)[i]! =l[i]! :=by
 by_cases h:i<l.length
 ·have h2:i<(⟨l.toArray⟩:ByteArray).size:=h;rw[getElem!_pos (⟨l.toArray⟩:ByteArray) i h2,getElem!_pos l i h];rfl
 ·have h2:¬i<(⟨l.toArray⟩:ByteArray).size:=h;rw[getElem!_neg (⟨l.toArray⟩:ByteArray) i h2,getElem!_neg l i h]
def Eb:Zz->Zz->Int
 |x::a,y::b=>if x=y then Eb a b else if x<y then-1 else 1
 |[],_::_=> -1
 |_::_,[]=>1
 |[],[]=>0
def Tw (a b:Zz):Int:=
 match(List.range (min a.length b.length)).find? λi=>a[i]! !=b[i]! with
 |some i=>if a[i]! <b[i]! then-1 else 1
 |none=>if a.length<b.length then-1 else if a.length>b.length then 1 else 0
theorem Na:∀a b:Zz,Tw a b=Eb a b
 |[],[]=>rfl
 |[],y::b=>by simp[Tw,Eb]
 |x::a,[]=>by simp[Tw,Eb]
 |
  x::a,y::b=>by
  have ih:=Na a b
  unfold Tw at ih⊢
  have e:min (x::a).length (y::b).length=min a.length b.length+1:=by simp only[JbZ];omega
  rw[e,List.range_succ_eq_map,List.find?_cons]
  by_cases LG:x=y
  ·subst LG
   simp only[Eb,if_true]
   rw[←ih]
   have h0:((x::a)[0]! !=(x::b)[0]!)=false:=by simp
   rw[h0]
   simp only[List.find?_map]
   have e2:((λi=>(x::a)[i]! !=(x::b)[i]!)∘Nat.succ)=λi=>a[i]! !=b[i]! :=by
    funext i;simp
   rw[e2]
   cases(List.range (min a.length b.length)).find? (λi=>a[i]! !=b[i]!)with
   |none=>simp
   |some i=>simp
  ·have h0:((x::a)[0]! !=(y::b)[0]!)=true:=by simpa using LG
   rw[h0]
   simp[Eb,LG]
def Tx (a b:Zz):tf a b=Eb a b:=by
 rw[←Na];unfold tf Go.Extern.BytealgCompare.cmp Tw;simp only[Yi];rfl
theorem Nb:∀a b:Zz,a.length=b.length->Eb a b=if a=b then 0 else if Op.bytesLess a b=true then-1 else 1
 |[],[],_=>rfl
 |[],_::_,h=>by simp at h
 |_::_,[],h=>by simp at h
 |
  x::a,y::b,h=>by
  have ih:=Nb a b (by simpa using h)
  by_cases LG:x=y
  ·subst LG
   have dx:¬x<x:=UInt8.lt_irrefl x
   simp only[Eb,if_true,ih,Op.bytesLess,List.cons.injEq,true_and]
   simp[dx]
  ·have:¬(x::a=y::b):=λe=>LG (by cases e;rfl)
   simp only[Eb,if_neg LG,if_neg this,Op.bytesLess]
   have hb:(x==y)=false:=by simpa using LG
   simp[hb]
def aBq (a b:Key):tf a.l b.l=if a=b then 0 else if UQ a b=true then-1 else 1:=by
 rw[Tx,Nb _ _ (by rw[a.h,b.h])];by_cases h:a=b
 ·subst h;simp
 ·have:¬a.l=b.l:=λe=>h (Key.ext' e);rw[if_neg h,if_neg this];rfl
def wof (t:cZ) (k:Key) (n:Int):aP Pg 167 [.st 34 [bn t],bW k,.int .i64 n] (.bl (!tc k n t)):=by
 refine ab.intro (aA R.jc.2) (by simp[R.jc]) ?_;by_cases h1:t.peer=k
 ·by_cases h2:t.kind=n
  ·simp[R.jc,ah,az,h1,h2];refine bH ?_;simp[tc,h1,h2]
  ·simp[R.jc,ah,az,h1,h2];refine bH ?_;simp[tc,h1,h2]
 ·simp[R.jc,ah,az,tG,h1];refine bH ?_;simp[tc,h1]
def Yj (a b:cZ):aP Pg 168 [.st 34 [bn a],.st 34 [bn b]] (.bl (ej a b)):=by
 refine ab.intro (aA R.iA.2) (by simp[R.iA]) ?_;have g1:aO (.st 34 [bn a]) [.f 0 0,.f 1 1]=some (.ar 1 32 (a.peer.l.map u8)):=by simp[bW]
 have g2:aO (.st 34 [bn b]) [.f 0 0,.f 1 1]=some (.ar 1 32 (b.peer.l.map u8)):=by simp[bW]
 have hv:=GL g1 g2 a.peer.h b.peer.h;have p1:Pure (.st 34 [bn a]):=by simp
 have p2:Pure (.st 34 [bn b]):=by simp
 rw[aBq]at hv;by_cases h1:a.at_=b.at_
 ·simp[R.iA,ah,az,h1];refine aj.gA [2,3] [] [.box (.st 34 [bn a]),.box (.st 34 [bn b])] hv (by simp[af]) (by simp[aG]) (by simp[af,ae]) ?_;simp[aQ,aG,aI];by_cases h2:a.peer=b.peer
  ·simp[h2];refine bH ?_;simp[ej,h1,h2]
  ·by_cases h3:UQ a.peer b.peer=true
   ·simp[h2,h3];refine bH ?_;simp[ej,h1,h2,h3]
   ·simp[h2,h3];refine bH ?_;simp[ej,h1,h2,h3]
 ·simp[R.iA,ah,az,h1];refine bH ?_;simp[ej,h1]
def arz (a b:cZ):aP Pg 91 [bn a,bn b] (.bl (ej a b)):=by
 refine ab.intro (aA R.tv.2) (by simp[R.tv]) ?_;simp[R.tv,ah,az];refine aj.rA (Yj a b) ?_;simp;refine bH ?_;simp
def arA (t:cZ) (k:Key) (n:Int):ab Pg 166 [bn t,.pt KB [] 0,.pt (KB+1) [] 0] [.box (bW k),.box (.int .i64 n)] (λr fp=>r= .bl (!tc k n t)∧fp=[.box (bW k),.box (.int .i64 n)]):=by
 refine ab.intro (aA R.nI.2) (by simp[R.nI]) ?_;simp[R.nI,ah,az];refine aj.rA (wof t k n) ?_;simp;refine bj.with [] [KB,KB+1] ?_;simp[af,ae,aG,aI]
def arB (t u:cZ):ab Pg 90 [bn u,.pt KB [] 0] [.box (bn t)] (λr fp=>r= .bl (ej t u)∧fp=[.box (bn t)]):=by
 refine ab.intro (aA R.rj.2) (by simp[R.rj]) ?_;simp[R.rj,ah,az];refine aj.rA (arz t u) ?_;simp;refine bj.with [] [KB] ?_;simp[af,aG]
def uT {α:Type} (q:α->Bool) (L:List α):Int:=match L.findIdx? q with|some i=>(i:Int)|none=> -1
def z6 {α:Type} {q:α->Bool} {L:List α} (h:∀x∈L,q x=false):uT q L= -1:=by
 have:L.findIdx? q=none:=List.findIdx?_eq_none_iff.2 h;rw[uT,this]
def z7 {α:Type} {q:α->Bool} {L:List α} {i:Nat} (hi:i<L.length) (h:∀x∈L.take i,q x=false) (hq:q L[i]=true):uT q L=i:=by
 have:L.findIdx? q=some i:=by
  rw[List.findIdx?_eq_some_iff_getElem];refine⟨hi,hq,λj hj=> ?_⟩;have:=h L[j] (by rw[List.mem_take_iff_getElem];exact⟨j,by omega,rfl⟩);simpa using this
 rw[uT,this]
theorem wY {α:Type} (q:α->Bool) (L:List α):(uT q L= -1∧∀x∈L,q x=false)∨∃i,∃h:i<L.length,uT q L=i∧(∀x∈L.take i,q x=false)∧q L[i]=true:=by
 cases h:L.findIdx? q with
 |none=>exact .inl ⟨by rw[uT,h],List.findIdx?_eq_none_iff.1 h⟩
 |
  some i=>
  obtain⟨hi,hq,hn⟩:=List.findIdx?_eq_some_iff_getElem.1 h
  refine .inr ⟨i,hi,by rw[uT,h],λx hx=> ?_,hq⟩
  rw[List.mem_take_iff_getElem]at hx
  obtain⟨j,hj,rfl⟩:=hx
  simpa using hn j (by omega)
def arC {L:Wu} {J:WG} {c:iO} (hl:L.length≤1048576) (hJ:aB J) {g:FuncId} {q:cZ->Bool} {v:PV} {w:PV} (hv:Pure v) (hw:Pure w) (hq:∀x∈L,(ab Pg g [bn x,.pt KB [] 0,.pt (KB+1) [] 0] [aU.box v,aU.box w] (λr fp=>r= .bl (q x)∧fp=[aU.box v,aU.box w]))):
  ab Pg 89 [.rs KB [] 0 L.length (L.length+J.length) 34 c,.fn (.func g) [] [.pt (KB+1) [] 0,.pt (KB+2) [] 0]] [.arr 34 (L.map bn++J),.box v,.box w] (λr fp=>r= .int .i64 (uT q L)∧fp=[.arr 34 (L.map bn++J),.box v,.box w]):=by
 refine ab.intro (aA R.bF.2) (by simp[R.bF]) ?_;have mV:aB (L.map bn++J):=(aL jN L).append hJ;have Ni:L.length=(L.map bn).length:=by simp
 have hx:∀i,(h:i<L.length)->(L.map bn++J)[i]? =some (bn L[i]):=λi h=>by rw[List.getElem?_append_left (by simpa using h)];simp[h]
 have hlen:(L.map bn++J).length=L.length+J.length:=by simp
 generalize L.map bn++J=B at*;simp[R.bF,ah,az,hlen];refine fa.fN L.length (λi=>∀x∈L.take i,q x=false) [0,1,4,6,7,8] (λi=>[(8,.int .i64 i)]) (λ_=>[]) [.keep [0,1,4,6,7,8]] ?_;simp only[List.take_zero];simp;refine⟨λi hi hI K hK=> ?_,λhI K=> ?_⟩
 ·have hc:=hq L[i] (JaJ hi);have hx:=hx i hi;have wi:IntKind.i64.wrap ((i:Int)+1)=(i:Int)+1:=wrap_i64 (by omega);have hle:i<L.length+J.length:=by omega
  generalize hxe:L[i]=x at*;simp[↓an,hx,hi,hlen,-getElem?_pos];refine aj.gA [KB+1,KB+2] [] [aU.box v,aU.box w] hc (by simp[af,hv.refs,hw.refs]) (by simp[aG,hv.aI,hw.aI]) (by simp[af,ae,hv.refs,hw.refs]) ?_;simp[aQ,aG,aI,hv.aI,hw.aI];by_cases hb:q x=true
  ·simp[hb];refine bj.with [] [KB,KB+1,KB+2] ?_;simp[af,aG,mV.refs,mV.aI,hv.refs,hw.refs,hv.aI,hw.aI];exact(z7 hi hI (by rw[hxe];exact hb)).symm
  ·have hb:q x=false:=by simpa using hb
   simp[hb,wi];refine⟨[.keep [0,1,4,6,7,8]],?_⟩;simp;refine hK _ (by simp) ?_;rw[JcJ hi,hxe];intro y hy;rcases JaX.1 hy with h|h
   ·exact hI y h
   ·simp at h;subst h;exact hb
 ·simp[↓an];refine bj.with [] [KB,KB+1,KB+2] ?_;simp[af,aG,mV.refs,mV.aI,hv.refs,hw.refs,hv.aI,hw.aI];exact(z6 hI).symm
def arD {L:Wu} {J:WG} {c:iO} (hl:L.length≤1048576) (hJ:aB J) {g:FuncId} {q:cZ->Bool} {v:PV} (hv:Pure v) (hq:∀x∈L,(ab Pg g [bn x,.pt KB [] 0] [aU.box v] (λr fp=>r= .bl (q x)∧fp=[aU.box v]))):
  ab Pg 89 [.rs KB [] 0 L.length (L.length+J.length) 34 c,.fn (.func g) [] [.pt (KB+1) [] 0]] [.arr 34 (L.map bn++J),.box v] (λr fp=>r= .int .i64 (uT q L)∧fp=[.arr 34 (L.map bn++J),.box v]):=by
 refine ab.intro (aA R.bF.2) (by simp[R.bF]) ?_;have mV:aB (L.map bn++J):=(aL jN L).append hJ;have Ni:L.length=(L.map bn).length:=by simp
 have hx:∀i,(h:i<L.length)->(L.map bn++J)[i]? =some (bn L[i]):=λi h=>by rw[List.getElem?_append_left (by simpa using h)];simp[h]
 have hlen:(L.map bn++J).length=L.length+J.length:=by simp
 generalize L.map bn++J=B at*;simp[R.bF,ah,az,hlen];refine fa.fN L.length (λi=>∀x∈L.take i,q x=false) [0,1,4,6,7,8] (λi=>[(8,.int .i64 i)]) (λ_=>[]) [.keep [0,1,4,6,7,8]] ?_;simp only[List.take_zero];simp;refine⟨λi hi hI K hK=> ?_,λhI K=> ?_⟩
 ·have hc:=hq L[i] (JaJ hi);have hx:=hx i hi;have wi:IntKind.i64.wrap ((i:Int)+1)=(i:Int)+1:=wrap_i64 (by omega);have hle:i<L.length+J.length:=by omega
  generalize hxe:L[i]=x at*;simp[↓an,hx,hi,hlen,-getElem?_pos];refine aj.gA [KB+1] [] [aU.box v] hc (by simp[af,hv.refs]) (by simp[aG,hv.aI]) (by simp[af,ae,hv.refs]) ?_;simp[aQ,aG,aI,hv.aI];by_cases hb:q x=true
  ·simp[hb];refine bj.with [] [KB,KB+1] ?_;simp[af,aG,mV.refs,mV.aI,hv.refs,hv.aI];exact(z7 hi hI (by rw[hxe];exact hb)).symm
  ·have hb:q x=false:=by simpa using hb
   simp[hb,wi];refine⟨[.keep [0,1,4,6,7,8]],?_⟩;simp;refine hK _ (by simp) ?_;rw[JcJ hi,hxe];intro y hy;rcases JaX.1 hy with h|h
   ·exact hI y h
   ·simp at h;subst h;exact hb
 ·simp[↓an];refine bj.with [] [KB,KB+1] ?_;simp[af,aG,mV.refs,mV.aI,hv.refs,hv.aI];exact(z6 hI).symm
def arE {L:WO} {J:WG} {c:iO} (hl:L.length≤1048576) (hJ:aB J) {g:FuncId} {q:cG->Bool} (hq:∀x∈L,(ab Pg g [aZ x] [] (λr fp=>r= .bl (q x)∧fp=[]))):
  ab Pg 86 [.rs KB [] 0 L.length (L.length+J.length) 34 c,.fn (.func g) [] []] [.arr 34 (L.map aZ++J)] (λr fp=>r= .int .i64 (uT q L)∧fp=[.arr 34 (L.map aZ++J)]):=by
 refine ab.intro (aA R.dS.2) (by simp[R.dS]) ?_;have mV:aB (L.map aZ++J):=(aL fB L).append hJ;have Ni:L.length=(L.map aZ).length:=by simp
 have hx:∀i,(h:i<L.length)->(L.map aZ++J)[i]? =some (aZ L[i]):=λi h=>by rw[List.getElem?_append_left (by simpa using h)];simp[h]
 have hlen:(L.map aZ++J).length=L.length+J.length:=by simp
 generalize L.map aZ++J=B at*;simp[R.dS,ah,az,hlen];refine fa.fN L.length (λi=>∀x∈L.take i,q x=false) [0,1,4,6,7,8] (λi=>[(8,.int .i64 i)]) (λ_=>[]) [.keep [0,1,4,6,7,8]] ?_;simp only[List.take_zero];simp;refine⟨λi hi hI K hK=> ?_,λhI K=> ?_⟩
 ·have hc:=hq L[i] (JaJ hi);have hx:=hx i hi;have wi:IntKind.i64.wrap ((i:Int)+1)=(i:Int)+1:=wrap_i64 (by omega);have hle:i<L.length+J.length:=by omega
  generalize hxe:L[i]=x at*;simp[↓an,hx,hi,hlen,-getElem?_pos];refine aj.gA [] [] [] hc (by simp) (by simp) (by simp[ae]) ?_;simp[aQ,aI];by_cases hb:q x=true
  ·simp[hb];refine bj.with [] [KB] ?_;simp[af,aG,mV.refs,mV.aI];exact(z7 hi hI (by rw[hxe];exact hb)).symm
  ·have hb:q x=false:=by simpa using hb
   simp[hb,wi];refine⟨[.keep [0,1,4,6,7,8]],?_⟩;simp;refine hK _ (by simp) ?_;rw[JcJ hi,hxe];intro y hy;rcases JaX.1 hy with h|h
   ·exact hI y h
   ·simp at h;subst h;exact hb
 ·simp[↓an];refine bj.with [] [KB] ?_;simp[af,aG,mV.refs,mV.aI];exact(z6 hI).symm
def qd (sz:Nat) (j:Nat):aB (List.replicate j (LX sz)):=aB.mk' λp hp=>by
 rw[JhZ hp];exact aB.st (aB.mk' λp hp=>by rw[JhZ hp];simp) sz
def BJ {α:Type} (p:α->Bool) (L:List α) (j:Nat):List α:=(L.take j).filter p++L.drop ((L.take j).filter p).length
def BK {α:Type} (p:α->Bool) (L:List α) (j:Nat):((L.take j).filter p).length≤j∧((L.take j).filter p).length≤L.length:=by
 have:=JeV p (L.take j);rw[lJ]at this;omega
def Ln {α:Type} (p:α->Bool) (L:List α) (j:Nat):(BJ p L j).length=L.length:=by
 have:=BK p L j;simp only[BJ,JaV,JdX];omega
def Fa {α:Type} {p:α->Bool} {L:List α} {i:Nat} (hi:i<L.length) (h:∀x∈L.take i,p x=true) (hq:p L[i]=false):((L.take (i+1)).filter p).length=i∧BJ p L (i+1)=L:=by
 have e:(L.take (i+1)).filter p=L.take i:=by
  rw[lM p hi,hq];simp only[fJ,if_false,JdW];exact JdQ.2 h
 have hl:(L.take i).length=i:=by rw[lJ];omega
 refine⟨by rw[e,hl],?_⟩;rw[BJ,e,hl,JbV]
def Yk {α:Type} (p:α->Bool) {L:List α} {j:Nat} (hj:j<L.length):(BJ p L j)[j]? =some L[j]:=by
 have:=BK p L j;rw[BJ,List.getElem?_append_right this.1,List.getElem?_drop,show((L.take j).filter p).length+(j-((L.take j).filter p).length)=j by omega,gJ hj]
def Ty {α:Type} {p:α->Bool} {L:List α} {j:Nat} (hj:j<L.length) (h:p L[j]=false):(L.take (j+1)).filter p=(L.take j).filter p∧BJ p L (j+1)=BJ p L j:=by
 have e:(L.take (j+1)).filter p=(L.take j).filter p:=by rw[lM p hj,h];simp
 exact⟨e,by rw[BJ,BJ,e]⟩
def Nc {α:Type} {p:α->Bool} {L:List α} {j:Nat} (hj:j<L.length) (h:p L[j]=true):((L.take (j+1)).filter p).length=((L.take j).filter p).length+1∧(BJ p L j).set ((L.take j).filter p).length L[j]=BJ p L (j+1):=by
 have e:(L.take (j+1)).filter p=(L.take j).filter p++[L[j]]:=by rw[lM p hj,h];simp
 have hc:=BK p L j;refine⟨by rw[e];simp,?_⟩;rw[BJ,BJ,e,JhV _ _ (JaQ _),Nat.sub_self,List.drop_eq_getElem_cons (by omega),JjW];simp
def Yl {α:Type} (p:α->Bool) (L:List α):(L.take L.length).filter p=L.filter p∧(BJ p L L.length).take (L.filter p).length=L.filter p:=by
 rw[JmV];refine⟨rfl,?_⟩;rw[BJ,JmV,List.take_left]
def Tz {α:Type} (p:α->Bool) (e:α->PV) (he:∀x,Pure (e x)) {n:Nat} (hw:∀x,(e x).width=n) {L:List α} {i:Nat} (hi:i<L.length) (h:∀x∈L.take i,p x=true) (hq:p L[i]=false):
  ∃
   (D:Nat->WG) (cn:Nat->Nat),(D (i+1)=L.map e∧cn (i+1)=i)∧(∀j (h:j<L.length),(D j)[j]? =some (e L[j]))∧(∀j (h:j<L.length),p L[j]=false->D (j+1)=D j∧cn (j+1)=cn j)∧
   (∀j (h:j<L.length),p L[j]=true->(D j).set (cn j) (e L[j])=D (j+1)∧cn (j+1)=cn j+1)∧(∀j,(D j).length=L.length)∧(∀j,cn j≤j∧cn j≤L.length)∧
   (cn L.length=(L.filter p).length∧(D L.length).take (L.filter p).length=(L.filter p).map e)∧(∀j,∀x∈D j,x.width=n)∧(∀j,aB (D j)):=by
 refine⟨λj=>(BJ p L j).map e,λj=>((L.take j).filter p).length,⟨by show(BJ p L (i+1)).map e=_;rw[(Fa hi h hq).2],(Fa hi h hq).1⟩,λj h=> ?_,λj h hp=> ?_,λj h hp=> ?_,λj=> ?_,λj=>BK p L j,?_,λj x hx=> ?_,λj=>aB.map he _⟩
 ·show((BJ p L j).map e)[j]? =_;rw[List.getElem?_map,Yk p h];rfl
 ·exact⟨by show(BJ p L (j+1)).map e=_;rw[(Ty h hp).2],by show((L.take (j+1)).filter p).length=_;rw[(Ty h hp).1]⟩
 ·refine⟨?_,(Nc h hp).1⟩;show((BJ p L j).map e).set _ _=(BJ p L (j+1)).map e;rw[←(Nc h hp).2,JeJ]
 ·show((BJ p L j).map e).length=_;rw[JeW,Ln]
 ·have:=Yl p L;refine⟨by show((L.take L.length).filter p).length=_;rw[this.1],?_⟩;show((BJ p L L.length).map e).take _=_;rw[←JjX,this.2]
 ·obtain⟨y,_,rfl⟩:=JcV.1 hx;exact hw y
def GQ:PV:= .st 34 [.int .u32 0,.ar 1 32 (zr 32 (.int .u8 0)),.bl false]
def aBr {L:Wu} (hl:L.length≤1048576) {g:FuncId} {q:cZ->Bool} {v:PV} {w:PV} (hv:Pure v) (hw:Pure w) (hq:∀x∈L,(ab Pg g [bn x,.pt KB [] 0,.pt (KB+1) [] 0] [aU.box v,aU.box w] (λr fp=>r= .bl (q x)∧fp=[aU.box v,aU.box w]))):
  ab Pg 165 [.rs KB [] 0 L.length L.length 34 .tip,.fn (.func g) [] [.pt (KB+1) [] 0,.pt (KB+2) [] 0]] [.arr 34 (L.map bn),.box v,.box w] (λr fp=>∃(J:WG) (c:Nat),(aB J∧(L.filter λx=> !q x).length≤c∧c≤(L.filter λx=> !q x).length+J.length)∧r= .rs KB [] 0 (L.filter λx=> !q x).length ((L.filter λx=> !q x).length+J.length) 34 (.full c)∧fp=[.arr 34 ((L.filter λx=> !q x).map bn++J),.box v,.box w]):=by
 obtain⟨p,Pq⟩:∃p:cZ->Bool,∀x,p x= !q x:=⟨_,λ_=>rfl⟩
 rw[show(λx=> !q x)=p from funext λx=>(Pq x).symm];refine ab.intro (aA R.dC.2) (by simp[R.dC]) ?_;have rv:∀l:Wu,aB (l.map bn):=λl=>aL jN l;have hix:=arC (c:= .tip) (J:=[]) hl nk hv hw hq;simp only[JdW,List.length_nil,JmZ]at hix;simp[R.dC,ah,az];refine aj.gA [KB,KB+1,KB+2] [] [.arr 34 (L.map bn),.box v,.box w] hix (by simp[af,hv.refs,hw.refs]) (by simp[aG,hv.aI,hw.aI]) (by simp[af,ae,hv.refs,hw.refs]) ?_;simp[aQ,aG,aI,hv.aI,hw.aI];rcases wY q L with⟨he,cU⟩|⟨i,hi,he,Uq,hqi⟩
 ·have hK:L.filter p=L:=JdQ.2 λx hx=>by rw[Pq,cU x hx];rfl
  rw[hK];simp[he];refine bj.with [.keep [4],.mt 4] [KB,KB+1,KB+2] ?_;simp[af,aG,hv.refs,hw.refs,hv.aI,hw.aI];intro c j hcj;exact⟨(qd 34 j).refs _,List.replicate j (LX 34),c,⟨qd 34 j,by rcases hcj with h|⟨_,_,h⟩<;>simp[h],by rw[JkX];omega⟩,by simp,((rv L).append (qd 34 j)).aI _⟩
 ·have agv:p L[i]=false:=by rw[Pq,hqi];rfl
  obtain⟨D,cn,⟨d0,c0⟩,dg,dn,dy,dl,cl,⟨ce,de⟩,dw,dp⟩:=Tz p bn jN (n:=34) (λx=>by simp) hi (λx hx=>by rw[Pq,Uq x hx];rfl) agv;have wi:IntKind.i64.wrap ((i:Int)+1)=(i:Int)+1:=wrap_i64 (by omega);have bY:¬(i:Int)= -1:=by omega
  simp[he,wi,bY];rw[←d0];have TW:L.length-(i+1)+(i+1)=L.length:=by omega
  refine fa.fN (L.length-(i+1)) (λ_=>True) [0,1,4,5,6] (λr=>[(5,.int .i64 (cn (i+1+r))),(6,.int .i64 ((i:Int)+1+r))]) (λr=>[(KB,.arr 34 (D (i+1+r)))]) [.keep [0,1,4,5,6]] ?_;simp[c0];refine⟨λr hr K hK=> ?_,λK=> ?_⟩
  ·obtain⟨j,hj⟩:∃j,j=i+1+r:=⟨_,rfl⟩
   have Bb:j<L.length:=by omega
   have hjc:(i:Int)+1+r=j:=by omega
   have hx:=dg j Bb;have hc:=hq L[j] (JaJ Bb);have dn:=dn j Bb;have dy:=dy j Bb;have cl:=cl j;have dlj:=dl j;have dpj:=dp j;have dpj1:=dp (j+1);have wj:IntKind.i64.wrap ((j:Int)+1)=(j:Int)+1:=wrap_i64 (by omega);have wc:IntKind.i64.wrap ((cn j:Int)+1)=(cn j:Int)+1:=wrap_i64 (by omega);have Pp:cn j<L.length:=by omega
   obtain⟨y,hy,hyw⟩:∃y,(D j)[cn j]? =some y∧y.width=34:=by
    have dx:cn j<(D j).length:=by rw[dlj];exact Pp
    exact⟨_,gJ dx,dw j _ (JaJ dx)⟩
   have hK:∀s2,jK s2 [0,1,4,5,6] [] []=⟨[(0,.rs KB [] 0 L.length L.length 34 .tip),(1,.fn (.func g) [] [.pt (KB+1) [] 0,.pt (KB+2) [] 0]),(4,.sl 34 [] true),(5,.int .i64 (cn (j+1))),(6,.int .i64 ((j:Int)+1))],[(KB,.arr 34 (D (j+1))),(KB+1,.box v),(KB+2,.box w)]⟩->K s2:=by
    intro s2 DM;refine hK s2 (DM.trans ?_);rw[show i+1+(r+1)=j+1 by omega,show(i:Int)+1+((r:Int)+1)=(j:Int)+1 by omega]
   rw[←hj,hjc];have hpx:p L[j]= !q L[j]:=Pq _;generalize L[j]=x at*;generalize cn j=cj at*;generalize D j=Dj at*;generalize D (j+1)=Dj1 at*;generalize cn (j+1)=cj1 at*;simp[↓an,hx,Bb,dlj,-getElem?_pos];refine aj.gA [KB+1,KB+2] [] [aU.box v,aU.box w] hc (by simp[af,hv.refs,hw.refs]) (by simp[aG,hv.aI,hw.aI]) (by simp[af,ae,hv.refs,hw.refs]) ?_;simp[aQ,aG,aI,hv.aI,hw.aI];by_cases hb:q x=true
   ·obtain⟨rfl,rfl⟩:=dn (by rw[hpx,hb];rfl);simp[hb,wj];refine⟨[.keep [0,1,4,5,6],.dr 7],?_⟩;simp[aW,bA,ae,al,af,dpj.refs,hv.refs,hw.refs];exact hK _ (by simp)
   ·have hb:q x=false:=by simpa using hb
    obtain⟨rfl,rfl⟩:=dy (by rw[hpx,hb];rfl);simp[hb,wj,wc,dlj,Pp,hy,hyw,-getElem?_pos];refine⟨[.keep [0,1,4,5,6],.dr 7],?_⟩;simp[aW,bA,ae,al,af,dpj1.refs,hv.refs,hw.refs];exact hK _ (by simp)
  ·have Bb:i+1+(L.length-(i+1))=L.length:=by omega
   have hjc:(i:Int)+1+((L.length-(i+1):Nat):Int)=L.length:=by omega
   simp only[Bb,hjc];have cl:=cl L.length;have dlj:=dl L.length;have dpj:=dp L.length;have dw:=dw L.length;have uY:(L.filter p).length≤L.length:=by rw[←ce];exact cl.2
   rw[ce];generalize D L.length=DJ at*;generalize hKk:L.filter p=Kp at*;simp[↓an,dlj,uY,-getElem?_pos];rw[de]
   obtain⟨Z,hZ,hzp,hzl⟩:∃Z,(List.replicate (L.length-Kp.length) (.st 34 [(.int .i64 0),(.ar 1 32 (zr 32 (.int .u8 0))),(.int .i64 0)])++List.drop L.length DJ)=Z∧aB Z∧Z.length=L.length-Kp.length:=
    ⟨_,rfl,(aB.mk' λp hp=>by rw[JhZ hp];simp).append (dpj.drop _),by simp[dlj]⟩
   rw[hZ];have fL:aB (Kp.map bn++Z):=(rv Kp).append hzp;have qm:(Kp.map bn++Z).length=L.length:=by simp;omega
   refine bj.with [.keep [4],.mt 4] [KB,KB+1,KB+2] ?_;simp[qm,af,aG,hv.refs,hw.refs,hv.aI,hw.aI];intro c j hcj;have hzu:=hzp.append (qd 34 j);refine⟨⟨hzp.refs _,(qd 34 j).refs _⟩,Z++List.replicate j (LX 34),c,⟨hzu,?_,?_⟩,⟨by simp;omega,rfl⟩,((rv Kp).append hzu).aI _⟩
   ·rcases hcj with h|⟨_,_,h⟩
    ·omega
    ·simp[h]
   ·simp only[JaV,JkX];omega
def aBs {L:WO} (hl:L.length≤1048576) {g:FuncId} {q:cG->Bool} (hq:∀x∈L,(ab Pg g [aZ x] [] (λr fp=>r= .bl (q x)∧fp=[]))):
  ab Pg 41 [.rs KB [] 0 L.length L.length 34 .tip,.fn (.func g) [] []] [.arr 34 (L.map aZ)] (λr fp=>r= .rs KB [] 0 (L.filter λx=> !q x).length L.length 34 .tip∧fp=[.arr 34 ((L.filter λx=> !q x).map aZ++List.replicate (L.length-(L.filter λx=> !q x).length) GQ)]):=by
 obtain⟨p,Pq⟩:∃p:cG->Bool,∀x,p x= !q x:=⟨_,λ_=>rfl⟩
 rw[show(λx=> !q x)=p from funext λx=>(Pq x).symm];refine ab.intro (aA R.dK.2) (by simp[R.dK]) ?_;have rv:∀l:WO,aB (l.map aZ):=λl=>aL fB l;have hix:=arE (c:= .tip) (J:=[]) hl nk hq;simp only[JdW,List.length_nil,JmZ]at hix;simp[R.dK,ah,az];refine aj.gA [KB] [] [.arr 34 (L.map aZ)] hix (by simp[af]) (by simp[aG]) (by simp[af,ae]) ?_;simp[aQ,aG,aI];rcases wY q L with⟨he,cU⟩|⟨i,hi,he,Uq,hqi⟩
 ·have hK:L.filter p=L:=JdQ.2 λx hx=>by rw[Pq,cU x hx];rfl
  rw[hK];simp[he];refine bj.with [.keep [4]] [KB] ?_;simp[af,aG];skip
 ·have agv:p L[i]=false:=by rw[Pq,hqi];rfl
  obtain⟨D,cn,⟨d0,c0⟩,dg,dn,dy,dl,cl,⟨ce,de⟩,dw,dp⟩:=Tz p aZ fB (n:=34) (λx=>by simp) hi (λx hx=>by rw[Pq,Uq x hx];rfl) agv;have wi:IntKind.i64.wrap ((i:Int)+1)=(i:Int)+1:=wrap_i64 (by omega);have bY:¬(i:Int)= -1:=by omega
  simp[he,wi,bY];rw[←d0];have TW:L.length-(i+1)+(i+1)=L.length:=by omega
  refine fa.fN (L.length-(i+1)) (λ_=>True) [0,1,4,5,6] (λr=>[(5,.int .i64 (cn (i+1+r))),(6,.int .i64 ((i:Int)+1+r))]) (λr=>[(KB,.arr 34 (D (i+1+r)))]) [.keep [0,1,4,5,6]] ?_;simp[c0];refine⟨λr hr K hK=> ?_,λK=> ?_⟩
  ·obtain⟨j,hj⟩:∃j,j=i+1+r:=⟨_,rfl⟩
   have Bb:j<L.length:=by omega
   have hjc:(i:Int)+1+r=j:=by omega
   have hx:=dg j Bb;have hc:=hq L[j] (JaJ Bb);have dn:=dn j Bb;have dy:=dy j Bb;have cl:=cl j;have dlj:=dl j;have dpj:=dp j;have dpj1:=dp (j+1);have wj:IntKind.i64.wrap ((j:Int)+1)=(j:Int)+1:=wrap_i64 (by omega);have wc:IntKind.i64.wrap ((cn j:Int)+1)=(cn j:Int)+1:=wrap_i64 (by omega);have Pp:cn j<L.length:=by omega
   obtain⟨y,hy,hyw⟩:∃y,(D j)[cn j]? =some y∧y.width=34:=by
    have dx:cn j<(D j).length:=by rw[dlj];exact Pp
    exact⟨_,gJ dx,dw j _ (JaJ dx)⟩
   have hK:∀s2,jK s2 [0,1,4,5,6] [] []=⟨[(0,.rs KB [] 0 L.length L.length 34 .tip),(1,.fn (.func g) [] []),(4,.sl 34 [] true),(5,.int .i64 (cn (j+1))),(6,.int .i64 ((j:Int)+1))],[(KB,.arr 34 (D (j+1)))]⟩->K s2:=by
    intro s2 DM;refine hK s2 (DM.trans ?_);rw[show i+1+(r+1)=j+1 by omega,show(i:Int)+1+((r:Int)+1)=(j:Int)+1 by omega]
   rw[←hj,hjc];have hpx:p L[j]= !q L[j]:=Pq _;generalize L[j]=x at*;generalize cn j=cj at*;generalize D j=Dj at*;generalize D (j+1)=Dj1 at*;generalize cn (j+1)=cj1 at*;simp[↓an,hx,Bb,dlj,-getElem?_pos];refine aj.gA [] [] [] hc (by simp) (by simp) (by simp[ae]) ?_;simp[aQ,aI];by_cases hb:q x=true
   ·obtain⟨rfl,rfl⟩:=dn (by rw[hpx,hb];rfl);simp[hb,wj];refine⟨[.keep [0,1,4,5,6],.dr 7],?_⟩;simp[aW,bA,ae,al,af,dpj.refs];exact hK _ (by simp)
   ·have hb:q x=false:=by simpa using hb
    obtain⟨rfl,rfl⟩:=dy (by rw[hpx,hb];rfl);simp[hb,wj,wc,dlj,Pp,hy,hyw,-getElem?_pos];refine⟨[.keep [0,1,4,5,6],.dr 7],?_⟩;simp[aW,bA,ae,al,af,dpj1.refs];exact hK _ (by simp)
  ·have Bb:i+1+(L.length-(i+1))=L.length:=by omega
   have hjc:(i:Int)+1+((L.length-(i+1):Nat):Int)=L.length:=by omega
   simp only[Bb,hjc];have cl:=cl L.length;have dlj:=dl L.length;have dpj:=dp L.length;have dw:=dw L.length;have uY:(L.filter p).length≤L.length:=by rw[←ce];exact cl.2
   rw[ce];generalize D L.length=DJ at*;generalize hKk:L.filter p=Kp at*;simp[↓an,dlj,uY,-getElem?_pos];rw[de]
   obtain⟨Z,hZ,hzp,hzl⟩:∃Z,(List.replicate (L.length-Kp.length) (.st 34 [(.int .u32 0),(.ar 1 32 (zr 32 (.int .u8 0))),(.bl false)])++List.drop L.length DJ)=Z∧aB Z∧Z.length=L.length-Kp.length:=
    ⟨_,rfl,(aB.mk' λp hp=>by rw[JhZ hp];simp).append (dpj.drop _),by simp[dlj]⟩
   rw[hZ];have fL:aB (Kp.map aZ++Z):=(rv Kp).append hzp;have qm:(Kp.map aZ++Z).length=L.length:=by simp;omega
   refine bj.with [.keep [4]] [KB] ?_;simp[af,aG,fL.refs,fL.aI];rw[←hZ,JiZ (by omega),JdW];rfl
@[simp↓] def au8 {s:St} (d:Option Nat) (sz:Nat) (p:PV) (K:UD) (k:Nat) (pth:Zy) (off len aD z:Nat) (c:iO):cpQ s d sz p K (.rs k pth off len aD z c)=AY s (λbu l=>(l=[]∨bu=sz)∧V8 s d sz l K p) (.rs k pth off len aD z c):=_root_.id rfl
theorem Ym {l:Wu} (h:l.length≤1048576) (k:Key) (n:Int):ab Pg 88 [bM l,bW k,.int .i64 n] [] (λr fp=>∃(J:WG) (c:Nat),(aB J∧(bI l k n).length≤c∧c≤(bI l k n).length+J.length)∧r= .rs KB [] 0 (bI l k n).length ((bI l k n).length+J.length) 34 (.full c)∧fp=[.arr 34 ((bI l k n).map bn++J)]):=by
 refine ab.intro (aA R.qe.2) (by simp[R.qe]) ?_;have rv:∀l:Wu,aB (l.map bn):=λl=>aL jN l;have vL:uf Pg 51 [.sl 34 (l.map bn) false] 34 (l.map bn):=s7 (bytes:=48) (aA R.ir.2) (by omega) (rv l) (by simpa using h) (by omega);have hd:=aBr (L:=l) h (g:=166) (q:=λt=> !tc k n t) (v:=bW k) (w:= .int .i64 n) (by simp) (by simp) (λx _=>arA x k n);have hf:(l.filter λx=> !!tc k n x)=bI l k n:=by simp only[Bool.not_not];rfl
 rw[hf]at hd;simp[R.qe,ah,az,bM];refine aj.own 8 vL (by simp) (by simp[rv]) (rv l) (by simp) ?_;simp;refine aj.gR [8,4,5] [] [.arr 34 (l.map bn),.box (bW k),.box (.int .i64 n)] hd (by simp[af,ae]) (by simp[aG,aI]) ?_;rintro r fp ⟨J,c,⟨hJ,h1,h2⟩,rfl,rfl⟩;have fL:aB ((bI l k n).map bn++J):=(rv _).append hJ;have qm:((bI l k n).map bn++J).length=(bI l k n).length+J.length:=by simp
 have hR:∃(J':WG) (c':Nat),(aB J'∧(bI l k n).length≤c'∧c'≤(bI l k n).length+J'.length)∧(J.length=J'.length∧c=c')∧(bI l k n).map bn++J=(bI l k n).map bn++J':=⟨J,c,⟨hJ,h1,h2⟩,⟨rfl,rfl⟩,rfl⟩
 generalize hB:(bI l k n).map bn++J=B at fL qm hR⊢;refine⟨by simp[af,ae,dL,fL.refs],?_⟩;simp[aQ,aG,aI,cN,fL.aI];refine bj.with [.keep [6]] [8] ?_;simp[af,aG,fL.refs,fL.aI];exact hR
theorem arF {x:PV} {B:WG} {off len:Nat} {c:iO} (ho:0<B.length) (hl:1≤len):ab Pg 169 [.rs KB [] 0 1 1 34 .tip,.rs (KB+1) [] off len B.length 34 c] [.arr 34 [x],.arr 34 B] (λr fp=>r= .bl false∧fp=[.arr 34 [x],.arr 34 B]):=by
 intro Γ w vs hw hm lj hA;match vs,hA with
 |
  [v1,v2],hA=>
  obtain⟨h1,h2,_⟩:=hA
  have g1:get Γ.bx KB=some (.arr 34 [x]):=by rw[lj];rfl
  have g2:get Γ.bx (KB+1)=some (.arr 34 B):=by rw[lj];rfl
  obtain⟨a1,c1,e1,k1⟩:=h1.rs g1 (by simp[aU.aD])
  obtain⟨a2,c2,e2,k2⟩:=h2.rs g2 (by simp[aU.aD])
  obtain⟨_,_,r1⟩:=hm.blk _ _ g1
  obtain⟨r2w,_,r2⟩:=hm.blk _ _ g2
  unfold iD at k1 k2
  cases i1:Γ.ι KB with
  |none=>rw[i1]at k1;exact absurd k1.1 (by omega)
  |
   some b1=>
   cases i2:Γ.ι (KB+1)with
   |none=>rw[i2]at k2;exact absurd k2.1 (by omega)
   |
    some b2=>
    rw[i1]at k1 r1;rw[i2]at k2 r2
    obtain⟨p1,p2,_⟩:=k1
    obtain⟨q1,q2,_⟩:=k2
    rcases p2 with p2|rfl
    ·omega
    rcases q2 with q2|rfl
    ·omega
    obtain⟨cc1,ce1,cs1,aF3,u1,u2,u3,_⟩:=r1
    obtain⟨cc2,ce2,cs2,asT,w1,w2,w3,_⟩:=r2
    have bY:b1≠b2:=λe=>by
     have:=hm.inj KB (KB+1) b1 (by rw[g1];rfl) (by rw[g2];rfl) i1 (by rw[i2,e]);omega
    rw[←hw]at u1 w1
    have DM:cc2.size≠0:=by
     have e1:cs2.length=B.length*34:=by rw[w3.length,bD r2w]
     have e2:cc2.size=cs2.length+asT.length:=by rw[←JbX,w2];simp
     omega
    have ia:=Go.Lib.run_overlaps_apart (P:=Pg) w 31 4 94 (by kernel_rfl) 34 (λw=>run_sizeOf (by kernel_rfl)) ⟨b1,bU []+0*34,none⟩ ⟨b2,bU []+off*34,none⟩ 1 c1 len c2 bY ce1 ce2 cc1.size cc2.size (by simp[World.shape?,u1]) (by simp[World.shape?,w1]) DM (by simp[World.frozen?,u1]) (by simp[World.frozen?,u1])
    rw[e1,e2]
    refine .inr ⟨.bool false,w,?_,_,_,[.arr 34 [x],.arr 34 B],Γ,rfl,⟨rfl,rfl⟩,hw,hm,lj,jm,Le.refl Γ,WF.refl w⟩
    rw[run_callFunc_extern (fn:=(Pg.funcs[169]?).getD default) (by kernel_rfl) (by kernel_rfl) (by kernel_rfl) (by kernel_rfl) (e:=Extern.SlicesOverlaps.overlaps #[31,31] #[4]) (by kernel_rfl)]
    rw[ia]
    rfl
def TA {B:WG} {n i N:Nat} (hB:B.length=N) (hi:i<n) (hn:n+1≤N) (x:PV):
  ∃
   B1,(List.take (i+1) B++(List.take (n-i) (List.take (n+1-i) (List.drop i B))++List.drop (i+1+(n-i)) B))=B1∧B1.length=N∧(List.take i B1++x::List.drop (i+1) B1).length=N∧
   (List.take i B1++x::List.drop (i+1) B1).take (n+1)=List.take i B++x::List.drop i (List.take n B):=by
 refine⟨_,rfl,?_,?_,?_⟩
 ·simp only[JaV,lJ,JdX,hB];omega
 ·simp only[JaV,JbZ,lJ,JdX,hB];omega
 ·have e1:List.take i (List.take (i+1) B++(List.take (n-i) (List.take (n+1-i) (List.drop i B))++List.drop (i+1+(n-i)) B))=List.take i B:=by
   rw[JjV (by rw[lJ];omega),JoX,JdZ (by omega)]
  have e2:List.drop (i+1) (List.take (i+1) B++(List.take (n-i) (List.take (n+1-i) (List.drop i B))++List.drop (i+1+(n-i)) B))=List.take (n-i) (List.drop i B)++List.drop (i+1+(n-i)) B:=by
   rw[JlQ (by rw[lJ];omega),JiZ (by rw[lJ];omega),JjJ,JoX,JdZ (by omega)]
  rw[e1,e2,List.drop_take];have h1:(List.take i B).length=i:=by rw[lJ];omega
  have h2:(List.take (n-i) (List.drop i B)).length=n-i:=by rw[lJ,JdX];omega
  generalize List.take i B=P at*;generalize List.take (n-i) (List.drop i B)=Q at*;generalize List.drop (i+1+(n-i)) B=R at*;rw[show P++x::(Q++R)=(P++x::Q)++R by simp];exact List.take_left' (by simp;omega)
def O9 {B Z:WG} {n i:Nat} (hB:n≤B.length) (hi:i<n) (hZ:Z.length=n+1-i) (x:PV):
  (List.take (i+1) (List.take i (List.take i B++Z)++x::List.drop (i+1) (List.take i B++Z))++
   (List.take (n-i) (List.take (n-i) (List.drop i B))++List.drop (i+1+(n-i)) (List.take i (List.take i B++Z)++x::List.drop (i+1) (List.take i B++Z))))=List.take i B++x::List.drop i (List.take n B):=by
 have h1:(List.take i B).length=i:=by rw[lJ];omega
 rw[List.drop_take,JoX,Nat.min_self];have h2:(List.take (n-i) (List.drop i B)).length=n-i:=by rw[lJ,JdX];omega
 generalize List.take i B=P at*;generalize List.take (n-i) (List.drop i B)=Q at*;have e1:List.take i (P++Z)=P:=List.take_left' h1;have h3:(List.drop (i+1) (P++Z)).length=n-i:=by rw[JdX,JaV];omega
 rw[e1];generalize List.drop (i+1) (P++Z)=R at*
 have e2:List.take (i+1) (P++x::R)=P++[x]:=by
  rw[show P++x::R=(P++[x])++R by simp];exact List.take_left' (by simp[h1])
 have e3:List.drop (i+1+(n-i)) (P++x::R)=[]:=JiZ (by simp;omega);rw[e2,e3];simp
def n6 (L:Wu) (i:Nat) (t:cZ):Wu:=L.take i++t::L.drop i
def oO {L:Wu} {i:Nat} (t:cZ) (_:Unit) (hi:i≤L.length):(n6 L i t).length=L.length+1:=by
 simp only[n6,JaV,JbZ,lJ,JdX];omega
def arG {L:Wu} {J:WG} {c i:Nat} (hl:L.length≤1048576) (hJ:aB J) (hc:L.length+1≤c∧c≤L.length+J.length) (hi:i≤L.length) (t:cZ):
  ab Pg 92 [.rs KB [] 0 L.length (L.length+J.length) 34 (.full c),.int .i64 i,.rs (KB+1) [] 0 1 1 34 .tip] [.arr 34 (L.map bn++J),.arr 34 [bn t]] (λr fp=>∃B,(aB B∧B.length=L.length+J.length∧B.take (L.length+1)=(n6 L i t).map bn)∧r= .rs KB [] 0 (L.length+1) (L.length+J.length) 34 (.full c)∧fp=[.arr 34 B,.arr 34 [bn t]]):=by
 refine ab.intro (aA R.bp.2) (by simp[R.bp]) ?_;have rv:∀l:Wu,aB (l.map bn):=λl=>aL jN l;have qm:(L.map bn++J).length=L.length+J.length:=by simp
 have Hc:∀k,k≤L.length->(L.map bn++J).take k=(L.take k).map bn:=λk hk=>by rw[JjV (by simpa using hk),JjX]
 have fL:aB (L.map bn++J):=(rv _).append hJ;generalize L.map bn++J=B at*;by_cases hie:i=L.length
 ·subst hie;simp(disch:=omega) [R.bp,ah,az,qm];refine⟨⟨by omega,hc.2,by omega,by omega⟩,λEh=> ?_,λEh=>by omega⟩
  obtain⟨B2,hB2,vK,LL,Eo⟩:∃B2,List.take L.length B++bn t::List.drop (L.length+1) B=B2∧aB B2∧B2.length=L.length+J.length∧B2.take (L.length+1)=(n6 L L.length t).map bn:=by
   have h0:(B.take L.length).length=L.length:=by rw[lJ,qm];omega
   refine⟨_,rfl,(fL.take _).append (aB.mk' λx hx=> ?_),?_,?_⟩
   ·rcases cJ.1 hx with rfl|hx
    ·simp
    ·exact(fL.drop _).forget x hx
   ·simp only[JaV,JbZ,JdX,h0,qm];omega
   ·rw[List.take_append,tJ (by omega),h0,show L.length+1-L.length=1 by omega,Hc _ (JaQ _)];simp[n6]
  rw[hB2];refine bj.with [.keep [6]] [KB,KB+1] ?_;simp[af,al,aG,bw,vK.refs,vK.aI];exact⟨vK,LL,Eo⟩
 ·have dx:i<L.length:=by omega
  have agx:¬(i:Int)=L.length:=by omega
  have h1:¬(c:Int)<(L.length:Int)+1:=by omega
  have h2:c≤L.length+J.length∧L.length≤c:=by omega
  have h3:L.length+1≤L.length+J.length:=by omega
  have hov:=arF (x:=bn t) (B:=B) (off:=i+1) (len:=L.length-i) (c:= .full (c-(i+1))) (by omega) (by omega);rw[qm]at hov;simp(disch:=omega) [R.bp,ah,az,qm,agx,hi,h1,h2];refine⟨⟨by omega,by omega⟩,by omega,?_⟩;refine aj.gA [KB+1,KB] [] [.arr 34 [bn t],.arr 34 B] hov (by simp[af,al,fL.refs]) (by simp[aG,bw,fL.aI]) (by simp[af,ae,al,fL.refs]) ?_;have hw:IntKind.i64.wrap ((i:Int)+1)=(i:Int)+1:=wrap_i64 (by omega);have m1:min (L.length+1-i) (L.length+J.length-i)=L.length+1-i:=by omega
  simp(disch:=omega) [aQ,aG,aI,bw,(jN t).aI,qm,hw,m1,-List.length_append];obtain⟨B1,hB1,Ah,LL,Eo⟩:=TA qm dx (by omega) (bn t);rw[Hc _ (JaQ _),Hc _ hi]at Eo;have hp1:aB B1:=by rw[←hB1];exact(fL.take _).append ((((fL.drop _).take _).take _).append (fL.drop _))
  have vK:aB (List.take i B1++bn t::List.drop (i+1) B1):=(hp1.take _).append (aB.mk' λx hx=>by
   rcases cJ.1 hx with rfl|hx
   ·simp
   ·exact(hp1.drop _).forget x hx)
  rw[hB1];generalize List.take i B1++bn t::List.drop (i+1) B1=B2 at*;refine⟨⟨by omega,hi⟩,by omega,by omega,by omega,by rw[Ah],by omega,⟨by rw[Ah],by rw[Ah];omega⟩,?_⟩;refine bj.with [.keep [6]] [KB,KB+1] ?_;simp[af,al,aG,bw,vK.refs,vK.aI];exact⟨vK,LL,by rw[Eo];simp[n6,JmQ,JjX]⟩
def arH {L:Wu} {J:WG} {i:Nat} (hl:L.length≤1048576) (hJ:aB J) (hi:i≤L.length) (t:cZ):
  ab Pg 92 [.rs KB [] 0 L.length (L.length+J.length) 34 (.full L.length),.int .i64 i,.rs (KB+1) [] 0 1 1 34 .tip] [.arr 34 (L.map bn++J),.arr 34 [bn t]] (λr fp=>r= .rs (KB+2) [] 0 (L.length+1) (L.length+1) 34 .tip∧fp=[.arr 34 (L.map bn++J),.arr 34 [bn t],.arr 34 ((n6 L i t).map bn)]):=by
 refine ab.intro (aA R.bp.2) (by simp[R.bp]) ?_;have rv:∀l:Wu,aB (l.map bn):=λl=>aL jN l;have qm:(L.map bn++J).length=L.length+J.length:=by simp
 have Hc:∀k,k≤L.length->(L.map bn++J).take k=(L.take k).map bn:=λk hk=>by rw[JjV (by simpa using hk),JjX]
 have fL:aB (L.map bn++J):=(rv _).append hJ;generalize L.map bn++J=B at*;by_cases hie:i=L.length
 ·subst hie;simp(disch:=omega) [R.bp,ah,az,qm];refine⟨⟨by omega,by omega⟩,λEh=>by omega,?_⟩;have hB2:List.take L.length B++[bn t]=(n6 L L.length t).map bn:=by rw[Hc _ (JaQ _)];simp[n6]
  rw[hB2];refine bj.with [.keep [6]] [KB,KB+1,25] ?_;have Pr:=rv (n6 L L.length t);generalize (n6 L L.length t).map bn=B2 at*;simp[af,al,aG,bw,Pr.refs,Pr.aI,fL.refs,fL.aI]
 ·have dx:i<L.length:=by omega
  have agx:¬(i:Int)=L.length:=by omega
  have h1:(L.length:Int)<(L.length:Int)+1:=by omega
  have h2:(i:Int)<(L.length:Int)+1:=by omega
  have h3:(i:Int)≤(L.length:Int)+1:=by omega
  have h4:(L.length+1)*48≤140737488355328:=by omega
  have h5:L.length≤9223372036854775806:=by omega
  simp(disch:=omega) [R.bp,ah,az,qm,agx,hi,h1,h2,h3,h4,h5];refine⟨by omega,by omega,⟨by omega,by omega⟩,?_⟩;rw[O9 (by rw[qm];omega) dx (by simp) (bn t),Hc _ (JaQ _),Hc _ hi];have hI:(List.take i L).map bn++bn t::List.drop i ((List.take L.length L).map bn)=(n6 L i t).map bn:=by simp[n6,JmQ,JjX]
  rw[hI];have Pr:=rv (n6 L i t);generalize (n6 L i t).map bn=B2 at*;refine bj.with [.keep [6]] [KB,KB+1,40] ?_;simp[af,al,aG,bw,Pr.refs,Pr.aI,fL.refs,fL.aI]
theorem Fb {t:cZ}:∀ {l:Wu},(∀x∈l,ej t x=false)->iu t l=l.length
 |[],_=>rfl
 |
  x::r,h=>by
  simp only[iu,h x (by simp),fJ,if_false,JbZ]
  rw[Fb λy hy=>h y (by simp[hy])]
theorem Fc {t:cZ}:∀ {l:Wu} {i:Nat} (hi:i<l.length),(∀x∈l.take i,ej t x=false)->ej t l[i]=true->iu t l=i
 |x::r,0,hi,_,hq=>by simp only[List.getElem_cons_zero]at hq;simp only[iu,hq,if_true]
 |
  x::r,i+1,hi,h,hq=>by
  simp only[iu,h x (by simp),fJ,if_false]
  rw[Fc (i:=i) (by simpa using hi) (λy hy=>h y (by simp[hy])) (by simpa using hq)]
def aBt {l:Wu} (h:l.length≤1048575) (t:cZ):aP Pg 46 [bM l,bn t] (bM (im l t)):=by
 refine ab.intro (aA R.uU.2) (by simp[R.uU]) ?_;simp[R.uU,ah,az];refine aj.gR [] [12] [] (Ym (l:=l) (by omega) t.peer t.kind) (by simp) (by simp) ?_;rintro r fp ⟨J,c,⟨hJ,h1,h2⟩,rfl,rfl⟩;have ky:im l t=n6 (bI l t.peer t.kind) (iu t (bI l t.peer t.kind)) t:=by simp[im,n6]
 have hRl:(bI l t.peer t.kind).length≤1048575:=JgJ (JeV _ _) h;rw[ky];generalize bI l t.peer t.kind=R at*;have rv:∀l:Wu,aB (l.map bn):=λl=>aL jN l;have fL:aB (R.map bn++J):=(rv _).append hJ;have qm:(R.map bn++J).length=R.length+J.length:=by simp
 have hix:=arD (L:=R) (J:=J) (c:= .full c) (by omega) hJ (g:=90) (q:=ej t) (v:=bn t) (by simp) (λx _=>arB t x);have mV:=xY t R;have hA:=λhc:R.length+1≤c=>arG (L:=R) (J:=J) (c:=c) (i:=iu t R) (by omega) hJ ⟨hc,h2⟩ mV t;have hB:=arH (L:=R) (J:=J) (i:=iu t R) (by omega) hJ mV t;generalize hBd:R.map bn++J=B at*;refine⟨by simp[af,ae,dL,fL.refs],?_⟩;simp[aQ,aG,aI,cN,fL.aI];refine aj.gA [12,3] [] [.arr 34 B,.box (bn t)] hix (by simp[af,fL.refs]) (by simp[aG,fL.aI]) (by simp[af,ae,fL.refs]) ?_;simp[aQ,aG,aI,fL.aI];rcases wY (ej t) R with⟨he,cU⟩|⟨i,hi,he,Uq,hq⟩
 ·rw[Fb cU]at*;refine⟨λ_=>⟨qm.symm,?_⟩,λh=>by omega⟩;by_cases hcc:R.length+1≤c
  ·refine aj.gR [12,23] [] [.arr 34 B,.arr 34 [bn t]] (hA hcc) (by simp[af,al,fL.refs]) (by simp[aG,bw,fL.aI]) ?_;rintro r fp ⟨B2,⟨vK,LL,Eo⟩,rfl,rfl⟩;refine⟨by simp[af,ae,al,dL,vK.refs],?_⟩;simp[aQ,aG,aI,bw,cN,vK.aI];refine bj.plain [.keep [4],.fz 12] ?_;have hle:R.length+1≤B2.length:=by omega
   simp[vK.refs];rw[if_pos ⟨LL.symm,hle⟩,Eo];simp[bM,rv]
  ·obtain rfl:c=R.length:=by omega
   refine aj.gA [12,23] [24] [.arr 34 B,.arr 34 [bn t]] hB (by simp[af,al,fL.refs]) (by simp[aG,bw,fL.aI]) (by simp[af,ae,al,fL.refs,dL]) ?_;simp[aQ,aG,aI,bw,cN,fL.aI];refine bj.plain [.keep [4],.fz 24] ?_;simp;rw[if_pos (by rw[oO _ () mV];omega),tJ (by rw[JeW,oO _ () mV];omega)];simp[bM,rv]
 ·rw[Fc hi Uq hq]at*;refine⟨λh=>by omega,λ_=> ?_⟩;rw[he];by_cases hcc:R.length+1≤c
  ·refine aj.gR [12,23] [] [.arr 34 B,.arr 34 [bn t]] (hA hcc) (by simp[af,al,fL.refs]) (by simp[aG,bw,fL.aI]) ?_;rintro r fp ⟨B2,⟨vK,LL,Eo⟩,rfl,rfl⟩;refine⟨by simp[af,ae,al,dL,vK.refs],?_⟩;simp[aQ,aG,aI,bw,cN,vK.aI];refine bj.plain [.keep [4],.fz 12] ?_;have hle:R.length+1≤B2.length:=by omega
   simp[vK.refs];rw[if_pos ⟨LL.symm,hle⟩,Eo];simp[bM,rv]
  ·obtain rfl:c=R.length:=by omega
   refine aj.gA [12,23] [24] [.arr 34 B,.arr 34 [bn t]] hB (by simp[af,al,fL.refs]) (by simp[aG,bw,fL.aI]) (by simp[af,ae,al,fL.refs,dL]) ?_;simp[aQ,aG,aI,bw,cN,fL.aI];refine bj.plain [.keep [4],.fz 24] ?_;simp;rw[if_pos (by rw[oO _ () mV];omega),tJ (by rw[JeW,oO _ () mV];omega)];simp[bM,rv]
end Go.Ab
