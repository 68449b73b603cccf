/- Functions of the program and of the document, as the abstract reading walks them, part 8. No condition. -/
import Derived.Test.YtlcojgogfjlceaaGreatDoorEB7
import Derived.Test.YtlcojgogfjlceaaGreatDoorEB4
import Derived.Test.YtlcojgogfjlceaaGreatDoorEB5
import Derived.Test.YtlcojgogfjlceaaGreatDoorEA5
import Derived.Laws.Externs
set_option maxRecDepth 10000
set_option maxHeartbeats 1000000
set_option linter.all false
noncomputable section
namespace Go.Ab
def mP:cq->List Nat->cq
 | .seq x y,[]=> .seqm x y
 | .seq x y,0::p=> .seq (mP x p) y
 | .seq x y,_::p=> .seq x (mP y p)
 | .seqm x y,0::p=> .seqm (mP x p) y
 | .seqm x y,_::p=> .seqm x (mP y p)
 | .block i x,p=> .block i (mP x p)
 | .cond c x y,0::p=> .cond c (mP x p) y
 | .cond c x y,_::p=> .cond c x (mP y p)
 |c,_=>c
theorem amL:∀(c:cq) (p:List Nat),erase (mP c p)=erase c:=by
 intro c;induction c with
 |seq x y hx hy=>intro p;match p with|[]=>rfl|0::p=>simp[mP,erase,hx]|(n+1)::p=>simp[mP,erase,hy]
 |seqm x y hx hy=>intro p;match p with|[]=>rfl|0::p=>simp[mP,erase,hx]|(n+1)::p=>simp[mP,erase,hy]
 |block i x hx=>intro p;simp[mP,erase,hx]
 |cond c x y hx hy=>intro p;match p with|[]=>rfl|0::p=>simp[mP,erase,hx]|(n+1)::p=>simp[mP,erase,hy]
 |_=>intro p;rfl
theorem EY {own sp:List Nat} {f:FuncId} {A:cZ} (p:List Nat) (h:mX Pg own sp f=some A.er):mX Pg own sp f=some (cZ.er ⟨A.nt,A.res,mP A.code p⟩):=by
 rw[h];simp only[cZ.er,amL]
theorem N8.of {P:Program} {s:St} {x y:cq} {Q:Exit->St->Prop} {t:Tg (x,y,Q)} (M:St->Prop) (h1:aw P x (AD Q λs'=>∃c:List Cut,iR c s' M) s) (h2:∀s',M s'->aw P y Q s'):N8 P x y Q t s:=⟨M,h1,h2⟩
def RG (b:List UInt8):Bool:=by classical exact decide (WC b)
theorem RH {b:List UInt8}:RG b=true↔WC b:=by unfold RG;simp
theorem NT.pure {b:List UInt8} {r:PV} (h:NT b r):Pure r:=by
 obtain⟨x,y,L,e,rfl,_⟩:=h;simp
theorem NT.get {b:List UInt8} {r:PV} (h:NT b r):∃(x y:iG) (L e:Int),r= .tup [.st 35 [cN x,cN y,.int .i64 L],.int .i64 e]∧RG b=(decide (e=0)&&decide (L=b.length)):=by
 obtain⟨x,y,L,e,h1,h2⟩:=h;refine⟨x,y,L,e,h1,?_⟩;cases h3:RG b
 ·have h4:¬(e=0∧L=b.length):=λg=>by rw[RH.2 (h2.1 g)]at h3;cases h3
  symm;simpa using h4
 ·have h4:=h2.2 (RH.1 h3);simp[h4.1,h4.2]
def aup (n:Int):Bool:=decide (n=0)||Ja n 1000 1073741824
def auq (p:bM):Bool:=if p.fD=true then epB p.ep else PV.beq (gZ p.ep) (gZ Gr)
def aur (d:bh) (p:bM):Bool:=Ja p.zu 0 d.now&&(p.wF||decide (p.zu=0))
def aus (d:bh) (p:bM):Bool:=Ja p.zx 0 d.now&&(p.pj||(decide (p.zx=0)&&PV.beq p.rG.p LA.p))
def ady (d:bh) (p:bM):Bool:=auq p&&aup p.iH&&aur d p&&aus d p&&decide ((p.ej.length:Int)≤d.rules.tV)&&p.ej.all RG
def r3 (d:bh):Bool:=d.an.all (ady d)
theorem WD {va vb:PV} {pa pb:List Step} {la lb:List UInt8} {n:Nat} (ha:aO va pa=some (.ar 1 n (la.map u8))) (hb:aO vb pb=some (.ar 1 n (lb.map u8))) (ea:la.length=n) (eb:lb.length=n):
  ae Pg 89 [.rs KB pa 0 n 0 1 .clip,.rs (KB+1) pb 0 n 0 1 .clip] [.box va,.box vb] (λr fp=>r= .int .i64 (Ky la lb)∧fp=[.box va,.box vb]):=by
 have ta:(la.map u8).take n=la.map u8:=tJ (by simp[ea]);have tb:(lb.map u8).take n=lb.map u8:=tJ (by simp[eb])
 have h:=ae.view (args:=[.rs KB pa 0 n 0 1 .clip,.rs (KB+1) pb 0 n 0 1 .clip]) (fp:=[.box va,.box vb]) (Compare la lb false false)
  ⟨.inl (.inr ⟨KB,pa,0,n,0,1,.clip,la.map u8,rfl,by simp[get,av,ha,ta],(aF (λx=>by simp[u8]) la).refs _,by omega,rfl⟩),
   .inl (.inr ⟨KB+1,pb,0,n,0,1,.clip,lb.map u8,rfl,by simp[get,av,hb,tb],(aF (λx=>by simp[u8]) lb).refs _,by omega,rfl⟩),trivial⟩ (λr new e=>by
  obtain⟨rfl,rfl⟩:=e
  exact⟨rfl,rfl⟩)
 refine h.mono ?_;rintro r xp ⟨r0,new,⟨rfl,rfl⟩,rfl,rfl⟩;exact⟨by simp[aE],by simp⟩
def amM (a b:iG):Bool:=if a.sA=b.sA then Op.bytesLess a.ip b.ip else b.sA
def amN (p q:xt):Bool:=if PV.beq (cN p.addr) (cN q.addr)=true then decide (p.bits<q.bits)else amM p.addr q.addr
def aut (l:List vY) (i:Nat):Bool:=match l[i]?with
 |none=>false
 |
  some r=> !vZ r.D8||(match i with
  |0=>false
  |
   j+1=>match l[j]?with
   |none=>false
   |some q=> !amN q.D8 r.D8)
def auu (l:List vY):Bool:=decide (fst (aut l) l.length=l.length)&&decide ((l.length:Int)≤16)
def isP (k:Key) (p:bM):Bool:=decide (p.b8=k)
def adz (d:bh) (k:Key):Bool:=d.an.any (isP k)
def r6 (d:bh):Bool:=auu d.bQ&&d.bQ.all λr=>adz d r.peer
theorem WE (l:List UInt8) (i:Nat):(⟨l.toArray⟩:ByteArray)[i]! =l[i]! :=by
 by_cases h:i<l.length
 ·have h2:i<(⟨l.toArray⟩:ByteArray).size:=h;rw[getElem!_pos (⟨l.toArray⟩:ByteArray) i h2,getElem!_pos l i h];rfl
 ·have h2:¬i<(⟨l.toArray⟩:ByteArray).size:=h;rw[getElem!_neg (⟨l.toArray⟩:ByteArray) i h2,getElem!_neg l i h]
def Ek:List UInt8->List UInt8->Int
 |x::a,y::b=>if x=y then Ek a b else if x<y then-1 else 1
 |[],_::_=> -1
 |_::_,[]=>1
 |[],[]=>0
def RI (a b:List UInt8):Int:=
 match(List.range (min a.length b.length)).find? λi=>a[i]! !=b[i]! with
 |some i=>if a[i]! <b[i]! then-1 else 1
 |none=>if a.length<b.length then-1 else if a.length>b.length then 1 else 0
theorem L9:∀a b:List UInt8,RI a b=Ek a b
 |[],[]=>rfl
 |[],y::b=>by simp[RI,Ek]
 |x::a,[]=>by simp[RI,Ek]
 |
  x::a,y::b=>by
  have ih:=L9 a b
  unfold RI at ih⊢
  have e:min (x::a).length (y::b).length=min a.length b.length+1:=by simp only[JcQ];omega
  rw[e,List.range_succ_eq_map,List.find?_cons]
  by_cases KH:x=y
  ·subst KH
   simp only[Ek,if_true]
   rw[←ih]
   have h0:((x::a)[0]! !=(x::b)[0]!)=false:=by simp
   rw[h0]
   simp only[List.find?_map]
   have e2:((λi=>(x::a)[i]! !=(x::b)[i]!)∘Nat.succ)=λi=>a[i]! !=b[i]! :=by
    funext i;simp
   rw[e2]
   cases(List.range (min a.length b.length)).find? (λi=>a[i]! !=b[i]!)with
   |none=>simp
   |some i=>simp
  ·have h0:((x::a)[0]! !=(y::b)[0]!)=true:=by simpa using KH
   rw[h0]
   simp[Ek,KH]
theorem RJ (a b:List UInt8):Ky a b=Ek a b:=by
 rw[←L9];unfold Ky Go.Extern.BytealgCompare.cmp RI;simp only[WE];rfl
theorem Ma:∀a b:List UInt8,a.length=b.length->Ek a b=if a=b then 0 else if Op.bytesLess a b=true then-1 else 1
 |[],[],_=>rfl
 |[],_::_,h=>by simp at h
 |_::_,[],h=>by simp at h
 |
  x::a,y::b,h=>by
  have ih:=Ma a b (by simpa using h)
  by_cases KH:x=y
  ·subst KH
   have dk:¬x<x:=UInt8.lt_irrefl x
   simp only[Ek,if_true,ih,Op.bytesLess,List.cons.injEq,true_and]
   simp[dk]
  ·have:¬(x::a=y::b):=λe=>KH (by cases e;rfl)
   simp only[Ek,if_neg KH,if_neg this,Op.bytesLess]
   have hb:(x==y)=false:=by simpa using KH
   simp[hb]
theorem auv (a b:Key):Ky a.l b.l=if a=b then 0 else if Ws a b=true then-1 else 1:=by
 rw[RJ,Ma _ _ (by rw[a.h,b.h])];by_cases h:a=b
 ·subst h;simp
 ·have:¬a.l=b.l:=λe=>h (Key.ext' e);rw[if_neg h,if_neg this];rfl
theorem wof (t:cT) (k:Key) (n:Int):aL Pg 163 [.st 34 [bm t],aG k,.int .i64 n] (.bl (!nX k n t)):=by
 refine ae.intro (aC R.je.2) (by simp[R.je]) ?_;by_cases h1:t.peer=k
 ·by_cases h2:t.kind=n
  ·simp[R.je,aj,av,h1,h2];refine aA.plain [] ?_;simp[nX,h1,h2]
  ·simp[R.je,aj,av,h1,h2];refine aA.plain [] ?_;simp[nX,h1,h2]
 ·simp[R.je,aj,av,wG,h1];refine aA.plain [] ?_;simp[nX,h1]
theorem WG (a b:cT):aL Pg 252 [.st 34 [bm a],.st 34 [bm b]] (.bl (dW a b)):=by
 refine ae.intro (aC R.iq.2) (by simp[R.iq]) ?_;have g1:aO (.st 34 [bm a]) [.f 0 0,.f 1 1]=some (.ar 1 32 (a.peer.l.map u8)):=by simp[aG]
 have g2:aO (.st 34 [bm b]) [.f 0 0,.f 1 1]=some (.ar 1 32 (b.peer.l.map u8)):=by simp[aG]
 have hv:=WD g1 g2 a.peer.h b.peer.h;have p1:Pure (.st 34 [bm a]):=by simp
 have p2:Pure (.st 34 [bm b]):=by simp
 rw[auv]at hv;by_cases h1:a.at_=b.at_
 ·simp[R.iq,aj,av,h1];refine ai.gA [2,3] [] [.box (.st 34 [bm a]),.box (.st 34 [bm b])] hv (by simp[ab]) (by simp[az]) (by simp[ab,af]) ?_;simp[aI,az,aE];by_cases h2:a.peer=b.peer
  ·simp[h2];refine aA.plain [] ?_;simp[dW,h1,h2]
  ·by_cases h3:Ws a.peer b.peer=true
   ·simp[h2,h3];refine aA.plain [] ?_;simp[dW,h1,h2,h3]
   ·simp[h2,h3];refine aA.plain [] ?_;simp[dW,h1,h2,h3]
 ·simp[R.iq,aj,av,h1];refine aA.plain [] ?_;simp[dW,h1]
theorem Za (a b:cT):aL Pg 160 [bm a,bm b] (.bl (dW a b)):=by
 refine ae.intro (aC R.tG.2) (by simp[R.tG]) ?_;simp[R.tG,aj,av];refine ai.rA (WG a b) ?_;simp;refine aA.plain [] ?_;simp
theorem Y5 (t:cT) (k:Key) (n:Int):ae Pg 162 [bm t,.pt KB [] 0,.pt (KB+1) [] 0] [.box (aG k),.box (.int .i64 n)] (λr fp=>r= .bl (!nX k n t)∧fp=[.box (aG k),.box (.int .i64 n)]):=by
 refine ae.intro (aC R.oe.2) (by simp[R.oe]) ?_;simp[R.oe,aj,av];refine ai.rA (wof t k n) ?_;simp;refine aA.with [] [KB,KB+1] ?_;simp[ab,af,az,aE]
theorem amO (t u:cT):ae Pg 332 [bm u,.pt KB [] 0] [.box (bm t)] (λr fp=>r= .bl (dW t u)∧fp=[.box (bm t)]):=by
 refine ae.intro (aC R.rY.2) (by simp[R.rY]) ?_;simp[R.rY,aj,av];refine ai.rA (Za t u) ?_;simp;refine aA.with [] [KB] ?_;simp[ab,az]
def kU {α:Type} (q:α->Bool) (L:List α):Int:=match L.findIdx? q with|some i=>(i:Int)|none=> -1
theorem vL {α:Type} {q:α->Bool} {L:List α} (h:∀x∈L,q x=false):kU q L= -1:=by
 have:L.findIdx? q=none:=List.findIdx?_eq_none_iff.2 h;rw[kU,this]
theorem sD {α:Type} {q:α->Bool} {L:List α} {i:Nat} (hi:i<L.length) (h:∀x∈L.take i,q x=false) (hq:q L[i]=true):kU q L=i:=by
 have:L.findIdx? q=some i:=by
  rw[List.findIdx?_eq_some_iff_getElem];refine⟨hi,hq,λj hj=> ?_⟩;have:=h L[j] (by rw[JpQ];exact⟨j,by omega,rfl⟩);simpa using this
 rw[kU,this]
theorem tj {α:Type} (q:α->Bool) (L:List α):(kU q L= -1∧∀x∈L,q x=false)∨∃i,∃h:i<L.length,kU q L=i∧(∀x∈L.take i,q x=false)∧q L[i]=true:=by
 cases h:L.findIdx? q with
 |none=>exact .inl ⟨by rw[kU,h],List.findIdx?_eq_none_iff.1 h⟩
 |
  some i=>
  obtain⟨hi,hq,hn⟩:=List.findIdx?_eq_some_iff_getElem.1 h
  refine .inr ⟨i,hi,by rw[kU,h],λx hx=> ?_,hq⟩
  rw[JpQ]at hx
  obtain⟨j,hj,rfl⟩:=hx
  simpa using hn j (by omega)
theorem amP {L:List cT} {J:List PV} {c:ft} (hl:L.length≤1048576) (hJ:au J) {g:FuncId} {q:cT->Bool} {v:PV} {w:PV} (hv:Pure v) (hw:Pure w) (hq:∀x∈L,(ae Pg g [bm x,.pt KB [] 0,.pt (KB+1) [] 0] [aU.box v,aU.box w] (λr fp=>r= .bl (q x)∧fp=[aU.box v,aU.box w]))):
  ae Pg 253 [.rs KB [] 0 L.length (L.length+J.length) 34 c,.fn (.func g) [] [.pt (KB+1) [] 0,.pt (KB+2) [] 0]] [.arr 34 (L.map bm++J),.box v,.box w] (λr fp=>r= .int .i64 (kU q L)∧fp=[.arr 34 (L.map bm++J),.box v,.box w]):=by
 refine ae.intro (aC R.bu.2) (by simp[R.bu]) ?_;have oJ:au (L.map bm++J):=(aF iT L).append hJ;have hwl:L.length=(L.map bm).length:=by simp
 have hx:∀i,(h:i<L.length)->(L.map bm++J)[i]? =some (bm L[i]):=λi h=>by rw[List.getElem?_append_left (by simpa using h)];simp[h]
 have hlen:(L.map bm++J).length=L.length+J.length:=by simp
 generalize L.map bm++J=B at*;simp[R.bu,aj,av,hlen];refine eW.fM L.length (λi=>∀x∈L.take i,q x=false) [0,1,4,6,7,8] (λi=>[(8,.int .i64 i)]) (λ_=>[]) [.keep [0,1,4,6,7,8]] ?_;simp only[JnJ];simp;refine⟨λi hi hI K hK=> ?_,λhI K=> ?_⟩
 ·have hc:=hq L[i] (JbJ hi);have hx:=hx i hi;have wi:IntKind.i64.wrap ((i:Int)+1)=(i:Int)+1:=wrap_i64 (by omega);have hle:i<L.length+J.length:=by omega
  generalize Je:L[i]=x at*;simp[↓al,hx,hi,hlen,-getElem?_pos];refine ai.gA [KB+1,KB+2] [] [aU.box v,aU.box w] hc (by simp[ab,hv.refs,hw.refs]) (by simp[az,hv.aE,hw.aE]) (by simp[ab,af,hv.refs,hw.refs]) ?_;simp[aI,az,aE,hv.aE,hw.aE];by_cases hb:q x=true
  ·simp[hb];refine aA.with [] [KB,KB+1,KB+2] ?_;simp[ab,az,oJ.refs,oJ.aE,hv.refs,hw.refs,hv.aE,hw.aE];exact(sD hi hI (by rw[Je];exact hb)).symm
  ·have hb:q x=false:=by simpa using hb
   simp[hb,wi];refine⟨[.keep [0,1,4,6,7,8]],?_⟩;simp;refine hK _ (by simp) ?_;rw[JcZ hi,Je];intro y hy;rcases JaZ.1 hy with h|h
   ·exact hI y h
   ·simp at h;subst h;exact hb
 ·simp[↓al];refine aA.with [] [KB,KB+1,KB+2] ?_;simp[ab,az,oJ.refs,oJ.aE,hv.refs,hw.refs,hv.aE,hw.aE];exact(vL hI).symm
theorem amQ {L:List cT} {J:List PV} {c:ft} (hl:L.length≤1048576) (hJ:au J) {g:FuncId} {q:cT->Bool} {v:PV} (hv:Pure v) (hq:∀x∈L,(ae Pg g [bm x,.pt KB [] 0] [aU.box v] (λr fp=>r= .bl (q x)∧fp=[aU.box v]))):
  ae Pg 253 [.rs KB [] 0 L.length (L.length+J.length) 34 c,.fn (.func g) [] [.pt (KB+1) [] 0]] [.arr 34 (L.map bm++J),.box v] (λr fp=>r= .int .i64 (kU q L)∧fp=[.arr 34 (L.map bm++J),.box v]):=by
 refine ae.intro (aC R.bu.2) (by simp[R.bu]) ?_;have oJ:au (L.map bm++J):=(aF iT L).append hJ;have hwl:L.length=(L.map bm).length:=by simp
 have hx:∀i,(h:i<L.length)->(L.map bm++J)[i]? =some (bm L[i]):=λi h=>by rw[List.getElem?_append_left (by simpa using h)];simp[h]
 have hlen:(L.map bm++J).length=L.length+J.length:=by simp
 generalize L.map bm++J=B at*;simp[R.bu,aj,av,hlen];refine eW.fM L.length (λi=>∀x∈L.take i,q x=false) [0,1,4,6,7,8] (λi=>[(8,.int .i64 i)]) (λ_=>[]) [.keep [0,1,4,6,7,8]] ?_;simp only[JnJ];simp;refine⟨λi hi hI K hK=> ?_,λhI K=> ?_⟩
 ·have hc:=hq L[i] (JbJ hi);have hx:=hx i hi;have wi:IntKind.i64.wrap ((i:Int)+1)=(i:Int)+1:=wrap_i64 (by omega);have hle:i<L.length+J.length:=by omega
  generalize Je:L[i]=x at*;simp[↓al,hx,hi,hlen,-getElem?_pos];refine ai.gA [KB+1] [] [aU.box v] hc (by simp[ab,hv.refs]) (by simp[az,hv.aE]) (by simp[ab,af,hv.refs]) ?_;simp[aI,az,aE,hv.aE];by_cases hb:q x=true
  ·simp[hb];refine aA.with [] [KB,KB+1] ?_;simp[ab,az,oJ.refs,oJ.aE,hv.refs,hv.aE];exact(sD hi hI (by rw[Je];exact hb)).symm
  ·have hb:q x=false:=by simpa using hb
   simp[hb,wi];refine⟨[.keep [0,1,4,6,7,8]],?_⟩;simp;refine hK _ (by simp) ?_;rw[JcZ hi,Je];intro y hy;rcases JaZ.1 hy with h|h
   ·exact hI y h
   ·simp at h;subst h;exact hb
 ·simp[↓al];refine aA.with [] [KB,KB+1] ?_;simp[ab,az,oJ.refs,oJ.aE,hv.refs,hv.aE];exact(vL hI).symm
theorem dE (sz:Nat) (j:Nat):au (List.replicate j (G0 sz)):=au.mk' λp hp=>by
 rw[JlW hp];exact au.st (au.mk' λp hp=>by rw[JlW hp];simp) sz
def BP {α:Type} (p:α->Bool) (L:List α) (j:Nat):List α:=(L.take j).filter p++L.drop ((L.take j).filter p).length
theorem BQ {α:Type} (p:α->Bool) (L:List α) (j:Nat):((L.take j).filter p).length≤j∧((L.take j).filter p).length≤L.length:=by
 have:=JfZ p (L.take j);rw[lJ]at this;omega
theorem KA {α:Type} (p:α->Bool) (L:List α) (j:Nat):(BP p L j).length=L.length:=by
 have:=BQ p L j;simp only[BP,JaJ,JbV];omega
theorem Fh {α:Type} {p:α->Bool} {L:List α} {i:Nat} (hi:i<L.length) (h:∀x∈L.take i,p x=true) (hq:p L[i]=false):((L.take (i+1)).filter p).length=i∧BP p L (i+1)=L:=by
 have e:(L.take (i+1)).filter p=L.take i:=by
  rw[mC p hi,hq];simp only[fJ,if_false,JhQ];exact JfX.2 h
 have hl:(L.take i).length=i:=by rw[lJ];omega
 refine⟨by rw[e,hl],?_⟩;rw[BP,e,hl,JcJ]
theorem WH {α:Type} (p:α->Bool) {L:List α} {j:Nat} (hj:j<L.length):(BP p L j)[j]? =some L[j]:=by
 have:=BQ p L j;rw[BP,List.getElem?_append_right this.1,List.getElem?_drop,show((L.take j).filter p).length+(j-((L.take j).filter p).length)=j by omega,gJ hj]
theorem RK {α:Type} {p:α->Bool} {L:List α} {j:Nat} (hj:j<L.length) (h:p L[j]=false):(L.take (j+1)).filter p=(L.take j).filter p∧BP p L (j+1)=BP p L j:=by
 have e:(L.take (j+1)).filter p=(L.take j).filter p:=by rw[mC p hj,h];simp
 exact⟨e,by rw[BP,BP,e]⟩
theorem Mb {α:Type} {p:α->Bool} {L:List α} {j:Nat} (hj:j<L.length) (h:p L[j]=true):((L.take (j+1)).filter p).length=((L.take j).filter p).length+1∧(BP p L j).set ((L.take j).filter p).length L[j]=BP p L (j+1):=by
 have e:(L.take (j+1)).filter p=(L.take j).filter p++[L[j]]:=by rw[mC p hj,h];simp
 have hc:=BQ p L j;refine⟨by rw[e];simp,?_⟩;rw[BP,BP,e,JsW _ _ (JaQ _),Nat.sub_self,List.drop_eq_getElem_cons (by omega),JqW];simp
theorem WJ {α:Type} (p:α->Bool) (L:List α):(L.take L.length).filter p=L.filter p∧(BP p L L.length).take (L.filter p).length=L.filter p:=by
 rw[JcX];refine⟨rfl,?_⟩;rw[BP,JcX,List.take_left]
theorem P8 {α:Type} (p:α->Bool) (e:α->PV) (he:∀x,Pure (e x)) {n:Nat} (hw:∀x,(e x).width=n) {L:List α} {i:Nat} (hi:i<L.length) (h:∀x∈L.take i,p x=true) (hq:p L[i]=false):
  ∃
   (D:Nat->List PV) (cn:Nat->Nat),(D (i+1)=L.map e∧cn (i+1)=i)∧(∀j (h:j<L.length),(D j)[j]? =some (e L[j]))∧(∀j (h:j<L.length),p L[j]=false->D (j+1)=D j∧cn (j+1)=cn j)∧
   (∀j (h:j<L.length),p L[j]=true->(D j).set (cn j) (e L[j])=D (j+1)∧cn (j+1)=cn j+1)∧(∀j,(D j).length=L.length)∧(∀j,cn j≤j∧cn j≤L.length)∧
   (cn L.length=(L.filter p).length∧(D L.length).take (L.filter p).length=(L.filter p).map e)∧(∀j,∀x∈D j,x.width=n)∧(∀j,au (D j)):=by
 refine⟨λj=>(BP p L j).map e,λj=>((L.take j).filter p).length,⟨by show(BP p L (i+1)).map e=_;rw[(Fh hi h hq).2],(Fh hi h hq).1⟩,λj h=> ?_,λj h hp=> ?_,λj h hp=> ?_,λj=> ?_,λj=>BQ p L j,?_,λj x hx=> ?_,λj=>au.map he _⟩
 ·show((BP p L j).map e)[j]? =_;rw[List.getElem?_map,WH p h];rfl
 ·exact⟨by show(BP p L (j+1)).map e=_;rw[(RK h hp).2],by show((L.take (j+1)).filter p).length=_;rw[(RK h hp).1]⟩
 ·refine⟨?_,(Mb h hp).1⟩;show((BP p L j).map e).set _ _=(BP p L (j+1)).map e;rw[←(Mb h hp).2,JfJ]
 ·show((BP p L j).map e).length=_;rw[JaX,KA]
 ·have:=WJ p L;refine⟨by show((L.take L.length).filter p).length=_;rw[this.1],?_⟩;show((BP p L L.length).map e).take _=_;rw[←JfQ,this.2]
 ·obtain⟨y,_,rfl⟩:=JgX.1 hx;exact hw y
theorem ali {L:List cT} (hl:L.length≤1048576) {g:FuncId} {q:cT->Bool} {v:PV} {w:PV} (hv:Pure v) (hw:Pure w) (hq:∀x∈L,(ae Pg g [bm x,.pt KB [] 0,.pt (KB+1) [] 0] [aU.box v,aU.box w] (λr fp=>r= .bl (q x)∧fp=[aU.box v,aU.box w]))):
  ae Pg 161 [.rs KB [] 0 L.length L.length 34 .tip,.fn (.func g) [] [.pt (KB+1) [] 0,.pt (KB+2) [] 0]] [.arr 34 (L.map bm),.box v,.box w] (λr fp=>∃(J:List PV) (c:Nat),(au J∧(L.filter λx=> !q x).length≤c∧c≤(L.filter λx=> !q x).length+J.length)∧r= .rs KB [] 0 (L.filter λx=> !q x).length ((L.filter λx=> !q x).length+J.length) 34 (.full c)∧fp=[.arr 34 ((L.filter λx=> !q x).map bm++J),.box v,.box w]):=by
 obtain⟨p,N3⟩:∃p:cT->Bool,∀x,p x= !q x:=⟨_,λ_=>rfl⟩
 rw[show(λx=> !q x)=p from funext λx=>(N3 x).symm];refine ae.intro (aC R.dj.2) (by simp[R.dj]) ?_;have nG:∀l:List cT,au (l.map bm):=λl=>aF iT l;have hix:=amP (c:= .tip) (J:=[]) hl vI hv hw hq;simp only[JhQ,List.length_nil,JnX]at hix;simp[R.dj,aj,av];refine ai.gA [KB,KB+1,KB+2] [] [.arr 34 (L.map bm),.box v,.box w] hix (by simp[ab,hv.refs,hw.refs]) (by simp[az,hv.aE,hw.aE]) (by simp[ab,af,hv.refs,hw.refs]) ?_;simp[aI,az,aE,hv.aE,hw.aE];rcases tj q L with⟨he,cy⟩|⟨i,hi,he,Se,hqi⟩
 ·have hK:L.filter p=L:=JfX.2 λx hx=>by rw[N3,cy x hx];rfl
  rw[hK];simp[he];refine aA.with [.keep [4],.mt 4] [KB,KB+1,KB+2] ?_;simp[ab,az,hv.refs,hw.refs,hv.aE,hw.aE];intro c j On;exact⟨(dE 34 j).refs _,List.replicate j (G0 34),c,⟨dE 34 j,by rcases On with h|⟨_,_,h⟩<;>simp[h],by rw[JcW];omega⟩,by simp,((nG L).append (dE 34 j)).aE _⟩
 ·have aej:p L[i]=false:=by rw[N3,hqi];rfl
  obtain⟨D,cn,⟨d0,c0⟩,dg,dn,dy,dl,cl,⟨ce,de⟩,dw,dp⟩:=P8 p bm iT (n:=34) (λx=>by simp) hi (λx hx=>by rw[N3,Se x hx];rfl) aej;have wi:IntKind.i64.wrap ((i:Int)+1)=(i:Int)+1:=wrap_i64 (by omega);have cS:¬(i:Int)= -1:=by omega
  simp[he,wi,cS];rw[←d0];have RQ:L.length-(i+1)+(i+1)=L.length:=by omega
  refine eW.fM (L.length-(i+1)) (λ_=>True) [0,1,4,5,6] (λr=>[(5,.int .i64 (cn (i+1+r))),(6,.int .i64 ((i:Int)+1+r))]) (λr=>[(KB,.arr 34 (D (i+1+r)))]) [.keep [0,1,4,5,6]] ?_;simp[c0];refine⟨λr hr K hK=> ?_,λK=> ?_⟩
  ·obtain⟨j,hj⟩:∃j,j=i+1+r:=⟨_,rfl⟩
   have Bp:j<L.length:=by omega
   have Td:(i:Int)+1+r=j:=by omega
   have hx:=dg j Bp;have hc:=hq L[j] (JbJ Bp);have dn:=dn j Bp;have dy:=dy j Bp;have cl:=cl j;have dlj:=dl j;have dpj:=dp j;have dpj1:=dp (j+1);have wj:IntKind.i64.wrap ((j:Int)+1)=(j:Int)+1:=wrap_i64 (by omega);have wc:IntKind.i64.wrap ((cn j:Int)+1)=(cn j:Int)+1:=wrap_i64 (by omega);have N1:cn j<L.length:=by omega
   obtain⟨y,hy,hyw⟩:∃y,(D j)[cn j]? =some y∧y.width=34:=by
    have dk:cn j<(D j).length:=by rw[dlj];exact N1
    exact⟨_,gJ dk,dw j _ (JbJ dk)⟩
   have hK:∀s2,gm s2 [0,1,4,5,6] [] []=⟨[(0,.rs KB [] 0 L.length L.length 34 .tip),(1,.fn (.func g) [] [.pt (KB+1) [] 0,.pt (KB+2) [] 0]),(4,.sl 34 [] true),(5,.int .i64 (cn (j+1))),(6,.int .i64 ((j:Int)+1))],[(KB,.arr 34 (D (j+1))),(KB+1,.box v),(KB+2,.box w)]⟩->K s2:=by
    intro s2 Bm;refine hK s2 (Bm.trans ?_);rw[show i+1+(r+1)=j+1 by omega,show(i:Int)+1+((r:Int)+1)=(j:Int)+1 by omega]
   rw[←hj,Td];have Tc:p L[j]= !q L[j]:=N3 _;generalize L[j]=x at*;generalize cn j=cj at*;generalize D j=Dj at*;generalize D (j+1)=Dj1 at*;generalize cn (j+1)=cj1 at*;simp[↓al,hx,Bp,dlj,-getElem?_pos];refine ai.gA [KB+1,KB+2] [] [aU.box v,aU.box w] hc (by simp[ab,hv.refs,hw.refs]) (by simp[az,hv.aE,hw.aE]) (by simp[ab,af,hv.refs,hw.refs]) ?_;simp[aI,az,aE,hv.aE,hw.aE];by_cases hb:q x=true
   ·obtain⟨rfl,rfl⟩:=dn (by rw[Tc,hb];rfl);simp[hb,wj];refine⟨[.keep [0,1,4,5,6],.dr 7],?_⟩;simp[bn,bU,af,ah,ab,dpj.refs,hv.refs,hw.refs];exact hK _ (by simp)
   ·have hb:q x=false:=by simpa using hb
    obtain⟨rfl,rfl⟩:=dy (by rw[Tc,hb];rfl);simp[hb,wj,wc,dlj,N1,hy,hyw,-getElem?_pos];refine⟨[.keep [0,1,4,5,6],.dr 7],?_⟩;simp[bn,bU,af,ah,ab,dpj1.refs,hv.refs,hw.refs];exact hK _ (by simp)
  ·have Bp:i+1+(L.length-(i+1))=L.length:=by omega
   have Td:(i:Int)+1+((L.length-(i+1):Nat):Int)=L.length:=by omega
   simp only[Bp,Td];have cl:=cl L.length;have dlj:=dl L.length;have dpj:=dp L.length;have dw:=dw L.length;have qF:(L.filter p).length≤L.length:=by rw[←ce];exact cl.2
   rw[ce];generalize D L.length=DJ at*;generalize hKk:L.filter p=Kp at*;simp[↓al,dlj,qF,-getElem?_pos];rw[de]
   obtain⟨Z,hZ,W7,hzl⟩:∃Z,(List.replicate (L.length-Kp.length) (.st 34 [(.int .i64 0),(.ar 1 32 (zr 32 (.int .u8 0))),(.int .i64 0)])++List.drop L.length DJ)=Z∧au Z∧Z.length=L.length-Kp.length:=
    ⟨_,rfl,(au.mk' λp hp=>by rw[JlW hp];simp).append (dpj.drop _),by simp[dlj]⟩
   rw[hZ];have ef:au (Kp.map bm++Z):=(nG Kp).append W7;have lN:(Kp.map bm++Z).length=L.length:=by simp;omega
   refine aA.with [.keep [4],.mt 4] [KB,KB+1,KB+2] ?_;simp[lN,ab,az,hv.refs,hw.refs,hv.aE,hw.aE];intro c j On;have hzu:=W7.append (dE 34 j);refine⟨⟨W7.refs _,(dE 34 j).refs _⟩,Z++List.replicate j (G0 34),c,⟨hzu,?_,?_⟩,⟨by simp;omega,rfl⟩,((nG Kp).append hzu).aE _⟩
   ·rcases On with h|⟨_,_,h⟩
    ·omega
    ·simp[h]
   ·simp only[JaJ,JcW];omega
end Go.Ab
