/- Functions of the program and of the document, as the abstract reading walks them, part 8. No condition. -/
import Derived.Test.YtlcojgogfjlceaaGreatDoorB7
import Derived.Test.YtlcojgogfjlceaaGreatDoorB4
import Derived.Test.YtlcojgogfjlceaaGreatDoorB5
import Derived.Test.YtlcojgogfjlceaaGreatDoorA5
import Derived.Laws.Externs
set_option maxRecDepth 10000
set_option maxHeartbeats 1000000
set_option linter.all false
noncomputable section
namespace Go.Ab
def mP:b7->List Nat->b7
 | .seq x y,[]=> .seqm x y
 | .seq x y,0::p=> .seq (mP x p) y
 | .seq x y,_::p=> .seq x (mP y p)
 | .seqm x y,0::p=> .seqm (mP x p) y
 | .seqm x y,_::p=> .seqm x (mP y p)
 | .block i x,p=> .block i (mP x p)
 | .cond c x y,0::p=> .cond c (mP x p) y
 | .cond c x y,_::p=> .cond c x (mP y p)
 |c,_=>c
theorem ani:∀(c:b7) (p:List Nat),erase (mP c p)=erase c:=by
 intro c;induction c with
 |seq x y hx hy=>intro p;match p with|[]=>rfl|0::p=>simp[mP,erase,hx]|(n+1)::p=>simp[mP,erase,hy]
 |seqm x y hx hy=>intro p;match p with|[]=>rfl|0::p=>simp[mP,erase,hx]|(n+1)::p=>simp[mP,erase,hy]
 |block i x hx=>intro p;simp[mP,erase,hx]
 |cond c x y hx hy=>intro p;match p with|[]=>rfl|0::p=>simp[mP,erase,hx]|(n+1)::p=>simp[mP,erase,hy]
 |_=>intro p;rfl
theorem E7 {own sp:List Nat} {f:FuncId} {A:cM} (p:List Nat) (h:nk Pg own sp f=some A.er):nk Pg own sp f=some (cM.er ⟨A.nt,A.res,mP A.code p⟩):=by
 rw[h];simp only[cM.er,ani]
theorem SE.of {P:Program} {s:St} {x y:b7} {Q:Exit->St->Prop} {t:Tg (x,y,Q)} (M:St->Prop) (h1:aw P x (AN Q λs'=>∃c:List Cut,iR c s' M) s) (h2:∀s',M s'->aw P y Q s'):SE P x y Q t s:=⟨M,h1,h2⟩
def RX (b:List UInt8):Bool:=by classical exact decide (W4 b)
theorem RY {b:List UInt8}:RX b=true↔W4 b:=by unfold RX;simp
theorem Oc.pure {b:List UInt8} {r:PV} (h:Oc b r):Pure r:=by
 obtain⟨x,y,L,e,rfl,_⟩:=h;simp
theorem Oc.get {b:List UInt8} {r:PV} (h:Oc b r):∃(x y:iI) (L e:Int),r= .tup [.st 35 [cP x,cP y,.int .i64 L],.int .i64 e]∧RX b=(decide (e=0)&&decide (L=b.length)):=by
 obtain⟨x,y,L,e,h1,h2⟩:=h;refine⟨x,y,L,e,h1,?_⟩;cases h3:RX b
 ·have h4:¬(e=0∧L=b.length):=λg=>by rw[RY.2 (h2.1 g)]at h3;cases h3
  symm;simpa using h4
 ·have h4:=h2.2 (RY.1 h3);simp[h4.1,h4.2]
def auY (n:Int):Bool:=decide (n=0)||inR n 1000 1073741824
def auZ (p:bO):Bool:=if p.iU=true then epB p.ep else PV.beq (ic p.ep) (ic IS)
def au0 (d:bc) (p:bO):Bool:=inR p.Da 0 d.now&&(p.AS||decide (p.Da=0))
def au1 (d:bc) (p:bO):Bool:=inR p.Db 0 d.now&&(p.rq||(decide (p.Db=0)&&PV.beq p.tE.p LC.p))
def adU (d:bc) (p:bO):Bool:=auZ p&&auY p.jg&&au0 d p&&au1 d p&&decide ((p.dI.length:Int)≤d.rules.vh)&&p.dI.all RX
def r3 (d:bc):Bool:=d.au.all (adU d)
theorem W5 {va vb:PV} {pa pb:List Step} {la lb:List UInt8} {n:Nat} (ha:aM va pa=some (.ar 1 n (la.map u8))) (hb:aM vb pb=some (.ar 1 n (lb.map u8))) (ea:la.length=n) (eb:lb.length=n):
  ae Pg 89 [.rs KB pa 0 n 0 1 .clip,.rs (KB+1) pb 0 n 0 1 .clip] [.box va,.box vb] (λr fp=>r= .int .i64 (Kz la lb)∧fp=[.box va,.box vb]):=by
 have ta:(la.map u8).take n=la.map u8:=tJ (by simp[ea]);have tb:(lb.map u8).take n=lb.map u8:=tJ (by simp[eb])
 have h:=ae.view (args:=[.rs KB pa 0 n 0 1 .clip,.rs (KB+1) pb 0 n 0 1 .clip]) (fp:=[.box va,.box vb]) (Compare la lb false false)
  ⟨.inl (.inr ⟨KB,pa,0,n,0,1,.clip,la.map u8,rfl,by simp[get,av,ha,ta],(aF (λx=>by simp[u8]) la).refs _,by omega,rfl⟩),
   .inl (.inr ⟨KB+1,pb,0,n,0,1,.clip,lb.map u8,rfl,by simp[get,av,hb,tb],(aF (λx=>by simp[u8]) lb).refs _,by omega,rfl⟩),trivial⟩ (λr new e=>by
  obtain⟨rfl,rfl⟩:=e
  exact⟨rfl,rfl⟩)
 refine h.mono ?_;rintro r xD ⟨r0,new,⟨rfl,rfl⟩,rfl,rfl⟩;exact⟨by simp[aE],by simp⟩
def anj (a b:iI):Bool:=if a.sO=b.sO then Op.bytesLess a.ip b.ip else b.sO
def ank (p q:xG):Bool:=if PV.beq (cP p.addr) (cP q.addr)=true then decide (p.bits<q.bits)else anj p.addr q.addr
def au2 (l:List vi) (i:Nat):Bool:=match l[i]?with
 |none=>false
 |
  some r=> !wD r.D1||(match i with
  |0=>false
  |
   j+1=>match l[j]?with
   |none=>false
   |some q=> !ank q.D1 r.D1)
def au3 (l:List vi):Bool:=decide (fst (au2 l) l.length=l.length)&&decide ((l.length:Int)≤16)
def isP (k:Key) (p:bO):Bool:=decide (p.cH=k)
def adV (d:bc) (k:Key):Bool:=d.au.any (isP k)
def r6 (d:bc):Bool:=au3 d.bH&&d.bH.all λr=>adV d r.peer
theorem W6 (l:List UInt8) (i:Nat):(⟨l.toArray⟩:ByteArray)[i]! =l[i]! :=by
 by_cases h:i<l.length
 ·have h2:i<(⟨l.toArray⟩:ByteArray).size:=h;rw[getElem!_pos (⟨l.toArray⟩:ByteArray) i h2,getElem!_pos l i h];rfl
 ·have h2:¬i<(⟨l.toArray⟩:ByteArray).size:=h;rw[getElem!_neg (⟨l.toArray⟩:ByteArray) i h2,getElem!_neg l i h]
def Et:List UInt8->List UInt8->Int
 |x::a,y::b=>if x=y then Et a b else if x<y then-1 else 1
 |[],_::_=> -1
 |_::_,[]=>1
 |[],[]=>0
def RZ (a b:List UInt8):Int:=
 match(List.range (min a.length b.length)).find? λi=>a[i]! !=b[i]! with
 |some i=>if a[i]! <b[i]! then-1 else 1
 |none=>if a.length<b.length then-1 else if a.length>b.length then 1 else 0
theorem Mc:∀a b:List UInt8,RZ a b=Et a b
 |[],[]=>rfl
 |[],y::b=>by simp[RZ,Et]
 |x::a,[]=>by simp[RZ,Et]
 |
  x::a,y::b=>by
  have ih:=Mc a b
  unfold RZ at ih⊢
  have e:min (x::a).length (y::b).length=min a.length b.length+1:=by simp only[JcX];omega
  rw[e,List.range_succ_eq_map,List.find?_cons]
  by_cases KI:x=y
  ·subst KI
   simp only[Et,if_true]
   rw[←ih]
   have h0:((x::a)[0]! !=(x::b)[0]!)=false:=by simp
   rw[h0]
   simp only[List.find?_map]
   have e2:((λi=>(x::a)[i]! !=(x::b)[i]!)∘Nat.succ)=λi=>a[i]! !=b[i]! :=by
    funext i;simp
   rw[e2]
   cases(List.range (min a.length b.length)).find? (λi=>a[i]! !=b[i]!)with
   |none=>simp
   |some i=>simp
  ·have h0:((x::a)[0]! !=(y::b)[0]!)=true:=by simpa using KI
   rw[h0]
   simp[Et,KI]
theorem R0 (a b:List UInt8):Kz a b=Et a b:=by
 rw[←Mc];unfold Kz Go.Extern.BytealgCompare.cmp RZ;simp only[W6];rfl
theorem Me:∀a b:List UInt8,a.length=b.length->Et a b=if a=b then 0 else if Op.bytesLess a b=true then-1 else 1
 |[],[],_=>rfl
 |[],_::_,h=>by simp at h
 |_::_,[],h=>by simp at h
 |
  x::a,y::b,h=>by
  have ih:=Me a b (by simpa using h)
  by_cases KI:x=y
  ·subst KI
   have dq:¬x<x:=UInt8.lt_irrefl x
   simp only[Et,if_true,ih,Op.bytesLess,List.cons.injEq,true_and]
   simp[dq]
  ·have:¬(x::a=y::b):=λe=>KI (by cases e;rfl)
   simp only[Et,if_neg KI,if_neg this,Op.bytesLess]
   have hb:(x==y)=false:=by simpa using KI
   simp[hb]
theorem au4 (a b:Key):Kz a.l b.l=if a=b then 0 else if WN a b=true then-1 else 1:=by
 rw[R0,Me _ _ (by rw[a.h,b.h])];by_cases h:a=b
 ·subst h;simp
 ·have:¬a.l=b.l:=λe=>h (Key.ext' e);rw[if_neg h,if_neg this];rfl
theorem wof (t:cV) (k:Key) (n:Int):aK Pg 163 [.st 34 [bj t],aG k,.int .i64 n] (.bl (!oE k n t)):=by
 refine ae.intro (aC R.jf.2) (by simp[R.jf]) ?_;by_cases h1:t.peer=k
 ·by_cases h2:t.kind=n
  ·simp[R.jf,aj,av,h1,h2];refine aA.plain [] ?_;simp[oE,h1,h2]
  ·simp[R.jf,aj,av,h1,h2];refine aA.plain [] ?_;simp[oE,h1,h2]
 ·simp[R.jf,aj,av,wT,h1];refine aA.plain [] ?_;simp[oE,h1]
theorem W7 (a b:cV):aK Pg 252 [.st 34 [bj a],.st 34 [bj b]] (.bl (eg a b)):=by
 refine ae.intro (aC R.iu.2) (by simp[R.iu]) ?_;have g1:aM (.st 34 [bj a]) [.f 0 0,.f 1 1]=some (.ar 1 32 (a.peer.l.map u8)):=by simp[aG]
 have g2:aM (.st 34 [bj b]) [.f 0 0,.f 1 1]=some (.ar 1 32 (b.peer.l.map u8)):=by simp[aG]
 have hv:=W5 g1 g2 a.peer.h b.peer.h;have p1:Pure (.st 34 [bj a]):=by simp
 have p2:Pure (.st 34 [bj b]):=by simp
 rw[au4]at hv;by_cases h1:a.at_=b.at_
 ·simp[R.iu,aj,av,h1];refine ai.gA [2,3] [] [.box (.st 34 [bj a]),.box (.st 34 [bj b])] hv (by simp[ab]) (by simp[az]) (by simp[ab,af]) ?_;simp[aI,az,aE];by_cases h2:a.peer=b.peer
  ·simp[h2];refine aA.plain [] ?_;simp[eg,h1,h2]
  ·by_cases h3:WN a.peer b.peer=true
   ·simp[h2,h3];refine aA.plain [] ?_;simp[eg,h1,h2,h3]
   ·simp[h2,h3];refine aA.plain [] ?_;simp[eg,h1,h2,h3]
 ·simp[R.iu,aj,av,h1];refine aA.plain [] ?_;simp[eg,h1]
theorem ZA (a b:cV):aK Pg 160 [bj a,bj b] (.bl (eg a b)):=by
 refine ae.intro (aC R.uc.2) (by simp[R.uc]) ?_;simp[R.uc,aj,av];refine ai.rA (W7 a b) ?_;simp;refine aA.plain [] ?_;simp
theorem Zv (t:cV) (k:Key) (n:Int):ae Pg 162 [bj t,.pt KB [] 0,.pt (KB+1) [] 0] [.box (aG k),.box (.int .i64 n)] (λr fp=>r= .bl (!oE k n t)∧fp=[.box (aG k),.box (.int .i64 n)]):=by
 refine ae.intro (aC R.oo.2) (by simp[R.oo]) ?_;simp[R.oo,aj,av];refine ai.rA (wof t k n) ?_;simp;refine aA.with [] [KB,KB+1] ?_;simp[ab,af,az,aE]
theorem anl (t u:cV):ae Pg 332 [bj u,.pt KB [] 0] [.box (bj t)] (λr fp=>r= .bl (eg t u)∧fp=[.box (bj t)]):=by
 refine ae.intro (aC R.sn.2) (by simp[R.sn]) ?_;simp[R.sn,aj,av];refine ai.rA (ZA t u) ?_;simp;refine aA.with [] [KB] ?_;simp[ab,az]
def lQ {α:Type} (q:α->Bool) (L:List α):Int:=match L.findIdx? q with|some i=>(i:Int)|none=> -1
theorem we {α:Type} {q:α->Bool} {L:List α} (h:∀x∈L,q x=false):lQ q L= -1:=by
 have:L.findIdx? q=none:=List.findIdx?_eq_none_iff.2 h;rw[lQ,this]
theorem sR {α:Type} {q:α->Bool} {L:List α} {i:Nat} (hi:i<L.length) (h:∀x∈L.take i,q x=false) (hq:q L[i]=true):lQ q L=i:=by
 have:L.findIdx? q=some i:=by
  rw[List.findIdx?_eq_some_iff_getElem];refine⟨hi,hq,λj hj=> ?_⟩;have:=h L[j] (by rw[JoW];exact⟨j,by omega,rfl⟩);simpa using this
 rw[lQ,this]
theorem tI {α:Type} (q:α->Bool) (L:List α):(lQ q L= -1∧∀x∈L,q x=false)∨∃i,∃h:i<L.length,lQ q L=i∧(∀x∈L.take i,q x=false)∧q L[i]=true:=by
 cases h:L.findIdx? q with
 |none=>exact .inl ⟨by rw[lQ,h],List.findIdx?_eq_none_iff.1 h⟩
 |
  some i=>
  obtain⟨hi,hq,hn⟩:=List.findIdx?_eq_some_iff_getElem.1 h
  refine .inr ⟨i,hi,by rw[lQ,h],λx hx=> ?_,hq⟩
  rw[JoW]at hx
  obtain⟨j,hj,rfl⟩:=hx
  simpa using hn j (by omega)
theorem anm {L:List cV} {J:List PV} {c:fB} (hl:L.length≤1048576) (hJ:an J) {g:FuncId} {q:cV->Bool} {v:PV} {w:PV} (hv:Pure v) (hw:Pure w) (hq:∀x∈L,(ae Pg g [bj x,.pt KB [] 0,.pt (KB+1) [] 0] [aV.box v,aV.box w] (λr fp=>r= .bl (q x)∧fp=[aV.box v,aV.box w]))):
  ae Pg 253 [.rs KB [] 0 L.length (L.length+J.length) 34 c,.fn (.func g) [] [.pt (KB+1) [] 0,.pt (KB+2) [] 0]] [.arr 34 (L.map bj++J),.box v,.box w] (λr fp=>r= .int .i64 (lQ q L)∧fp=[.arr 34 (L.map bj++J),.box v,.box w]):=by
 refine ae.intro (aC R.bu.2) (by simp[R.bu]) ?_;have oR:an (L.map bj++J):=(aF iT L).append hJ;have hwl:L.length=(L.map bj).length:=by simp
 have hx:∀i,(h:i<L.length)->(L.map bj++J)[i]? =some (bj L[i]):=λi h=>by rw[List.getElem?_append_left (by simpa using h)];simp[h]
 have hlen:(L.map bj++J).length=L.length+J.length:=by simp
 generalize L.map bj++J=B at*;simp[R.bu,aj,av,hlen];refine eW.fD L.length (λi=>∀x∈L.take i,q x=false) [0,1,4,6,7,8] (λi=>[(8,.int .i64 i)]) (λ_=>[]) [.keep [0,1,4,6,7,8]] ?_;simp only[JnJ];simp;refine⟨λi hi hI K hK=> ?_,λhI K=> ?_⟩
 ·have hc:=hq L[i] (JbQ hi);have hx:=hx i hi;have wi:IntKind.i64.wrap ((i:Int)+1)=(i:Int)+1:=wrap_i64 (by omega);have hle:i<L.length+J.length:=by omega
  generalize Hf:L[i]=x at*;simp[↓al,hx,hi,hlen,-getElem?_pos];refine ai.gA [KB+1,KB+2] [] [aV.box v,aV.box w] hc (by simp[ab,hv.refs,hw.refs]) (by simp[az,hv.aE,hw.aE]) (by simp[ab,af,hv.refs,hw.refs]) ?_;simp[aI,az,aE,hv.aE,hw.aE];by_cases hb:q x=true
  ·simp[hb];refine aA.with [] [KB,KB+1,KB+2] ?_;simp[ab,az,oR.refs,oR.aE,hv.refs,hw.refs,hv.aE,hw.aE];exact(sR hi hI (by rw[Hf];exact hb)).symm
  ·have hb:q x=false:=by simpa using hb
   simp[hb,wi];refine⟨[.keep [0,1,4,6,7,8]],?_⟩;simp;refine hK _ (by simp) ?_;rw[JcZ hi,Hf];intro y hy;rcases JaZ.1 hy with h|h
   ·exact hI y h
   ·simp at h;subst h;exact hb
 ·simp[↓al];refine aA.with [] [KB,KB+1,KB+2] ?_;simp[ab,az,oR.refs,oR.aE,hv.refs,hw.refs,hv.aE,hw.aE];exact(we hI).symm
theorem ann {L:List cV} {J:List PV} {c:fB} (hl:L.length≤1048576) (hJ:an J) {g:FuncId} {q:cV->Bool} {v:PV} (hv:Pure v) (hq:∀x∈L,(ae Pg g [bj x,.pt KB [] 0] [aV.box v] (λr fp=>r= .bl (q x)∧fp=[aV.box v]))):
  ae Pg 253 [.rs KB [] 0 L.length (L.length+J.length) 34 c,.fn (.func g) [] [.pt (KB+1) [] 0]] [.arr 34 (L.map bj++J),.box v] (λr fp=>r= .int .i64 (lQ q L)∧fp=[.arr 34 (L.map bj++J),.box v]):=by
 refine ae.intro (aC R.bu.2) (by simp[R.bu]) ?_;have oR:an (L.map bj++J):=(aF iT L).append hJ;have hwl:L.length=(L.map bj).length:=by simp
 have hx:∀i,(h:i<L.length)->(L.map bj++J)[i]? =some (bj L[i]):=λi h=>by rw[List.getElem?_append_left (by simpa using h)];simp[h]
 have hlen:(L.map bj++J).length=L.length+J.length:=by simp
 generalize L.map bj++J=B at*;simp[R.bu,aj,av,hlen];refine eW.fD L.length (λi=>∀x∈L.take i,q x=false) [0,1,4,6,7,8] (λi=>[(8,.int .i64 i)]) (λ_=>[]) [.keep [0,1,4,6,7,8]] ?_;simp only[JnJ];simp;refine⟨λi hi hI K hK=> ?_,λhI K=> ?_⟩
 ·have hc:=hq L[i] (JbQ hi);have hx:=hx i hi;have wi:IntKind.i64.wrap ((i:Int)+1)=(i:Int)+1:=wrap_i64 (by omega);have hle:i<L.length+J.length:=by omega
  generalize Hf:L[i]=x at*;simp[↓al,hx,hi,hlen,-getElem?_pos];refine ai.gA [KB+1] [] [aV.box v] hc (by simp[ab,hv.refs]) (by simp[az,hv.aE]) (by simp[ab,af,hv.refs]) ?_;simp[aI,az,aE,hv.aE];by_cases hb:q x=true
  ·simp[hb];refine aA.with [] [KB,KB+1] ?_;simp[ab,az,oR.refs,oR.aE,hv.refs,hv.aE];exact(sR hi hI (by rw[Hf];exact hb)).symm
  ·have hb:q x=false:=by simpa using hb
   simp[hb,wi];refine⟨[.keep [0,1,4,6,7,8]],?_⟩;simp;refine hK _ (by simp) ?_;rw[JcZ hi,Hf];intro y hy;rcases JaZ.1 hy with h|h
   ·exact hI y h
   ·simp at h;subst h;exact hb
 ·simp[↓al];refine aA.with [] [KB,KB+1] ?_;simp[ab,az,oR.refs,oR.aE,hv.refs,hv.aE];exact(we hI).symm
theorem dJ (sz:Nat) (j:Nat):an (List.replicate j (G5 sz)):=an.mk' λp hp=>by
 rw[JlW hp];exact an.st (an.mk' λp hp=>by rw[JlW hp];simp) sz
def BX {α:Type} (p:α->Bool) (L:List α) (j:Nat):List α:=(L.take j).filter p++L.drop ((L.take j).filter p).length
theorem BY {α:Type} (p:α->Bool) (L:List α) (j:Nat):((L.take j).filter p).length≤j∧((L.take j).filter p).length≤L.length:=by
 have:=JfZ p (L.take j);rw[lJ]at this;omega
theorem KC {α:Type} (p:α->Bool) (L:List α) (j:Nat):(BX p L j).length=L.length:=by
 have:=BY p L j;simp only[BX,JaJ,JbV];omega
theorem Fp {α:Type} {p:α->Bool} {L:List α} {i:Nat} (hi:i<L.length) (h:∀x∈L.take i,p x=true) (hq:p L[i]=false):((L.take (i+1)).filter p).length=i∧BX p L (i+1)=L:=by
 have e:(L.take (i+1)).filter p=L.take i:=by
  rw[mH p hi,hq];simp only[fJ,if_false,JgV];exact JfX.2 h
 have hl:(L.take i).length=i:=by rw[lJ];omega
 refine⟨by rw[e,hl],?_⟩;rw[BX,e,hl,JcQ]
theorem W8 {α:Type} (p:α->Bool) {L:List α} {j:Nat} (hj:j<L.length):(BX p L j)[j]? =some L[j]:=by
 have:=BY p L j;rw[BX,List.getElem?_append_right this.1,List.getElem?_drop,show((L.take j).filter p).length+(j-((L.take j).filter p).length)=j by omega,gJ hj]
theorem R5 {α:Type} {p:α->Bool} {L:List α} {j:Nat} (hj:j<L.length) (h:p L[j]=false):(L.take (j+1)).filter p=(L.take j).filter p∧BX p L (j+1)=BX p L j:=by
 have e:(L.take (j+1)).filter p=(L.take j).filter p:=by rw[mH p hj,h];simp
 exact⟨e,by rw[BX,BX,e]⟩
theorem Mf {α:Type} {p:α->Bool} {L:List α} {j:Nat} (hj:j<L.length) (h:p L[j]=true):((L.take (j+1)).filter p).length=((L.take j).filter p).length+1∧(BX p L j).set ((L.take j).filter p).length L[j]=BX p L (j+1):=by
 have e:(L.take (j+1)).filter p=(L.take j).filter p++[L[j]]:=by rw[mH p hj,h];simp
 have hc:=BY p L j;refine⟨by rw[e];simp,?_⟩;rw[BX,BX,e,JsZ _ _ (JaQ _),Nat.sub_self,List.drop_eq_getElem_cons (by omega),JqX];simp
theorem W9 {α:Type} (p:α->Bool) (L:List α):(L.take L.length).filter p=L.filter p∧(BX p L L.length).take (L.filter p).length=L.filter p:=by
 rw[JcJ];refine⟨rfl,?_⟩;rw[BX,JcJ,List.take_left]
theorem Qs {α:Type} (p:α->Bool) (e:α->PV) (he:∀x,Pure (e x)) {n:Nat} (hw:∀x,(e x).width=n) {L:List α} {i:Nat} (hi:i<L.length) (h:∀x∈L.take i,p x=true) (hq:p L[i]=false):
  ∃
   (D:Nat->List PV) (cn:Nat->Nat),(D (i+1)=L.map e∧cn (i+1)=i)∧(∀j (h:j<L.length),(D j)[j]? =some (e L[j]))∧(∀j (h:j<L.length),p L[j]=false->D (j+1)=D j∧cn (j+1)=cn j)∧
   (∀j (h:j<L.length),p L[j]=true->(D j).set (cn j) (e L[j])=D (j+1)∧cn (j+1)=cn j+1)∧(∀j,(D j).length=L.length)∧(∀j,cn j≤j∧cn j≤L.length)∧
   (cn L.length=(L.filter p).length∧(D L.length).take (L.filter p).length=(L.filter p).map e)∧(∀j,∀x∈D j,x.width=n)∧(∀j,an (D j)):=by
 refine⟨λj=>(BX p L j).map e,λj=>((L.take j).filter p).length,⟨by show(BX p L (i+1)).map e=_;rw[(Fp hi h hq).2],(Fp hi h hq).1⟩,λj h=> ?_,λj h hp=> ?_,λj h hp=> ?_,λj=> ?_,λj=>BY p L j,?_,λj x hx=> ?_,λj=>an.map he _⟩
 ·show((BX p L j).map e)[j]? =_;rw[List.getElem?_map,W8 p h];rfl
 ·exact⟨by show(BX p L (j+1)).map e=_;rw[(R5 h hp).2],by show((L.take (j+1)).filter p).length=_;rw[(R5 h hp).1]⟩
 ·refine⟨?_,(Mf h hp).1⟩;show((BX p L j).map e).set _ _=(BX p L (j+1)).map e;rw[←(Mf h hp).2,JfJ]
 ·show((BX p L j).map e).length=_;rw[JaX,KC]
 ·have:=W9 p L;refine⟨by show((L.take L.length).filter p).length=_;rw[this.1],?_⟩;show((BX p L L.length).map e).take _=_;rw[←JfQ,this.2]
 ·obtain⟨y,_,rfl⟩:=JhW.1 hx;exact hw y
theorem alP {L:List cV} (hl:L.length≤1048576) {g:FuncId} {q:cV->Bool} {v:PV} {w:PV} (hv:Pure v) (hw:Pure w) (hq:∀x∈L,(ae Pg g [bj x,.pt KB [] 0,.pt (KB+1) [] 0] [aV.box v,aV.box w] (λr fp=>r= .bl (q x)∧fp=[aV.box v,aV.box w]))):
  ae Pg 161 [.rs KB [] 0 L.length L.length 34 .tip,.fn (.func g) [] [.pt (KB+1) [] 0,.pt (KB+2) [] 0]] [.arr 34 (L.map bj),.box v,.box w] (λr fp=>∃(J:List PV) (c:Nat),(an J∧(L.filter λx=> !q x).length≤c∧c≤(L.filter λx=> !q x).length+J.length)∧r= .rs KB [] 0 (L.filter λx=> !q x).length ((L.filter λx=> !q x).length+J.length) 34 (.full c)∧fp=[.arr 34 ((L.filter λx=> !q x).map bj++J),.box v,.box w]):=by
 obtain⟨p,Ol⟩:∃p:cV->Bool,∀x,p x= !q x:=⟨_,λ_=>rfl⟩
 rw[show(λx=> !q x)=p from funext λx=>(Ol x).symm];refine ae.intro (aC R.dm.2) (by simp[R.dm]) ?_;have oT:∀l:List cV,an (l.map bj):=λl=>aF iT l;have hix:=anm (c:= .tip) (J:=[]) hl vY hv hw hq;simp only[JgV,List.length_nil,JnQ]at hix;simp[R.dm,aj,av];refine ai.gA [KB,KB+1,KB+2] [] [.arr 34 (L.map bj),.box v,.box w] hix (by simp[ab,hv.refs,hw.refs]) (by simp[az,hv.aE,hw.aE]) (by simp[ab,af,hv.refs,hw.refs]) ?_;simp[aI,az,aE,hv.aE,hw.aE];rcases tI q L with⟨he,cq⟩|⟨i,hi,he,Sv,hqi⟩
 ·have hK:L.filter p=L:=JfX.2 λx hx=>by rw[Ol,cq x hx];rfl
  rw[hK];simp[he];refine aA.with [.keep [4],.mt 4] [KB,KB+1,KB+2] ?_;simp[ab,az,hv.refs,hw.refs,hv.aE,hw.aE];intro c j OK;exact⟨(dJ 34 j).refs _,List.replicate j (G5 34),c,⟨dJ 34 j,by rcases OK with h|⟨_,_,h⟩<;>simp[h],by rw[JcW];omega⟩,by simp,((oT L).append (dJ 34 j)).aE _⟩
 ·have aeG:p L[i]=false:=by rw[Ol,hqi];rfl
  obtain⟨D,cn,⟨d0,c0⟩,dg,dn,dy,dl,cl,⟨ce,de⟩,dw,dp⟩:=Qs p bj iT (n:=34) (λx=>by simp) hi (λx hx=>by rw[Ol,Sv x hx];rfl) aeG;have wi:IntKind.i64.wrap ((i:Int)+1)=(i:Int)+1:=wrap_i64 (by omega);have cI:¬(i:Int)= -1:=by omega
  simp[he,wi,cI];rw[←d0];have Sa:L.length-(i+1)+(i+1)=L.length:=by omega
  refine eW.fD (L.length-(i+1)) (λ_=>True) [0,1,4,5,6] (λr=>[(5,.int .i64 (cn (i+1+r))),(6,.int .i64 ((i:Int)+1+r))]) (λr=>[(KB,.arr 34 (D (i+1+r)))]) [.keep [0,1,4,5,6]] ?_;simp[c0];refine⟨λr hr K hK=> ?_,λK=> ?_⟩
  ·obtain⟨j,hj⟩:∃j,j=i+1+r:=⟨_,rfl⟩
   have Bx:j<L.length:=by omega
   have Tu:(i:Int)+1+r=j:=by omega
   have hx:=dg j Bx;have hc:=hq L[j] (JbQ Bx);have dn:=dn j Bx;have dy:=dy j Bx;have cl:=cl j;have dlj:=dl j;have dpj:=dp j;have dpj1:=dp (j+1);have wj:IntKind.i64.wrap ((j:Int)+1)=(j:Int)+1:=wrap_i64 (by omega);have wc:IntKind.i64.wrap ((cn j:Int)+1)=(cn j:Int)+1:=wrap_i64 (by omega);have Oj:cn j<L.length:=by omega
   obtain⟨y,hy,hyw⟩:∃y,(D j)[cn j]? =some y∧y.width=34:=by
    have dq:cn j<(D j).length:=by rw[dlj];exact Oj
    exact⟨_,gJ dq,dw j _ (JbQ dq)⟩
   have hK:∀s2,gx s2 [0,1,4,5,6] [] []=⟨[(0,.rs KB [] 0 L.length L.length 34 .tip),(1,.fn (.func g) [] [.pt (KB+1) [] 0,.pt (KB+2) [] 0]),(4,.sl 34 [] true),(5,.int .i64 (cn (j+1))),(6,.int .i64 ((j:Int)+1))],[(KB,.arr 34 (D (j+1))),(KB+1,.box v),(KB+2,.box w)]⟩->K s2:=by
    intro s2 Bv;refine hK s2 (Bv.trans ?_);rw[show i+1+(r+1)=j+1 by omega,show(i:Int)+1+((r:Int)+1)=(j:Int)+1 by omega]
   rw[←hj,Tu];have Tt:p L[j]= !q L[j]:=Ol _;generalize L[j]=x at*;generalize cn j=cj at*;generalize D j=Dj at*;generalize D (j+1)=Dj1 at*;generalize cn (j+1)=cj1 at*;simp[↓al,hx,Bx,dlj,-getElem?_pos];refine ai.gA [KB+1,KB+2] [] [aV.box v,aV.box w] hc (by simp[ab,hv.refs,hw.refs]) (by simp[az,hv.aE,hw.aE]) (by simp[ab,af,hv.refs,hw.refs]) ?_;simp[aI,az,aE,hv.aE,hw.aE];by_cases hb:q x=true
   ·obtain⟨rfl,rfl⟩:=dn (by rw[Tt,hb];rfl);simp[hb,wj];refine⟨[.keep [0,1,4,5,6],.dr 7],?_⟩;simp[bt,b8,af,ah,ab,dpj.refs,hv.refs,hw.refs];exact hK _ (by simp)
   ·have hb:q x=false:=by simpa using hb
    obtain⟨rfl,rfl⟩:=dy (by rw[Tt,hb];rfl);simp[hb,wj,wc,dlj,Oj,hy,hyw,-getElem?_pos];refine⟨[.keep [0,1,4,5,6],.dr 7],?_⟩;simp[bt,b8,af,ah,ab,dpj1.refs,hv.refs,hw.refs];exact hK _ (by simp)
  ·have Bx:i+1+(L.length-(i+1))=L.length:=by omega
   have Tu:(i:Int)+1+((L.length-(i+1):Nat):Int)=L.length:=by omega
   simp only[Bx,Tu];have cl:=cl L.length;have dlj:=dl L.length;have dpj:=dp L.length;have dw:=dw L.length;have qR:(L.filter p).length≤L.length:=by rw[←ce];exact cl.2
   rw[ce];generalize D L.length=DJ at*;generalize hKk:L.filter p=Kp at*;simp[↓al,dlj,qR,-getElem?_pos];rw[de]
   obtain⟨Z,hZ,Xs,hzl⟩:∃Z,(List.replicate (L.length-Kp.length) (.st 34 [(.int .i64 0),(.ar 1 32 (zr 32 (.int .u8 0))),(.int .i64 0)])++List.drop L.length DJ)=Z∧an Z∧Z.length=L.length-Kp.length:=
    ⟨_,rfl,(an.mk' λp hp=>by rw[JlW hp];simp).append (dpj.drop _),by simp[dlj]⟩
   rw[hZ];have eE:an (Kp.map bj++Z):=(oT Kp).append Xs;have lY:(Kp.map bj++Z).length=L.length:=by simp;omega
   refine aA.with [.keep [4],.mt 4] [KB,KB+1,KB+2] ?_;simp[lY,ab,az,hv.refs,hw.refs,hv.aE,hw.aE];intro c j OK;have hzu:=Xs.append (dJ 34 j);refine⟨⟨Xs.refs _,(dJ 34 j).refs _⟩,Z++List.replicate j (G5 34),c,⟨hzu,?_,?_⟩,⟨by simp;omega,rfl⟩,((oT Kp).append hzu).aE _⟩
   ·rcases OK with h|⟨_,_,h⟩
    ·omega
    ·simp[h]
   ·simp only[JaJ,JcW];omega
end Go.Ab
