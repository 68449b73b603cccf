/- Functions of the program and of the document, as the abstract reading walks them, part 9. No condition. -/
import Derived.Test.YtlcojgogfjlceaaGreatDoorEB8
import Derived.Test.YtlcojgogfjlceaaGreatDoorEA5
import Derived.Lib.Overlaps
import Derived.Test.YtlcojgogfjlceaaGreatDoorESF1
import Derived.Test.YtlcojgogfjlceaaGreatDoorESF2
import Derived.Test.YtlcojgogfjlceaaGreatDoorESF3
import Derived.Test.YtlcojgogfjlceaaGreatDoorESF4
import Derived.Test.YtlcojgogfjlceaaGreatDoorESF5
import Derived.Test.YtlcojgogfjlceaaGreatDoorESF6
import Derived.Test.YtlcojgogfjlceaaGreatDoorEB5
import Derived.Test.YtlcojgogfjlceaaGreatDoorEB4
import Derived.Test.YtlcojgogfjlceaaGreatDoorEB3
set_option maxRecDepth 10000
set_option maxHeartbeats 1000000
set_option linter.all false
noncomputable section
namespace Go.Ab
@[simp↓] theorem aq1 {s:St} (d:Option Nat) (sz:Nat) (p:PV) (K:St->Prop) (k:Nat) (pth:List Step) (off len aN z:Nat) (c:ft):XX s d sz p K (.rs k pth off len aN z c)=Bb s (λbN l=>(l=[]∨bN=sz)∧Sr s d sz l K p) (.rs k pth off len aN z c):=_root_.id rfl
theorem WK {l:List cT} (h:l.length≤1048576) (k:Key) (n:Int):ae Pg 79 [cE l,aG k,.int .i64 n] [] (λr fp=>∃(J:List PV) (c:Nat),(au J∧(bc l k n).length≤c∧c≤(bc l k n).length+J.length)∧r= .rs KB [] 0 (bc l k n).length ((bc l k n).length+J.length) 34 (.full c)∧fp=[.arr 34 ((bc l k n).map bm++J)]):=by
 refine ae.intro (aC R.iX.2) (by simp[R.iX]) ?_;have nG:∀l:List cT,au (l.map bm):=λl=>aF iT l;have rh:uL Pg 58 [.sl 34 (l.map bm) false] 34 (l.map bm):=lV (bytes:=48) (aC R.eH.2) (by omega) (nG l) (by simpa using h) (by omega);have hd:=ali (L:=l) h (g:=162) (q:=λt=> !nX k n t) (v:=aG k) (w:= .int .i64 n) (by simp) (by simp) (λx _=>Y5 x k n);have hf:(l.filter λx=> !!nX k n x)=bc l k n:=by simp only[Bool.not_not];rfl
 rw[hf]at hd;simp[R.iX,aj,av,cE];refine ai.own 8 rh (by simp) (by simp[nG]) (nG l) (by simp) ?_;simp;refine ai.gR [8,4,5] [] [.arr 34 (l.map bm),.box (aG k),.box (.int .i64 n)] hd (by simp[ab,af]) (by simp[az,aE]) ?_;rintro r fp ⟨J,c,⟨hJ,h1,h2⟩,rfl,rfl⟩;have ef:au ((bc l k n).map bm++J):=(nG _).append hJ;have lN:((bc l k n).map bm++J).length=(bc l k n).length+J.length:=by simp
 have hR:∃(J':List PV) (c':Nat),(au J'∧(bc l k n).length≤c'∧c'≤(bc l k n).length+J'.length)∧(J.length=J'.length∧c=c')∧(bc l k n).map bm++J=(bc l k n).map bm++J':=⟨J,c,⟨hJ,h1,h2⟩,⟨rfl,rfl⟩,rfl⟩
 generalize hB:(bc l k n).map bm++J=B at ef lN hR⊢;refine⟨by simp[ab,af,cY,ef.refs],?_⟩;simp[aI,az,aE,cL,ef.aE];refine aA.with [.keep [6]] [8] ?_;simp[ab,az,ef.refs,ef.aE];exact hR
theorem amR {x:PV} {B:List PV} {off len:Nat} {c:ft} (ho:0<B.length) (hl:1≤len):ae Pg 364 [.rs KB [] 0 1 1 34 .tip,.rs (KB+1) [] off len B.length 34 c] [.arr 34 [x],.arr 34 B] (λr fp=>r= .bl false∧fp=[.arr 34 [x],.arr 34 B]):=by
 intro Γ w vs hw hm ly hA;match vs,hA with
 |
  [v1,v2],hA=>
  obtain⟨h1,h2,_⟩:=hA
  have g1:get Γ.bx KB=some (.arr 34 [x]):=by rw[ly];rfl
  have g2:get Γ.bx (KB+1)=some (.arr 34 B):=by rw[ly];rfl
  obtain⟨a1,c1,e1,k1⟩:=h1.rs g1 (by simp[aU.aN])
  obtain⟨a2,c2,e2,k2⟩:=h2.rs g2 (by simp[aU.aN])
  obtain⟨_,_,r1⟩:=hm.blk _ _ g1
  obtain⟨r2w,_,r2⟩:=hm.blk _ _ g2
  unfold gX at k1 k2
  cases i1:Γ.ι KB with
  |none=>rw[i1]at k1;exact absurd k1.1 (by omega)
  |
   some b1=>
   cases i2:Γ.ι (KB+1)with
   |none=>rw[i2]at k2;exact absurd k2.1 (by omega)
   |
    some b2=>
    rw[i1]at k1 r1;rw[i2]at k2 r2
    obtain⟨p1,p2,_⟩:=k1
    obtain⟨q1,q2,_⟩:=k2
    rcases p2 with p2|rfl
    ·omega
    rcases q2 with q2|rfl
    ·omega
    obtain⟨cc1,ce1,cs1,an7,u1,u2,u3,_⟩:=r1
    obtain⟨cc2,ce2,cs2,Sf,w1,w2,w3,_⟩:=r2
    have cS:b1≠b2:=λe=>by
     have:=hm.inj KB (KB+1) b1 (by rw[g1];rfl) (by rw[g2];rfl) i1 (by rw[i2,e]);omega
    rw[←hw]at u1 w1
    have Bm:cc2.size≠0:=by
     have e1:cs2.length=B.length*34:=by rw[w3.length,bf r2w]
     have e2:cc2.size=cs2.length+Sf.length:=by rw[←JbZ,w2];simp
     omega
    have fN:=Go.Lib.run_overlaps_apart (P:=Pg) w 32 4 84 (by kernel_rfl) 34 (λw=>run_sizeOf (by kernel_rfl)) ⟨b1,bI []+0*34,none⟩ ⟨b2,bI []+off*34,none⟩ 1 c1 len c2 cS ce1 ce2 cc1.size cc2.size (by simp[World.shape?,u1]) (by simp[World.shape?,w1]) Bm (by simp[World.frozen?,u1]) (by simp[World.frozen?,u1])
    rw[e1,e2]
    refine .inr ⟨.bool false,w,?_,_,_,[.arr 34 [x],.arr 34 B],Γ,rfl,⟨rfl,rfl⟩,hw,hm,ly,iK,Le.refl Γ,WF.refl w⟩
    rw[run_callFunc_extern (fn:=(Pg.funcs[364]?).getD default) (by kernel_rfl) (by kernel_rfl) (by kernel_rfl) (by kernel_rfl) (e:=Extern.SlicesOverlaps.overlaps #[32,32] #[4]) (by kernel_rfl)]
    rw[fN]
    rfl
theorem Ia {B:List PV} {n i N:Nat} (hB:B.length=N) (hi:i<n) (hn:n+1≤N) (x:PV):
  ∃
   B1,(List.take (i+1) B++(List.take (n-i) (List.take (n+1-i) (List.drop i B))++List.drop (i+1+(n-i)) B))=B1∧B1.length=N∧(List.take i B1++x::List.drop (i+1) B1).length=N∧
   (List.take i B1++x::List.drop (i+1) B1).take (n+1)=List.take i B++x::List.drop i (List.take n B):=by
 refine⟨_,rfl,?_,?_,?_⟩
 ·simp only[JaJ,lJ,JbV,hB];omega
 ·simp only[JaJ,JcQ,lJ,JbV,hB];omega
 ·have e1:List.take i (List.take (i+1) B++(List.take (n-i) (List.take (n+1-i) (List.drop i B))++List.drop (i+1+(n-i)) B))=List.take i B:=by
   rw[JfW (by rw[lJ];omega),JsV,JdW (by omega)]
  have e2:List.drop (i+1) (List.take (i+1) B++(List.take (n-i) (List.take (n+1-i) (List.drop i B))++List.drop (i+1+(n-i)) B))=List.take (n-i) (List.drop i B)++List.drop (i+1+(n-i)) B:=by
   rw[JmQ (by rw[lJ];omega),JgV (by rw[lJ];omega),JlQ,JsV,JdW (by omega)]
  rw[e1,e2,JsZ];have h1:(List.take i B).length=i:=by rw[lJ];omega
  have h2:(List.take (n-i) (List.drop i B)).length=n-i:=by rw[lJ,JbV];omega
  generalize List.take i B=P at*;generalize List.take (n-i) (List.drop i B)=Q at*;generalize List.drop (i+1+(n-i)) B=R at*;rw[show P++x::(Q++R)=(P++x::Q)++R by simp];exact JrV (by simp;omega)
theorem EV {B Z:List PV} {n i:Nat} (hB:n≤B.length) (hi:i<n) (hZ:Z.length=n+1-i) (x:PV):
  (List.take (i+1) (List.take i (List.take i B++Z)++x::List.drop (i+1) (List.take i B++Z))++
   (List.take (n-i) (List.take (n-i) (List.drop i B))++List.drop (i+1+(n-i)) (List.take i (List.take i B++Z)++x::List.drop (i+1) (List.take i B++Z))))=List.take i B++x::List.drop i (List.take n B):=by
 have h1:(List.take i B).length=i:=by rw[lJ];omega
 rw[JsZ,JsV,Nat.min_self];have h2:(List.take (n-i) (List.drop i B)).length=n-i:=by rw[lJ,JbV];omega
 generalize List.take i B=P at*;generalize List.take (n-i) (List.drop i B)=Q at*;have e1:List.take i (P++Z)=P:=JrV h1;have h3:(List.drop (i+1) (P++Z)).length=n-i:=by rw[JbV,JaJ];omega
 rw[e1];generalize List.drop (i+1) (P++Z)=R at*
 have e2:List.take (i+1) (P++x::R)=P++[x]:=by
  rw[show P++x::R=(P++[x])++R by simp];exact JrV (by simp[h1])
 have e3:List.drop (i+1+(n-i)) (P++x::R)=[]:=JgV (by simp;omega);rw[e2,e3];simp
def oI (L:List cT) (i:Nat) (t:cT):List cT:=L.take i++t::L.drop i
theorem pE {L:List cT} {i:Nat} (t:cT) (_:Unit) (hi:i≤L.length):(oI L i t).length=L.length+1:=by
 simp only[oI,JaJ,JcQ,lJ,JbV];omega
theorem amS {L:List cT} {J:List PV} {c i:Nat} (hl:L.length≤1048576) (hJ:au J) (hc:L.length+1≤c∧c≤L.length+J.length) (hi:i≤L.length) (t:cT):
  ae Pg 333 [.rs KB [] 0 L.length (L.length+J.length) 34 (.full c),.int .i64 i,.rs (KB+1) [] 0 1 1 34 .tip] [.arr 34 (L.map bm++J),.arr 34 [bm t]] (λr fp=>∃B,(au B∧B.length=L.length+J.length∧B.take (L.length+1)=(oI L i t).map bm)∧r= .rs KB [] 0 (L.length+1) (L.length+J.length) 34 (.full c)∧fp=[.arr 34 B,.arr 34 [bm t]]):=by
 refine ae.intro (aC R.a8.2) (by simp[R.a8]) ?_;have nG:∀l:List cT,au (l.map bm):=λl=>aF iT l;have lN:(L.map bm++J).length=L.length+J.length:=by simp
 have kX:∀k,k≤L.length->(L.map bm++J).take k=(L.take k).map bm:=λk hk=>by rw[JfW (by simpa using hk),JfQ]
 have ef:au (L.map bm++J):=(nG _).append hJ;generalize L.map bm++J=B at*;by_cases hie:i=L.length
 ·subst hie;simp(disch:=omega) [R.a8,aj,av,lN];refine⟨⟨by omega,hc.2,by omega,by omega⟩,λAd=> ?_,λAd=>by omega⟩
  obtain⟨B2,hB2,rf,AW,Hc⟩:∃B2,List.take L.length B++bm t::List.drop (L.length+1) B=B2∧au B2∧B2.length=L.length+J.length∧B2.take (L.length+1)=(oI L L.length t).map bm:=by
   have h0:(B.take L.length).length=L.length:=by rw[lJ,lN];omega
   refine⟨_,rfl,(ef.take _).append (au.mk' λx hx=> ?_),?_,?_⟩
   ·rcases cJ.1 hx with rfl|hx
    ·simp
    ·exact(ef.drop _).forget x hx
   ·simp only[JaJ,JcQ,JbV,h0,lN];omega
   ·rw[List.take_append,tJ (by omega),h0,show L.length+1-L.length=1 by omega,kX _ (JaQ _)];simp[oI]
  rw[hB2];refine aA.with [.keep [6]] [KB,KB+1] ?_;simp[ab,ah,az,aS,rf.refs,rf.aE];exact⟨rf,AW,Hc⟩
 ·have dk:i<L.length:=by omega
  have KT:¬(i:Int)=L.length:=by omega
  have h1:¬(c:Int)<(L.length:Int)+1:=by omega
  have h2:c≤L.length+J.length∧L.length≤c:=by omega
  have h3:L.length+1≤L.length+J.length:=by omega
  have W4:=amR (x:=bm t) (B:=B) (off:=i+1) (len:=L.length-i) (c:= .full (c-(i+1))) (by omega) (by omega);rw[lN]at W4;simp(disch:=omega) [R.a8,aj,av,lN,KT,hi,h1,h2];refine⟨⟨by omega,by omega⟩,by omega,?_⟩;refine ai.gA [KB+1,KB] [] [.arr 34 [bm t],.arr 34 B] W4 (by simp[ab,ah,ef.refs]) (by simp[az,aS,ef.aE]) (by simp[ab,af,ah,ef.refs]) ?_;have hw:IntKind.i64.wrap ((i:Int)+1)=(i:Int)+1:=wrap_i64 (by omega);have m1:min (L.length+1-i) (L.length+J.length-i)=L.length+1-i:=by omega
  simp(disch:=omega) [aI,az,aE,aS,(iT t).aE,lN,hw,m1,-List.length_append];obtain⟨B1,hB1,KP,AW,Hc⟩:=Ia lN dk (by omega) (bm t);rw[kX _ (JaQ _),kX _ hi]at Hc;have Jd:au B1:=by rw[←hB1];exact(ef.take _).append ((((ef.drop _).take _).take _).append (ef.drop _))
  have rf:au (List.take i B1++bm t::List.drop (i+1) B1):=(Jd.take _).append (au.mk' λx hx=>by
   rcases cJ.1 hx with rfl|hx
   ·simp
   ·exact(Jd.drop _).forget x hx)
  rw[hB1];generalize List.take i B1++bm t::List.drop (i+1) B1=B2 at*;refine⟨⟨by omega,hi⟩,by omega,by omega,by omega,by rw[KP],by omega,⟨by rw[KP],by rw[KP];omega⟩,?_⟩;refine aA.with [.keep [6]] [KB,KB+1] ?_;simp[ab,ah,az,aS,rf.refs,rf.aE];exact⟨rf,AW,by rw[Hc];simp[oI,JjW,JfQ]⟩
theorem amT {L:List cT} {J:List PV} {i:Nat} (hl:L.length≤1048576) (hJ:au J) (hi:i≤L.length) (t:cT):
  ae Pg 333 [.rs KB [] 0 L.length (L.length+J.length) 34 (.full L.length),.int .i64 i,.rs (KB+1) [] 0 1 1 34 .tip] [.arr 34 (L.map bm++J),.arr 34 [bm t]] (λr fp=>r= .rs (KB+2) [] 0 (L.length+1) (L.length+1) 34 .tip∧fp=[.arr 34 (L.map bm++J),.arr 34 [bm t],.arr 34 ((oI L i t).map bm)]):=by
 refine ae.intro (aC R.a8.2) (by simp[R.a8]) ?_;have nG:∀l:List cT,au (l.map bm):=λl=>aF iT l;have lN:(L.map bm++J).length=L.length+J.length:=by simp
 have kX:∀k,k≤L.length->(L.map bm++J).take k=(L.take k).map bm:=λk hk=>by rw[JfW (by simpa using hk),JfQ]
 have ef:au (L.map bm++J):=(nG _).append hJ;generalize L.map bm++J=B at*;by_cases hie:i=L.length
 ·subst hie;simp(disch:=omega) [R.a8,aj,av,lN];refine⟨⟨by omega,by omega⟩,λAd=>by omega,?_⟩;have hB2:List.take L.length B++[bm t]=(oI L L.length t).map bm:=by rw[kX _ (JaQ _)];simp[oI]
  rw[hB2];refine aA.with [.keep [6]] [KB,KB+1,25] ?_;have GW:=nG (oI L L.length t);generalize (oI L L.length t).map bm=B2 at*;simp[ab,ah,az,aS,GW.refs,GW.aE,ef.refs,ef.aE]
 ·have dk:i<L.length:=by omega
  have KT:¬(i:Int)=L.length:=by omega
  have h1:(L.length:Int)<(L.length:Int)+1:=by omega
  have h2:(i:Int)<(L.length:Int)+1:=by omega
  have h3:(i:Int)≤(L.length:Int)+1:=by omega
  have h4:(L.length+1)*48≤140737488355328:=by omega
  have h5:L.length≤9223372036854775806:=by omega
  simp(disch:=omega) [R.a8,aj,av,lN,KT,hi,h1,h2,h3,h4,h5];refine⟨by omega,by omega,⟨by omega,by omega⟩,?_⟩;rw[EV (by rw[lN];omega) dk (by simp) (bm t),kX _ (JaQ _),kX _ hi];have hI:(List.take i L).map bm++bm t::List.drop i ((List.take L.length L).map bm)=(oI L i t).map bm:=by simp[oI,JjW,JfQ]
  rw[hI];have GW:=nG (oI L i t);generalize (oI L i t).map bm=B2 at*;refine aA.with [.keep [6]] [KB,KB+1,40] ?_;simp[ab,ah,az,aS,GW.refs,GW.aE,ef.refs,ef.aE]
theorem Fi {t:cT}:∀ {l:List cT},(∀x∈l,dW t x=false)->ik t l=l.length
 |[],_=>rfl
 |
  x::r,h=>by
  simp only[ik,h x (by simp),fJ,if_false,JcQ]
  rw[Fi λy hy=>h y (by simp[hy])]
theorem Fj {t:cT}:∀ {l:List cT} {i:Nat} (hi:i<l.length),(∀x∈l.take i,dW t x=false)->dW t l[i]=true->ik t l=i
 |x::r,0,hi,_,hq=>by simp only[List.getElem_cons_zero]at hq;simp only[ik,hq,if_true]
 |
  x::r,i+1,hi,h,hq=>by
  simp only[ik,h x (by simp),fJ,if_false]
  rw[Fj (i:=i) (by simpa using hi) (λy hy=>h y (by simp[hy])) (by simpa using hq)]
theorem atu {l:List cT} (h:l.length≤1048575) (t:cT):aL Pg 269 [cE l,bm t] (cE (iI l t)):=by
 refine ae.intro (aC R.vo.2) (by simp[R.vo]) ?_;simp[R.vo,aj,av];refine ai.gR [] [12] [] (WK (l:=l) (by omega) t.peer t.kind) (by simp) (by simp) ?_;rintro r fp ⟨J,c,⟨hJ,h1,h2⟩,rfl,rfl⟩;have kQ:iI l t=oI (bc l t.peer t.kind) (ik t (bc l t.peer t.kind)) t:=by simp[iI,oI]
 have hRl:(bc l t.peer t.kind).length≤1048575:=JeW (JfZ _ _) h;rw[kQ];generalize bc l t.peer t.kind=R at*;have nG:∀l:List cT,au (l.map bm):=λl=>aF iT l;have ef:au (R.map bm++J):=(nG _).append hJ;have lN:(R.map bm++J).length=R.length+J.length:=by simp
 have hix:=amQ (L:=R) (J:=J) (c:= .full c) (by omega) hJ (g:=332) (q:=dW t) (v:=bm t) (by simp) (λx _=>amO t x);have oJ:=BH t R;have hA:=λhc:R.length+1≤c=>amS (L:=R) (J:=J) (c:=c) (i:=ik t R) (by omega) hJ ⟨hc,h2⟩ oJ t;have hB:=amT (L:=R) (J:=J) (i:=ik t R) (by omega) hJ oJ t;generalize hBd:R.map bm++J=B at*;refine⟨by simp[ab,af,cY,ef.refs],?_⟩;simp[aI,az,aE,cL,ef.aE];refine ai.gA [12,3] [] [.arr 34 B,.box (bm t)] hix (by simp[ab,ef.refs]) (by simp[az,ef.aE]) (by simp[ab,af,ef.refs]) ?_;simp[aI,az,aE,ef.aE];rcases tj (dW t) R with⟨he,cy⟩|⟨i,hi,he,Se,hq⟩
 ·rw[Fi cy]at*;refine⟨λ_=>⟨lN.symm,?_⟩,λh=>by omega⟩;by_cases hcc:R.length+1≤c
  ·refine ai.gR [12,23] [] [.arr 34 B,.arr 34 [bm t]] (hA hcc) (by simp[ab,ah,ef.refs]) (by simp[az,aS,ef.aE]) ?_;rintro r fp ⟨B2,⟨rf,AW,Hc⟩,rfl,rfl⟩;refine⟨by simp[ab,af,ah,cY,rf.refs],?_⟩;simp[aI,az,aE,aS,cL,rf.aE];refine aA.plain [.keep [4],.fz 12] ?_;have hle:R.length+1≤B2.length:=by omega
   simp[rf.refs];rw[if_pos ⟨AW.symm,hle⟩,Hc];simp[cE,nG]
  ·obtain rfl:c=R.length:=by omega
   refine ai.gA [12,23] [24] [.arr 34 B,.arr 34 [bm t]] hB (by simp[ab,ah,ef.refs]) (by simp[az,aS,ef.aE]) (by simp[ab,af,ah,ef.refs,cY]) ?_;simp[aI,az,aE,aS,cL,ef.aE];refine aA.plain [.keep [4],.fz 24] ?_;simp;rw[if_pos (by rw[pE _ () oJ];omega),tJ (by rw[JaX,pE _ () oJ];omega)];simp[cE,nG]
 ·rw[Fj hi Se hq]at*;refine⟨λh=>by omega,λ_=> ?_⟩;rw[he];by_cases hcc:R.length+1≤c
  ·refine ai.gR [12,23] [] [.arr 34 B,.arr 34 [bm t]] (hA hcc) (by simp[ab,ah,ef.refs]) (by simp[az,aS,ef.aE]) ?_;rintro r fp ⟨B2,⟨rf,AW,Hc⟩,rfl,rfl⟩;refine⟨by simp[ab,af,ah,cY,rf.refs],?_⟩;simp[aI,az,aE,aS,cL,rf.aE];refine aA.plain [.keep [4],.fz 12] ?_;have hle:R.length+1≤B2.length:=by omega
   simp[rf.refs];rw[if_pos ⟨AW.symm,hle⟩,Hc];simp[cE,nG]
  ·obtain rfl:c=R.length:=by omega
   refine ai.gA [12,23] [24] [.arr 34 B,.arr 34 [bm t]] hB (by simp[ab,ah,ef.refs]) (by simp[az,aS,ef.aE]) (by simp[ab,af,ah,ef.refs,cY]) ?_;simp[aI,az,aE,aS,cL,ef.aE];refine aA.plain [.keep [4],.fz 24] ?_;simp;rw[if_pos (by rw[pE _ () oJ];omega),tJ (by rw[JaX,pE _ () oJ];omega)];simp[cE,nG]
def Gq (d:bh) (p o:PV):PV:= .st 149 [aY d p,o]
@[simp↓] theorem ahm (d:bh) (p o:PV) (r:List Step):aO (Gq d p o) (.f 0 0::r)=aO (aY d p) r:=by simp[Gq]
def KC (c o:PV):PV:= .st 149 [c,o]
@[simp↓] theorem ahn (d:bh) (p o:PV) (r:List Step) (x:PV):bO (Gq d p o) (.f 0 0::r) x=(bO (aY d p) r x).bind λc=>some (KC c o):=by simp[Gq,KC]
@[simp↓] theorem amU (d:bh) (p o:PV):KC (aY d p) o=Gq d p o:=_root_.id rfl
@[simp] theorem amV (f:Nat->Bool) (d:bh) (p o:PV):af f (Gq d p o)=(af f p&&af f o):=by simp[Gq,ah]
@[simp] theorem aq2 (ρ:Nat->Nat) (d:bh) (p o:PV):aE ρ (Gq d p o)=Gq d (aE ρ p) (aE ρ o):=by simp[Gq,aS]
def Nn (d:bh) (k:Key):bh:= {d with random:=k.fv}
def fa:List UInt8:=[100,114,97,119]
theorem acO {d:bh} {k:Key} (hk:d.random=k.fv) {m:Nat} {L:List PV} (hL:au L) {o:PV} (ho:Pure o):
  ae Pg 84 [.pt KB [] 0] [.box (Gq d (.rs (KB+1) [] 0 m m 464 .tip) o),.arr 464 L] (λx fp=>x=aG (Gf k.l fa)∧fp=[.box (Gq (Nn d (uh k.l fa)) (.rs (KB+1) [] 0 m m 464 .tip) o),.arr 464 L]):=by
 refine ae.intro (aC R.eN.2) (by simp[R.eN]) ?_;have hE:=iy k (input:=fa) (by decide);have hr:d.random.p=aG k:=by rw[hk];rfl
 generalize uh k.l fa=kA at*;generalize Gf k.l fa=kB at*;simp[R.eN,aj,av];refine ai.view [KB,KB+1] [11] [.box (Gq d (.rs (KB+1) [] 0 m m 464 .tip) o),.arr 464 L] (bC:=[.rs KB [Step.f 0 0,Step.f 4 75] 0 32 0 1 .clip,aQ fa,.int .i64 2]) (cg:=[.box (Gq d (.rs (KB+1) [] 0 m m 464 .tip) o),.arr 464 L]) hE (by simp[getAll]) (by simp) (by simp) (by simp[ah,af,bT,idx]) (by simp[ab,af,bT,idx,ho.refs,hL.refs]) (by simp[aS,aE,bz,idx];rfl) (by simp[az,aE,bz,idx,ho.aE,hL.aE]) ?_ ?_ ?_
 ·refine⟨.inl (.inr ⟨KB,[Step.f 0 0,Step.f 4 75],0,32,0,1,.clip,mB k.l,rfl,?_,(aF (λ_=>by simp[u8]) _).refs _,by omega,rfl⟩),.inl (.inl ⟨rfl,(nT _).refs _⟩),.inl (.inl ⟨rfl,by simp[af]⟩),trivial⟩;simp[av,hr,aG];exact tJ (by simp[k.h])
 ·rintro r new ⟨rfl,rfl⟩;refine⟨⟨by simp[gf,lR],?_⟩,rfl⟩;have nA:=dv kA;have nB:=dv kB;simp only[gf,aG]at nA nB;simp[tU,eG,aG,nA,nB]
 ·rintro r new ⟨rfl,rfl⟩;have rA:∀f,af f (aG kA)=true:=λf=>(jD kA).refs f;have rB:∀f,af f (aG kB)=true:=λf=>(jD kB).refs f;have uA:∀f,aE f (aG kA)=aG kA:=λf=>(jD kA).aE f;have uB:∀f,aE f (aG kB)=aG kB:=λf=>(jD kB).aE f;have e4:yr d (.rs (KB+1) [] 0 m m 464 .tip) (aG kA)=aY (Nn d kA) (.rs (KB+1) [] 0 m m 464 .tip):=rfl;simp[az,aE,aS,cL,ab,af,ah,cY,aI,ho.refs,ho.aE,hL.refs,hL.aE,e4];refine aA.with [] [KB,KB+1] ?_;simp[ho.refs,ho.aE,hL.refs,hL.aE,ab,af,bT,idx,az,aE]
def jo (a b:Key):PV:= .st 64 [aG a,aG b]
@[simp] theorem aho (a b:Key):(jo a b).width=64:=rfl
@[simp] theorem aq3 (a b:Key):(jo a b).isAgg=true:=rfl
@[simp] theorem amW (a b:Key):(jo a b).aT=true:=rfl
@[simp] theorem amX (a b:Key):(jo a b).flat=true:=rfl
@[simp] theorem DG (a b:Key):Pure (jo a b):=by simp[jo]
@[simp] theorem auw (a b:Key):wk (jo a b)=jo a b:=by simp[jo]
@[simp↓] theorem aq4 (g:Bool) (a b:Key) (K:PV->Prop):ei g (jo a b) K=K (jo a b):=_root_.id rfl
@[simp↓] theorem ahp (a b:Key) (r:List Step):aO (jo a b) (.f 0 0::r)=aO (aG a) r:=by simp[jo,aO]
@[simp↓] theorem ahq (a b:Key) (r:List Step):aO (jo a b) (.f 1 32::r)=aO (aG b) r:=by simp[jo,aO,aB]
@[simp↓] theorem ahr (a b k:Key):bO (jo a b) [.f 0 0] (aG k)=some (jo k b):=by simp[jo,bO]
@[simp↓] theorem ahs (a b k:Key):bO (jo a b) [.f 1 32] (aG k)=some (jo a k):=by simp[jo,bO,aB]
theorem cr (l:List UInt8):au (l.map u8):=aF (λ_=>by simp[u8]) _
theorem wkB (l:List UInt8):fP (l.map u8)=l.map u8:=mY (λ_=>by simp[u8]) _
theorem nW (k:Key):aG k= .ar 1 32 (k.l.map u8):=rfl
@[simp] theorem aht (n:List UInt8):Pure (ji n):=by simp[ji,cr n]
@[simp] theorem aq5 (n:List UInt8):wk (ji n)=ji n:=by simp[ji,wkB n]
@[simp] theorem adA (n:List UInt8):(ji n).width=12:=rfl
@[simp] theorem amY (n:List UInt8):(ji n).isAgg=true:=rfl
@[simp↓] theorem amZ (g:Bool) (n:List UInt8) (K:PV->Prop):ei g (ji n) K=K (ji n):=_root_.id rfl
theorem IT (bx:List (Nat×aU)):∀ {l:List PV},au l->Ob bx l l
 |[],_=>trivial
 |
  p::l,h=>by
  obtain⟨h1,h2⟩:=(JV p l).1 h
  exact⟨.inl ⟨rfl,h1.refs _⟩,IT bx h2⟩
theorem ZO (a b:Key) {ps:List (List UInt8)} (h0:ps≠[]) (hp:ps.length≤1000) (hl:ps.flatten.length≤1000000):∃a':Key,ae Pg 307 [.pt KB [] 0,.sl 1 (ps.map aQ) false] [.box (.st 64 [jo a b])] (λr fp=>r= .tup []∧fp=[.box (.st 64 [jo a' b])]):=by
 have hA:=gv (ps:=a.l::ps) (by simp;omega) (by rw[JsQ,JaJ,a.h];omega) (by rw[JsQ,JaJ,a.h];omega);generalize iU (a.l::ps).flatten=a' at*;refine⟨a',?_⟩;refine ae.intro (aC R.ee.2) (by simp[R.ee]) ?_;have AV:au (ps.map aQ):=aF (λ_=>by simp) _;have KO:fP (ps.map aQ)=ps.map aQ:=mY (λ_=>by simp) _;have oJ:(ps.map aQ).length=ps.length:=JaX _;rw[JdX]at hA;have hW0:ps.map aQ≠[]:=by simpa using h0
 generalize hPe:ps.map aQ=W at*;have hpa:=cr a.l;have hta:(a.l.map u8).take 32=a.l.map u8:=tJ (by simp[a.h]);simp[R.ee,aj,av,oJ,hW0];refine⟨⟨by omega,by omega⟩,?_⟩;have hlen:(PV.rs KB [Step.f 0 0,Step.f 0 0] 0 32 0 1 .clip::W).length=1+ps.length:=by rw[JcQ,oJ];omega
 refine ai.view [KB,12] [] [.box (.st 64 [jo a b]),.arr 1 (.rs KB [.f 0 0,.f 0 0] 0 32 0 1 .clip::W)] (bC:=[.rs (KB+1) [] 0 (1+ps.length) (1+ps.length) 1 .tip]) (args0:=[.sl 1 (aQ a.l::W) false]) (cg:=[.box (.st 64 [jo a b]),.arr 1 (.rs KB [.f 0 0,.f 0 0] 0 32 0 1 .clip::W)]) hA
  (by simp[getAll]) (by simp) (by simp) (by simp[ah,af,bT,idx]) (by simp[ab,af,ah,bT,idx,AV.refs]) (by simp[aS,aE,bz,idx]) (by simp[az,aE,aS,bz,idx,AV.aE]) ?_ ?_ ?_
 ·refine⟨.inr (.inr ⟨KB+1,[],0,1+ps.length,1+ps.length,1,.tip,PV.rs KB [Step.f 0 0,Step.f 0 0] 0 32 0 1 .clip::W,aQ a.l::W,rfl,?_,⟨.inr ⟨KB,[.f 0 0,.f 0 0],0,32,0,1,.clip,a.l.map u8,rfl,?_,hpa.refs _,by omega,rfl⟩,IT _ AV⟩,by omega,rfl⟩),trivial⟩
  ·have htw:W.take ps.length=W:=by rw[←oJ,JcX]
   simp[av,oJ,Nat.add_comm 1,htw]
  ·simp[av,nW,hta]
 ·rintro r new ⟨rfl,rfl⟩;exact⟨⟨dv _,by simp⟩,rfl⟩
 ·rintro r new ⟨rfl,rfl⟩;simp[ab,af,ah,cY,AV.refs,az,aE,aS,cL,AV.aE,aI];refine aA.with [] [KB] ?_;simp[dh,ab,af,ah,az,aE,aS]
theorem adB (a b k:Key):∃a':Key,ae Pg 307 [.pt KB [] 0,.sl 1 [.rs (KB+1) [] 0 32 0 1 .clip] false] [.box (.st 64 [jo a b]),.box (aG k)] (λr fp=>r= .tup []∧fp=[.box (.st 64 [jo a' b]),.box (aG k)]):=by
 have hA:=gv (ps:=[a.l,k.l]) (by simp) (by simp[a.h,k.h]) (by simp[a.h,k.h]);generalize iU [a.l,k.l].flatten=a' at*;refine⟨a',?_⟩;refine ae.intro (aC R.ee.2) (by simp[R.ee]) ?_;have hpa:=cr a.l;have wv:=cr k.l;have hta:(a.l.map u8).take 32=a.l.map u8:=tJ (by simp[a.h]);have kX:(k.l.map u8).take 32=k.l.map u8:=tJ (by simp[k.h]);simp[R.ee,aj,av]
 refine ai.view [KB,KB+1,12] [] [.box (.st 64 [jo a b]),.box (aG k),.arr 1 [.rs KB [.f 0 0,.f 0 0] 0 32 0 1 .clip,.rs (KB+1) [] 0 32 0 1 .clip]] (bC:=[.rs (KB+2) [] 0 2 2 1 .tip]) (args0:=[.sl 1 [aQ a.l,aQ k.l] false]) (cg:=[.box (.st 64 [jo a b]),.box (aG k),.arr 1 [.rs KB [.f 0 0,.f 0 0] 0 32 0 1 .clip,.rs (KB+1) [] 0 32 0 1 .clip]]) hA
  (by simp[getAll]) (by simp) (by simp) (by simp[ah,af,bT,idx]) (by simp[ab,af,ah,bT,idx]) (by simp[aS,aE,bz,idx]) (by simp[az,aE,aS,bz,idx]) ?_ ?_ ?_
 ·refine⟨.inr (.inr ⟨KB+2,[],0,2,2,1,.tip,[.rs KB [.f 0 0,.f 0 0] 0 32 0 1 .clip,.rs (KB+1) [] 0 32 0 1 .clip],[aQ a.l,aQ k.l],rfl,?_,⟨.inr ⟨KB,[.f 0 0,.f 0 0],0,32,0,1,.clip,a.l.map u8,rfl,?_,hpa.refs _,by omega,rfl⟩,.inr ⟨KB+1,[],0,32,0,1,.clip,k.l.map u8,rfl,?_,wv.refs _,by omega,rfl⟩,trivial⟩,by omega,rfl⟩),trivial⟩
  ·simp[av]
  ·simp[av,nW,hta]
  ·simp[av,nW,kX]
 ·rintro r new ⟨rfl,rfl⟩;exact⟨⟨dv _,by simp⟩,rfl⟩
 ·rintro r new ⟨rfl,rfl⟩;simp[ab,af,ah,cY,az,aE,aS,cL,aI];refine aA.with [] [KB,KB+1] ?_;simp[dh,ab,af,ah,az,aE,aS]
theorem IU (key:Key) {input:List UInt8} (hi:input.length≤1048576):uL Pg 29 [aQ key.l,aQ input,.int .i64 1] 32 [aG (uh key.l input)]:=by
 refine ae.intro (aC R.iy.2) (by simp[R.iy]) ?_;have h0:=nu (key:=key.l) (by rw[key.h];omega) (ps:=[input]) (by simp) (by simpa using hi);have h1:=nu (key:=(Ki key.l input).l) (by rw[(Ki key.l input).h];omega) (ps:=[[],[1]]) (by simp) (by simp);rw[show qq key.l [input]=Ki key.l input from rfl]at h0;rw[show qq (Ki key.l input).l [[],[1]]=uh key.l input from rfl]at h1;generalize Ki key.l input=kT at*;generalize uh key.l input=kA at*;simp[R.iy,aj,av];refine ai.rA h0 ?_;simp;refine mH.G3 1 (mH.s ?_);simp[↓al];have g1:aL Pg 80 [.sl 1 (mB kT.l) false,.sl 1 (([[],[.int .u8 1]]:List (List PV)).map λl=> .sl 1 l false) false] (aG kA):=h1;have lT:(mB kT.l).length=32:=by rw[mB,JaX,kT.h]
 have pT:au (mB kT.l):=aF (λ_=>by simp[u8]) _;have nA:=dv kA;refine ZC (pth:=[]) (M:=aG kT) (L:=mB kT.l) (ls:=[[],[.int .u8 1]]) g1 (by simp) nA (by simp) (by simp;rfl) lT (by simp) pT (by simp) ?_;simp;refine⟨[.keep [0,1,2,6,8,22,23],.mv 37 91],?_⟩;simp[ze];refine mH.z ?_;simp[↓al];refine aA.with [.keep [6]] [91] ?_;simp[ab,ah,az,aS]
theorem RM (a b:Key) {inp:List UInt8} {n:Int} {k0:Key} {kr:List Key} (hE:uL Pg 29 [aQ b.l,aQ inp,.int .i64 n] 32 ((k0::kr).map aG)) (hl:kr.length≤10):
  ae Pg 353 [.pt KB [] 0,aQ inp,.int .i64 n] [.box (.st 64 [jo a b])] (λr fp=>r= .rs (KB+1) [] 1 kr.length (kr.length+1) 32 .tip∧fp=[.box (.st 64 [jo a k0]),.arr 32 ((k0::kr).map aG)]):=by
 refine ae.intro (aC R.jN.2) (by simp[R.jN]) ?_;have htb:(b.l.map u8).take 32=b.l.map u8:=tJ (by simp[b.h]);have I2:=cr b.l;have wv:au (kr.map aG):=aF jD kr;have qF:(kr.map aG).length=kr.length:=JaX _;have SZ:eG ((k0::kr).map aG)=true:=kM (λk=>by have:=dv k;simpa[gf,aG]using this) _;rw[JdX]at hE SZ⊢;generalize kr.map aG=W at*;simp[R.jN,aj,av];refine ai.vA (bC:=[.rs KB [.f 0 0,.f 1 32] 0 32 0 1 .clip,aQ inp,.int .i64 n]) (cg:=[.box (.st 64 [jo a b])]) [KB] [15] [.box (.st 64 [jo a b])] hE (by simp[ab,af,ah]) (by simp[az,aE,aS]) ?_ ?_ ?_
 ·refine⟨.inl (.inr ⟨KB,[.f 0 0,.f 1 32],0,32,0,1,.clip,b.l.map u8,rfl,?_,I2.refs _,by omega,rfl⟩),.inl (.inl ⟨rfl,(nT _).refs _⟩),.inl (.inl ⟨rfl,by simp[af]⟩),trivial⟩;simp[av,nW,htb]
 ·rintro r new ⟨rfl,rfl⟩;exact⟨⟨by simp[gf,lR],by simp[tU,SZ]⟩,rfl⟩
 ·rintro r new ⟨rfl,rfl⟩;simp[ab,af,ah,cY,az,aE,aS,cL,aI,wv.refs,wv.aE,qF];refine⟨by omega,?_⟩;refine aA.with [.keep [6]] [KB,15] ?_;simp[ab,af,ah,az,aE,aS,bz,idx,wv.refs,wv.aE]
theorem am0 (a b:Key) {ps:List (List UInt8)} (h0:ps≠[]) (hp:ps.length≤1000) (hl:ps.flatten.length≤1000000):∃a':Key,aL Pg 352 [jo a b,.sl 1 (ps.map aQ) false] (jo a' b):=by
 obtain⟨a',hA⟩:=ZO a b h0 hp hl;refine⟨a',?_⟩;refine ae.intro (aC R.rZ.2) (by simp[R.rZ]) ?_;have AV:au (ps.map aQ):=aF (λ_=>by simp) _;have KO:fP (ps.map aQ)=ps.map aQ:=mY (λ_=>by simp) _;generalize ps.map aQ=W at*;simp[R.rZ,aj,av];refine ai.gen [5] [] [.box (.st 64 [jo a b])] hA (by simp[getAll]) (by simp) (by simp) (by simp[ah,af,bT,idx,AV.refs]) (by simp[ab,af,ah]) (by simp[aS,aE,bz,idx,AV.aE,KO]) (by simp[az,aE,aS]) (by simp[ab,af,ah]) ?_;simp[aI,az,aE,aS];refine aA.plain [.keep [4]] ?_;simp
theorem am1 (a b:Key) {inp:List UInt8} (hi:inp.length≤1048576):∃b':Key,aL Pg 314 [jo a b,aQ inp] (jo a b'):=by
 have hA:=RM a b (n:=1) (k0:=uh b.l inp) (kr:=[]) (IU b hi) (by simp);generalize uh b.l inp=k0 at*;refine⟨k0,?_⟩;refine ae.intro (aC R.qC.2) (by simp[R.qC]) ?_;simp[R.qC,aj,av];refine ai.gA [5] [50] [.box (.st 64 [jo a b])] hA (by simp[ab,af,ah]) (by simp[az,aE,aS]) (by simp[ab,af,ah,cY]) ?_;simp[aI,az,aE,aS,cL];refine aA.plain [.keep [4]] ?_;simp
theorem ZP (a b:Key) {inp:List UInt8} (hi:inp.length≤1048576):∃b' k:Key,aL Pg 309 [jo a b,aQ inp] (.tup [jo a b',aG k]):=by
 have hA:=RM a b (n:=2) (k0:=uh b.l inp) (kr:=[Gf b.l inp]) (iy b hi) (by simp);generalize uh b.l inp=k0 at*;generalize Gf b.l inp=k1 at*;refine⟨k0,k1,?_⟩;refine ae.intro (aC R.tH.2) (by simp[R.tH]) ?_;simp[R.tH,aj,av];refine ai.gA [6] [50] [.box (.st 64 [jo a b])] hA (by simp[ab,af,ah]) (by simp[az,aE,aS]) (by simp[ab,af,ah,cY]) ?_;simp[aI,az,aE,aS,cL];refine lv.run [4,5] rfl ?_;simp;refine aA.plain [.keep [4,5]] ?_;simp
noncomputable def F.nsl:cZ:=⟨R.NU.1.nt,R.NU.1.res,mP R.NU.1.code [1,1]⟩
theorem T.nsl:mX Pg [18] [] 317=some F.nsl.er:=EY [1,1] (aC R.NU.2)
theorem am3 (a b k:Key) {pl:List UInt8} (hp:pl.length≤100000):∃(a':Key) (s:List UInt8),s.length=pl.length+16∧ae Pg 317 [jo a b,aG k,.rs KB [] 0 pl.length 0 1 .clip] [.box (.ar 1 pl.length (pl.map u8))] (λr fp=>r= .tup [jo a' b,aQ s]∧fp=[.box (.ar 1 pl.length (pl.map u8))]):=by
 obtain⟨c,hc,hC⟩:=H9 0;obtain⟨s,hs,hS⟩:=Q4 k.h hc hp (m:=a.l) (by rw[a.h];omega);obtain⟨a',hH⟩:=ZO a b (ps:=[s]) (by simp) (by simp) (by simp;omega);refine⟨a',s,hs,?_⟩;refine ae.intro T.nsl (by simp[F.nsl,R.NU]) ?_;have hta:(a.l.map u8).take 32=a.l.map u8:=tJ (by simp[a.h]);have hpa:=cr a.l;have En:=cr s;have AV:=cr pl;have Oq:(pl.map u8).take pl.length=pl.map u8:=tJ (by simp);have hcn:Pure (ji c):=by simp[ji,cr c]
 have hcw:wk (ji c)=ji c:=by simp[ji,wkB c]
 have SZ:eG (s.map u8)=true:=kM (λ_=>rfl) _;have DQ:(s.map u8).length=s.length:=JaX _;simp[F.nsl,R.NU,mP,aj,av];refine N8.of (λs'=>s'=⟨[(6,.pt 6 [] 0),(8,.pt 8 [] 0),(9,aQ s)],[(6,.box (.st 64 [.ar 1 32 (zr 32 (.int .u8 0)),.ar 1 32 (zr 32 (.int .u8 0))])),(8,.box (.st 64 [jo a b])),(KB,.box (.ar 1 pl.length (pl.map u8)))]⟩) ?_ ?_
 ·simp;refine aM.ret hC (by simp) (by simp) (by simp[hcn]) ?_;simp;refine ai.view [8,KB] [18] [.box (.st 64 [jo a b]),.box (.ar 1 pl.length (pl.map u8))] (bC:=[aG k,ji c,.rs (KB+1) [] 0 pl.length 0 1 .clip,.rs KB [.f 0 0,.f 0 0] 0 32 0 1 .clip]) (cg:=[.box (.st 64 [jo a b]),.box (.ar 1 pl.length (pl.map u8))]) hS (by simp[getAll]) (by simp) (by simp) (by simp[ah,af,bT,idx]) (by simp[ab,af,ah]) (by simp[aS,aE,bz,idx,hcw]) (by simp[az,aE,aS]) ?_ ?_ ?_
  ·refine⟨.inl (.inl ⟨rfl,(jD k).refs _⟩),.inl (.inl ⟨rfl,hcn.refs _⟩),.inl (.inr ⟨KB+1,[],0,pl.length,0,1,.clip,pl.map u8,rfl,?_,AV.refs _,by omega,rfl⟩),.inl (.inr ⟨KB,[.f 0 0,.f 0 0],0,32,0,1,.clip,a.l.map u8,rfl,?_,hpa.refs _,by omega,rfl⟩),trivial⟩
   ·simp[av,Oq]
   ·simp[av,nW,hta]
  ·rintro r new ⟨rfl,rfl⟩;exact⟨⟨by simp[gf,lR],by simp[tU,SZ]⟩,rfl⟩
  ·rintro r new ⟨rfl,rfl⟩;simp[ab,af,ah,cY,az,aE,aS,cL,aI,DQ];refine⟨[.keep [6,8,9],.dr 3,.dr 4,.fz 18],?_⟩;have kX:(s.map u8).take s.length=s.map u8:=tJ (by simp);simp[bn,bU,ab,af,ah,DQ,kX];rfl
 ·rintro s' rfl;simp;refine ai.gA [8] [] [.box (.st 64 [jo a b])] hH (by simp[ab,af,ah]) (by simp[az,aE,aS]) (by simp[ab,af,ah]) ?_;simp[aI,az,aE,aS];refine aA.with [.keep [6,7]] [KB] ?_;simp[ab,af,az,aE]
def idL:List PV:=[.int .u8 87,.int .u8 105,.int .u8 114,.int .u8 101,.int .u8 71,.int .u8 117,.int .u8 97,.int .u8 114,.int .u8 100,.int .u8 32,.int .u8 118,.int .u8 49,.int .u8 32,.int .u8 122,.int .u8 120,.int .u8 50,.int .u8 99,.int .u8 52,.int .u8 32,.int .u8 74,.int .u8 97,.int .u8 115,.int .u8 111,.int .u8 110,.int .u8 64,.int .u8 122,.int .u8 120,.int .u8 50,.int .u8 99,.int .u8 52,.int .u8 46,.int .u8 99,.int .u8 111,.int .u8 109]
theorem am4:aQ [87,105,114,101,71,117,97,114,100,32,118,49,32,122,120,50,99,52,32,74,97,115,111,110,64,122,120,50,99,52,46,99,111,109]= .sl 1 idL false:=rfl
theorem am5:au idL:=by simp[idL]
theorem adD (p:Key):∃a b:Key,aL Pg 221 [aG p] (jo a b):=by
 have h1:=gv (ps:=[[78,111,105,115,101,95,73,75,112,115,107,50,95,50,53,53,49,57,95,67,104,97,67,104,97,80,111,108,121,95,66,76,65,75,69,50,115]]) (by simp) (by simp) (by simp);generalize iU _=b at h1;have h2:=gv (ps:=[b.l,[87,105,114,101,71,117,97,114,100,32,118,49,32,122,120,50,99,52,32,74,97,115,111,110,64,122,120,50,99,52,46,99,111,109]]) (by simp) (by simp) (by simp[b.h]);generalize iU _=a at h2;obtain⟨a',h3⟩:=adB a b p;refine⟨a',b,?_⟩;refine ae.intro (aC R.nst.2) (by simp[R.nst]) ?_;have e1:aQ [78,111,105,115,101,95,73,75,112,115,107,50,95,50,53,53,49,57,95,67,104,97,67,104,97,80,111,108,121,95,66,76,65,75,69,50,115]= .sl 1 [.int .u8 78,.int .u8 111,.int .u8 105,.int .u8 115,.int .u8 101,.int .u8 95,.int .u8 73,.int .u8 75,.int .u8 112,.int .u8 115,.int .u8 107,.int .u8 50,.int .u8 95,.int .u8 50,.int .u8 53,.int .u8 53,.int .u8 49,.int .u8 57,.int .u8 95,.int .u8 67,.int .u8 104,.int .u8 97,.int .u8 67,.int .u8 104,.int .u8 97,.int .u8 80,.int .u8 111,.int .u8 108,.int .u8 121,.int .u8 95,.int .u8 66,.int .u8 76,.int .u8 65,.int .u8 75,.int .u8 69,.int .u8 50,.int .u8 115] false:=rfl;rw[JrZ]at h1;rw[JdX,JrZ]at h2;generalize aQ [78,111,105,115,101,95,73,75,112,115,107,50,95,50,53,53,49,57,95,67,104,97,67,104,97,80,111,108,121,95,66,76,65,75,69,50,115]=E1 at*;subst e1;rw[am4]at h2;have htb:(b.l.map u8).take 32=b.l.map u8:=tJ (by simp[b.h]);have I2:=cr b.l;have ez:PV.st 64 [.ar 1 32 (zr 32 (.int .u8 0)),.ar 1 32 (zr 32 (.int .u8 0))]=jo zK zK:=by rw[cm];rfl
 have ez2:PV.st 64 [.ar 1 32 (zr 32 (.int .u8 0)),aG b]=jo zK b:=by rw[cm];rfl
 simp[R.nst,aj,av];refine ai.rA h1 ?_;simp[ez]
 refine ai.view [3] [] [.box (.st 64 [jo zK b])] (bC:=[.sl 1 [.rs KB [.f 0 0,.f 1 32] 0 32 0 1 .clip,.sl 1 idL false] false]) (args0:=[.sl 1 [aQ b.l,.sl 1 idL false] false]) (cg:=[.box (.st 64 [jo zK b])]) h2
  (by simp[getAll]) (by simp) (by simp) (by simp[ah,af,bT,idx]) (by simp[ab,af,ah]) (by simp[aS,aE,bz,idx,idL]) (by simp[az,aE,aS]) ?_ ?_ ?_
 ·refine⟨.inr (.inl ⟨1,_,[aQ b.l,.sl 1 idL false],false,rfl,⟨.inr ⟨KB,[.f 0 0,.f 1 32],0,32,0,1,.clip,b.l.map u8,rfl,?_,I2.refs _,by omega,rfl⟩,.inl ⟨rfl,by simp[af,am5.refs]⟩,trivial⟩,rfl⟩),trivial⟩;simp[av,nW,htb]
 ·rintro r new ⟨rfl,rfl⟩;exact⟨⟨dv _,by simp⟩,rfl⟩
 ·rintro r new ⟨rfl,rfl⟩;simp[ab,af,ah,az,aE,aS,aI];refine ai.gA [3,1] [] [.box (.st 64 [jo a b]),.box (aG p)] h3 (by simp[ab,af,ah]) (by simp[az,aE,aS]) (by simp[ab,af,ah]) ?_;simp[aI,az,aE,aS];refine aA.plain [.keep [2]] ?_;simp
def szE (k q:Key):Int:=if kN k q=zK then 21 else 0
theorem te:PV.ar 1 32 (zr 32 (.int .u8 0))=aG zK:=by rw[cm];rfl
theorem adF (k q:Key):aL Pg 315 [aG k,aG q] (.tup [aG (kN k q),.int .i64 (szE k q)]):=by
 have h:=my k q;unfold szE;generalize kN k q=m at*;refine ae.intro (aC R.csh.2) (by simp[R.csh]) ?_;simp[R.csh,aj,av];refine ai.rA h ?_
 have e:PV.beq (aG m) (.ar 1 32 (zr 32 (.int .u8 0)))=decide (m=zK):=by
  rw[te];exact wG _ _
 simp[e];by_cases hz:m=zK
 ·subst hz;simp;rw[te];refine⟨vK _,aA.plain [] ?_⟩;simp
 ·simp[hz];rw[te];refine⟨vK _,aA.plain [] ?_⟩;simp[hz]
def ZQ (a b:Key) (e:Int):PV:= .st 65 [jo a b,.int .i64 e]
def qD (a b:Key) (e:Int) (p:Key):PV:= .st 97 [ZQ a b e,aG p]
@[simp] theorem am6 (a b:Key) (e:Int):Pure (ZQ a b e):=by simp[ZQ]
@[simp] theorem am7 (a b:Key) (e:Int) (p:Key):Pure (qD a b e p):=by simp[qD]
@[simp↓] theorem am8 (a b:Key) (e:Int) (p:Key):aO (qD a b e p) [.f 0 0,.f 0 0]=some (jo a b):=by simp[qD,ZQ,aO]
@[simp↓] theorem am9 (a b:Key) (e:Int) (p:Key):aO (qD a b e p) [.f 0 0,.f 1 64]=some (.int .i64 e):=by simp[qD,ZQ,aO,aB]
@[simp↓] theorem ana (a b:Key) (e:Int) (p:Key):aO (qD a b e p) [.f 1 65]=some (aG p):=by simp[qD,ZQ,aO,aB]
@[simp↓] theorem anb (a b a' b':Key) (e:Int) (p:Key):bO (qD a b e p) [.f 0 0,.f 0 0] (jo a' b')=some (qD a' b' e p):=by simp[qD,ZQ,bO]
@[simp↓] theorem anc (a b:Key) (e e':Int) (p:Key):bO (qD a b e p) [.f 0 0,.f 1 64] (.int .i64 e')=some (qD a b e' p):=by simp[qD,ZQ,bO,aB]
theorem adG (a b k q p:Key):ae Pg 230 [.pt KB [.f 0 0] 0,aG k,aG q] [.box (qD a b 0 p)] (λr fp=>r= .rs (KB+1) [] 0 32 0 1 .clip∧fp=[.box (qD a b (szE k q) p),.box (aG (kN k q))]):=by
 have h:=adF k q;generalize szE k q=e at*;generalize kN k q=m at*;refine ae.intro (aC R.sha.2) (by simp[R.sha]) ?_;simp[R.sha,aj,av];refine ai.rA h ?_;simp;refine aA.with [] [KB,7] ?_;simp[ab,az,bz,idx]
theorem WL (a b k q p:Key) {e:Int} (he:e≠0):ae Pg 230 [.pt KB [.f 0 0] 0,aG k,aG q] [.box (qD a b e p)] (λr fp=>r= .sl 1 [] true∧fp=[.box (qD a b e p)]):=by
 refine ae.intro (aC R.sha.2) (by simp[R.sha]) ?_;simp[R.sha,aj,av,he];refine aA.with [] [KB] ?_;simp[ab,az]
theorem IV (a b:Key):gf (jo a b)=true:=by
 have h1:=dv a;have h2:=dv b;simpa[gf,lR,eG,jo,aG]using And.intro h1 h2
theorem WM (a b k:Key):gf (.tup [jo a b,aG k])=true:=by
 have h1:=dv a;have h2:=dv b;have h3:=dv k;simp[gf,lR,eG,jo,aG]at h1 h2 h3⊢;exact⟨⟨h1,h2⟩,h3⟩
theorem adH (a b p k:Key) (e:Int):∃b':Key,ae Pg 229 [.pt KB [.f 0 0] 0,.rs (KB+1) [] 0 32 0 1 .clip] [.box (qD a b e p),.box (aG k)] (λr fp=>r= .tup []∧fp=[.box (qD a b' e p),.box (aG k)]):=by
 obtain⟨b',h⟩:=am1 a b (inp:=k.l) (by rw[k.h];omega);refine⟨b',?_⟩;have kX:(k.l.map u8).take 32=k.l.map u8:=tJ (by simp[k.h]);have wv:=cr k.l;refine ae.intro (aC R.sch.2) (by simp[R.sch]) ?_;simp[R.sch,aj,av];refine ai.vA (bC:=[jo a b,.rs KB [] 0 32 0 1 .clip]) (args0:=[jo a b,aQ k.l]) (cg:=[.box (aG k)]) [KB+1] [] [.box (aG k)] h (by simp[ab]) (by simp[az]) ?_ ?_ ?_
 ·refine⟨.inl (.inl ⟨rfl,(DG a b).refs _⟩),.inl (.inr ⟨KB,[],0,32,0,1,.clip,k.l.map u8,rfl,?_,wv.refs _,by omega,rfl⟩),trivial⟩;simp[av,nW,kX]
 ·rintro r new ⟨rfl,rfl⟩;exact⟨⟨IV _ _,by simp⟩,rfl⟩
 ·rintro r new ⟨rfl,rfl⟩;simp[ab,az,aI];refine aA.with [] [KB,KB+1] ?_;simp[dh,ab,az]
theorem ane (a b p k:Key) (e:Int):∃a':Key,ae Pg 308 [.pt KB [.f 0 0] 0,.rs (KB+1) [] 0 32 0 1 .clip] [.box (qD a b e p),.box (aG k)] (λr fp=>r= .tup []∧fp=[.box (qD a' b e p),.box (aG k)]):=by
 obtain⟨a',h⟩:=am0 a b (ps:=[k.l]) (by simp) (by simp) (by simp[k.h]);refine⟨a',?_⟩;have kX:(k.l.map u8).take 32=k.l.map u8:=tJ (by simp[k.h]);have wv:=cr k.l;refine ae.intro (aC R.shh.2) (by simp[R.shh]) ?_;simp[R.shh,aj,av];refine ai.vA (bC:=[jo a b,.sl 1 [.rs KB [] 0 32 0 1 .clip] false]) (args0:=[jo a b,.sl 1 [aQ k.l] false]) (cg:=[.box (aG k)]) [KB+1] [] [.box (aG k)] h (by simp[ab]) (by simp[az]) ?_ ?_ ?_
 ·refine⟨.inl (.inl ⟨rfl,(DG a b).refs _⟩),.inr (.inl ⟨1,_,[aQ k.l],false,rfl,⟨.inr ⟨KB,[],0,32,0,1,.clip,k.l.map u8,rfl,?_,wv.refs _,by omega,rfl⟩,trivial⟩,rfl⟩),trivial⟩;simp[av,nW,kX]
 ·rintro r new ⟨rfl,rfl⟩;exact⟨⟨IV _ _,by simp⟩,rfl⟩
 ·rintro r new ⟨rfl,rfl⟩;simp[ab,az,aI];refine aA.with [] [KB,KB+1] ?_;simp[dh,ab,az]
theorem auC (a b p k:Key) (e:Int):∃a' b':Key,ae Pg 222 [.pt KB [.f 0 0] 0,aG k] [.box (qD a b e p)] (λr fp=>r= .tup []∧fp=[.box (qD a' b' e p)]):=by
 obtain⟨b',h1⟩:=adH a b p k e;obtain⟨a',h2⟩:=ane a b' p k e;refine⟨a',b',?_⟩;refine ae.intro (aC R.sep.2) (by simp[R.sep]) ?_;simp[R.sep,aj,av];refine ai.gA [KB,3] [] [.box (qD a b e p),.box (aG k)] h1 (by simp[ab]) (by simp[az]) (by simp[ab,af,ah]) ?_;simp[aI,az,aE,aS];refine ai.gA [KB,3] [] [.box (qD a b' e p),.box (aG k)] h2 (by simp[ab]) (by simp[az]) (by simp[ab,af,ah]) ?_;simp[aI,az,aE,aS];refine aA.with [] [KB] ?_;simp[dh,ab,az]
theorem anf (a b k q p:Key):∃b' k':Key,ae Pg 223 [.pt KB [.f 0 0] 0,aG k,aG q] [.box (qD a b 0 p)] (λr fp=>r=aG k'∧fp=[.box (qD a b' (szE k q) p)]):=by
 have h:=adG a b k q p;obtain⟨b',k',h2⟩:=ZP a b (inp:=(kN k q).l) (by rw[(kN k q).h];omega);generalize szE k q=e at*;generalize kN k q=m at*;refine⟨b',k',?_⟩;have kX:(m.l.map u8).take 32=m.l.map u8:=tJ (by simp[m.h]);have nG:=cr m.l;refine ae.intro T.ZR (by simp[F.ZR]) ?_;simp[F.ZR,aj,av];refine XW.run [KB,KB] rfl rfl rfl ?_;simp;refine⟨?_,?_⟩
 all_goals
  refine ai.gA [KB] [17] [.box (qD a b 0 p)] h (by simp[ab]) (by simp[az]) (by simp[ab,af,cY]) ?_
  simp[aI,az,aE,cL]
  refine ai.vA (bC:=[jo a b,.rs KB [] 0 32 0 1 .clip]) (args0:=[jo a b,aQ m.l]) (cg:=[.box (aG m)]) [17] [] [.box (aG m)] h2 (by simp[ab]) (by simp[az]) ?_ ?_ ?_
  ·refine⟨.inl (.inl ⟨rfl,(DG a b).refs _⟩),.inl (.inr ⟨KB,[],0,32,0,1,.clip,m.l.map u8,rfl,?_,nG.refs _,by omega,rfl⟩),trivial⟩
   simp[av,nW,kX]
  ·rintro r new ⟨rfl,rfl⟩
   exact⟨⟨WM _ _ _,by simp⟩,rfl⟩
  ·rintro r new ⟨rfl,rfl⟩
   simp[ab,az,aE,aS,aI]
   refine aA.with [] [KB] ?_
   simp[ab,az]
theorem ang (a b k q p:Key) {e:Int} (he:e≠0):∃b' k':Key,ae Pg 223 [.pt KB [.f 0 0] 0,aG k,aG q] [.box (qD a b e p)] (λr fp=>r=aG k'∧fp=[.box (qD a b' e p)]):=by
 have h:=WL a b k q p he;obtain⟨b',k',h2⟩:=ZP a b (inp:=[]) (by simp);refine⟨b',k',?_⟩;refine ae.intro T.ZR (by simp[F.ZR]) ?_;simp[F.ZR,aj,av];refine XW.run [KB,KB] rfl rfl rfl ?_;simp;refine⟨?_,?_⟩
 all_goals
  refine ai.gA [KB] [] [.box (qD a b e p)] h (by simp[ab]) (by simp[az]) (by simp[ab,af,ah]) ?_
  simp[aI,az,aE,aS]
  refine ai.ret h2 (by simp[aQ]) (by simp) (by simp) ?_
  simp
  refine aA.with [] [KB] ?_
  simp[ab,az]
theorem ZS (a b p k:Key) (e:Int) {pl:List UInt8} (hp:pl.length≤100000):∃(a':Key) (s:List UInt8),s.length=pl.length+16∧ae Pg 232 [.pt KB [.f 0 0] 0,aG k,.rs (KB+1) [] 0 pl.length 0 1 .clip] [.box (qD a b e p),.box (.ar 1 pl.length (pl.map u8))] (λr fp=>r=aQ s∧fp=[.box (qD a' b e p),.box (.ar 1 pl.length (pl.map u8))]):=by
 obtain⟨a',s,hs,h⟩:=am3 a b k hp;refine⟨a',s,hs,?_⟩;have AV:=cr pl;have En:=cr s;refine ae.intro (aC R.sse.2) (by simp[R.sse]) ?_;simp[R.sse,aj,av];refine lv.run [] rfl ?_;simp;refine ai.gA [KB+1] [] [.box (.ar 1 pl.length (pl.map u8))] h (by simp[ab,af]) (by simp[az,aE]) (by simp[ab,af,ah,aQ]) ?_;simp[aI,az,aE,aS,aQ];refine aA.with [] [KB,KB+1] ?_;simp[ab,af,az,aE]
def bA (n:Nat) (l:List UInt8):PV:= .ar 1 n (l.map u8)
def wg:List UInt8:=List.replicate 16 0
def eZ (y:Int) (E:Key) (S T M N:List UInt8):PV:= .st 141 [.int .u32 y,aG E,bA 48 S,bA 28 T,bA 16 M,bA 16 N]
theorem Lu (n:Nat):PV.ar 1 n (zr n (.int .u8 0))=bA n (List.replicate n 0):=by
 rw[cm,bA,JnV];rfl
theorem WN:aG zK=bA 32 (List.replicate 32 0):=rfl
@[simp] theorem aq6 (n:Nat) (l:List UInt8):Pure (bA n l):=by simp[bA,cr l]
@[simp] theorem awZ (n:Nat) (l:List UInt8):wk (bA n l)=bA n l:=by simp[bA,wkB l]
@[simp] theorem anh (n:Nat) (l:List UInt8):(bA n l).width=n:=by simp[bA,PV.width]
@[simp] theorem auE (n:Nat) (l:List UInt8):(bA n l).isAgg=true:=rfl
@[simp↓] theorem auF (g:Bool) (n:Nat) (l:List UInt8) (K:PV->Prop):ei g (bA n l) K=K (bA n l):=_root_.id rfl
@[simp] theorem ahv (n:List UInt8):(ji n).aT=true:=rfl
@[simp] theorem ani (a b:Key) (e:Int) (p:Key):(qD a b e p).aT=true:=rfl
@[simp] theorem ahw (a b:Key) (e:Int) (p:Key):(qD a b e p).width=97:=rfl
@[simp] theorem aq7 (a b:Key) (e:Int) (p:Key):(qD a b e p).isAgg=true:=rfl
@[simp↓] theorem aq8 (g:Bool) (a b:Key) (e:Int) (p:Key) (K:PV->Prop):ei g (qD a b e p) K=K (qD a b e p):=_root_.id rfl
theorem anj (a b k q p:Key) (e:Int):∃(b' k':Key) (e':Int),(e=0->kN k q≠zK->e'=0)∧ae Pg 223 [.pt KB [.f 0 0] 0,aG k,aG q] [.box (qD a b e p)] (λr fp=>r=aG k'∧fp=[.box (qD a b' e' p)]):=by
 by_cases he:e=0
 ·subst he;obtain⟨b',k',h⟩:=anf a b k q p;exact⟨b',k',_,λ_ hm=>by simp[szE,hm],h⟩
 ·obtain⟨b',k',h⟩:=ang a b k q p he;exact⟨b',k',e,λh0=>absurd h0 he,h⟩
theorem alr (pr pe ep:Key) {st:List UInt8} (qH:st.length=12) (y:Int):∃(y':Int) (E:Key) (S T:List UInt8) (a b:Key) (e:Int),(S.length=48∧T.length=28)∧(kN ep pe≠zK->kN pr pe≠zK->e=0)∧(e=0->y'=y)∧
  aL Pg 288 [aG pr,aG pe,aG ep,ji st,.int .u32 y] (.tup [eZ y' E S T wg wg,jo a b,.int .i64 e]):=by
 obtain⟨a0,b0,h0⟩:=adD pe;have Jd:=jl ep;have rf:=jl pr;generalize kN ep iY=eP at*;generalize kN pr iY=pP at*;obtain⟨a1,b1,h1⟩:=auC a0 b0 pr eP 0;obtain⟨b2,k2,e2,G8,h2⟩:=anj a1 b1 ep pe pr 0;obtain⟨a3,s3,hs3,h3⟩:=ZS a1 b2 pr k2 e2 (pl:=pP.l) (by rw[pP.h];omega);obtain⟨b4,k4,e4,he4,h4⟩:=anj a3 b2 pr pe pr e2;obtain⟨a5,s5,hs5,h5⟩:=ZS a3 b4 pr k4 e4 (pl:=st) (by omega);rw[pP.h]at hs3 h3;rw[qH]at hs5 h5
 have fin:aL Pg 288 [aG pr,aG pe,aG ep,ji st,.int .u32 y] (if e4=0 then .tup [eZ y eP s3 s5 wg wg,jo a5 b4,.int .i64 0]else .tup [eZ 0 zK (List.replicate 48 0) (List.replicate 28 0) wg wg,jo zK zK,.int .i64 e4])->∃(y':Int) (E:Key) (S T:List UInt8) (a b:Key) (e:Int),(S.length=48∧T.length=28)∧(kN ep pe≠zK->kN pr pe≠zK->e=0)∧(e=0->y'=y)∧
  aL Pg 288 [aG pr,aG pe,aG ep,ji st,.int .u32 y] (.tup [eZ y' E S T wg wg,jo a b,.int .i64 e]):=by
  intro h
  by_cases he:e4=0
  ·rw[if_pos he]at h
   exact⟨y,eP,s3,s5,a5,b4,0,⟨hs3,hs5⟩,λ_ _=>rfl,λ_=>rfl,h⟩
  ·rw[if_neg he]at h
   exact⟨0,zK,_,_,zK,zK,e4,⟨by simp,by simp⟩,λm1 m2=>he4 (G8 rfl m1) m2,λh0=>absurd h0 he,h⟩
 refine fin ?_;clear fin;clear G8 he4;have AV:=cr pP.l;have aAU:=cr st;have hpS:=cr s3;have hpT:=cr s5;have eSd:PV.st 97 [.st 65 [jo a0 b0,.int .i64 0],aG pr]=qD a0 b0 0 pr:=rfl;have ep1:aG pP= .ar 1 32 (pP.l.map u8):=rfl;have ep2:ji st= .ar 1 12 (st.map u8):=rfl;generalize hV:(if e4=0 then PV.tup [eZ y eP s3 s5 wg wg,jo a5 b4,.int .i64 0]else .tup [eZ 0 zK (List.replicate 48 0) (List.replicate 28 0) wg wg,jo zK zK,.int .i64 e4])=V;refine ae.intro T.A0 (by simp[F.A0]) ?_;simp[F.A0,aj,av];refine aM.rA h0 ?_;simp[eSd];refine ai.rA Jd ?_;simp;refine ai.rA rf ?_;simp;refine ai.gA [22] [] [.box (qD a0 b0 0 pr)] h1 (by simp[ab]) (by simp[az]) (by simp[ab,af,ah]) ?_;simp[aI,az,aE,aS];refine lv.run [] rfl ?_;simp;refine ai.gA [22] [] [.box (qD a1 b1 0 pr)] h2 (by simp[ab]) (by simp[az]) (by simp[ab]) ?_;simp[aI,az];refine ai.gA [22,15] [] [.box (qD a1 b2 e2 pr),.box (aG pP)] h3 (by simp[ab]) (by simp[az,aE,ep1]) (by simp[ab,af,aQ]) ?_;have lS:48≤s3.length:=by omega
 have tS:(s3.map u8).take 48=s3.map u8:=tJ (by simp[hs3]);have lT:28≤s5.length:=by omega
 have tT:(s5.map u8).take 28=s5.map u8:=tJ (by simp[hs5]);simp[aI,az,aE,aQ,lS,tS];refine ai.gA [22] [] [.box (qD a3 b2 e2 pr)] h4 (by simp[ab]) (by simp[az]) (by simp[ab]) ?_;simp[aI,az];refine ai.gA [22,8] [] [.box (qD a3 b4 e4 pr),.box (ji st)] h5 (by simp[ab]) (by simp[az,aE,ep2]) (by simp[ab,af,aQ]) ?_;simp[aI,az,aE,aQ,lT,tT];refine⟨λhe=> ?_,λhe=> ?_⟩
 ·rw[if_neg he]at hV;subst hV;refine lv.run [10,11] rfl ?_;simp[-List.reduceReplicate];refine aA.plain [.keep [10,11,12]] ?_;simp[-List.reduceReplicate];simp only[Lu,eZ,jo,WN,and_self,wg]
 ·rw[if_pos he]at hV;subst hV he;refine lv.run [10,11] rfl ?_;simp[-List.reduceReplicate];refine aA.plain [.keep [10,11,12]] ?_;simp[-List.reduceReplicate];simp only[Lu,eZ,wg];rfl
end Go.Ab
