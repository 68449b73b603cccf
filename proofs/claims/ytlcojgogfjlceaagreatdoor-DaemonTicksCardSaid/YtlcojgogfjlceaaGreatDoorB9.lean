/- Functions of the program and of the document, as the abstract reading walks them, part 9. No condition. -/
import Derived.Test.YtlcojgogfjlceaaGreatDoorB8
import Derived.Test.YtlcojgogfjlceaaGreatDoorA5
import Derived.Lib.Overlaps
import Derived.Test.YtlcojgogfjlceaaGreatDoorSF1
import Derived.Test.YtlcojgogfjlceaaGreatDoorSF2
import Derived.Test.YtlcojgogfjlceaaGreatDoorSF3
import Derived.Test.YtlcojgogfjlceaaGreatDoorSF4
import Derived.Test.YtlcojgogfjlceaaGreatDoorSF5
import Derived.Test.YtlcojgogfjlceaaGreatDoorSF6
import Derived.Test.YtlcojgogfjlceaaGreatDoorB5
import Derived.Test.YtlcojgogfjlceaaGreatDoorB4
import Derived.Test.YtlcojgogfjlceaaGreatDoorB3
set_option maxRecDepth 10000
set_option maxHeartbeats 4000000
set_option linter.all false
noncomputable section
namespace Go.Ab
@[simp↓] theorem arB {s:St} (d:Option Nat) (sz:Nat) (p:PV) (K:St->Prop) (k:Nat) (pth:List Step) (off len aO z:Nat) (c:fB):Yn s d sz p K (.rs k pth off len aO z c)=zL s (λbP l=>(l=[]∨bP=sz)∧SM s d sz l K p) (.rs k pth off len aO z c):=_root_.id rfl
theorem Xa {l:List cV} (h:l.length≤1048576) (k:Key) (n:Int):ae Pg 79 [cC l,aG k,.int .i64 n] [] (λr fp=>∃(J:List PV) (c:Nat),(an J∧(bg l k n).length≤c∧c≤(bg l k n).length+J.length)∧r= .rs KB [] 0 (bg l k n).length ((bg l k n).length+J.length) 34 (.full c)∧fp=[.arr 34 ((bg l k n).map bj++J)]):=by
 refine ae.intro (aC R.iY.2) (by simp[R.iY]) ?_;have oT:∀l:List cV,an (l.map bj):=λl=>aF iT l;have rD:u9 Pg 58 [.sl 34 (l.map bj) false] 34 (l.map bj):=me (bytes:=48) (aC R.eN.2) (by omega) (oT l) (by simpa using h) (by omega);have hd:=alP (L:=l) h (g:=162) (q:=λt=> !oE k n t) (v:=aG k) (w:= .int .i64 n) (by simp) (by simp) (λx _=>Zv x k n);have hf:(l.filter λx=> !!oE k n x)=bg l k n:=by simp only[Bool.not_not];rfl
 rw[hf]at hd;simp[R.iY,aj,av,cC];refine ai.own 8 rD (by simp) (by simp[oT]) (oT l) (by simp) ?_;simp;refine ai.gR [8,4,5] [] [.arr 34 (l.map bj),.box (aG k),.box (.int .i64 n)] hd (by simp[ab,af]) (by simp[az,aE]) ?_;rintro r fp ⟨J,c,⟨hJ,h1,h2⟩,rfl,rfl⟩;have eE:an ((bg l k n).map bj++J):=(oT _).append hJ;have lY:((bg l k n).map bj++J).length=(bg l k n).length+J.length:=by simp
 have hR:∃(J':List PV) (c':Nat),(an J'∧(bg l k n).length≤c'∧c'≤(bg l k n).length+J'.length)∧(J.length=J'.length∧c=c')∧(bg l k n).map bj++J=(bg l k n).map bj++J':=⟨J,c,⟨hJ,h1,h2⟩,⟨rfl,rfl⟩,rfl⟩
 generalize hB:(bg l k n).map bj++J=B at eE lY hR⊢;refine⟨by simp[ab,af,c9,eE.refs],?_⟩;simp[aI,az,aE,cU,eE.aE];refine aA.with [.keep [6]] [8] ?_;simp[ab,az,eE.refs,eE.aE];exact hR
theorem ano {x:PV} {B:List PV} {off len:Nat} {c:fB} (ho:0<B.length) (hl:1≤len):ae Pg 364 [.rs KB [] 0 1 1 34 .tip,.rs (KB+1) [] off len B.length 34 c] [.arr 34 [x],.arr 34 B] (λr fp=>r= .bl false∧fp=[.arr 34 [x],.arr 34 B]):=by
 intro Γ w vs hw hm lK hA;match vs,hA with
 |
  [v1,v2],hA=>
  obtain⟨h1,h2,_⟩:=hA
  have g1:get Γ.bx KB=some (.arr 34 [x]):=by rw[lK];rfl
  have g2:get Γ.bx (KB+1)=some (.arr 34 B):=by rw[lK];rfl
  obtain⟨a1,c1,e1,k1⟩:=h1.rs g1 (by simp[aV.aO])
  obtain⟨a2,c2,e2,k2⟩:=h2.rs g2 (by simp[aV.aO])
  obtain⟨_,_,r1⟩:=hm.blk _ _ g1
  obtain⟨r2w,_,r2⟩:=hm.blk _ _ g2
  unfold ia at k1 k2
  cases i1:Γ.ι KB with
  |none=>rw[i1]at k1;exact absurd k1.1 (by omega)
  |
   some b1=>
   cases i2:Γ.ι (KB+1)with
   |none=>rw[i2]at k2;exact absurd k2.1 (by omega)
   |
    some b2=>
    rw[i1]at k1 r1;rw[i2]at k2 r2
    obtain⟨p1,p2,_⟩:=k1
    obtain⟨q1,q2,_⟩:=k2
    rcases p2 with p2|rfl
    ·omega
    rcases q2 with q2|rfl
    ·omega
    obtain⟨cc1,ce1,cs1,aoE,u1,u2,u3,_⟩:=r1
    obtain⟨cc2,ce2,cs2,Sw,w1,w2,w3,_⟩:=r2
    have cI:b1≠b2:=λe=>by
     have:=hm.inj KB (KB+1) b1 (by rw[g1];rfl) (by rw[g2];rfl) i1 (by rw[i2,e]);omega
    rw[←hw]at u1 w1
    have Bv:cc2.size≠0:=by
     have e1:cs2.length=B.length*34:=by rw[w3.length,bf r2w]
     have e2:cc2.size=cs2.length+Sw.length:=by rw[←JbZ,w2];simp
     omega
    have fU:=Go.Lib.run_overlaps_apart (P:=Pg) w 32 4 84 (by kernel_rfl) 34 (λw=>run_sizeOf (by kernel_rfl)) ⟨b1,bK []+0*34,none⟩ ⟨b2,bK []+off*34,none⟩ 1 c1 len c2 cI ce1 ce2 cc1.size cc2.size (by simp[World.shape?,u1]) (by simp[World.shape?,w1]) Bv (by simp[World.frozen?,u1]) (by simp[World.frozen?,u1])
    rw[e1,e2]
    refine .inr ⟨.bool false,w,?_,_,_,[.arr 34 [x],.arr 34 B],Γ,rfl,⟨rfl,rfl⟩,hw,hm,lK,iK,Le.refl Γ,WF.refl w⟩
    rw[run_callFunc_extern (fn:=(Pg.funcs[364]?).getD default) (by kernel_rfl) (by kernel_rfl) (by kernel_rfl) (by kernel_rfl) (e:=Extern.SlicesOverlaps.overlaps #[32,32] #[4]) (by kernel_rfl)]
    rw[fU]
    rfl
theorem Ig {B:List PV} {n i N:Nat} (hB:B.length=N) (hi:i<n) (hn:n+1≤N) (x:PV):
  ∃
   B1,(List.take (i+1) B++(List.take (n-i) (List.take (n+1-i) (List.drop i B))++List.drop (i+1+(n-i)) B))=B1∧B1.length=N∧(List.take i B1++x::List.drop (i+1) B1).length=N∧
   (List.take i B1++x::List.drop (i+1) B1).take (n+1)=List.take i B++x::List.drop i (List.take n B):=by
 refine⟨_,rfl,?_,?_,?_⟩
 ·simp only[JaJ,lJ,JbV,hB];omega
 ·simp only[JaJ,JcX,lJ,JbV,hB];omega
 ·have e1:List.take i (List.take (i+1) B++(List.take (n-i) (List.take (n+1-i) (List.drop i B))++List.drop (i+1+(n-i)) B))=List.take i B:=by
   rw[JfW (by rw[lJ];omega),JsX,JdW (by omega)]
  have e2:List.drop (i+1) (List.take (i+1) B++(List.take (n-i) (List.take (n+1-i) (List.drop i B))++List.drop (i+1+(n-i)) B))=List.take (n-i) (List.drop i B)++List.drop (i+1+(n-i)) B:=by
   rw[JmQ (by rw[lJ];omega),JgX (by rw[lJ];omega),JkW,JsX,JdW (by omega)]
  rw[e1,e2,JsQ];have h1:(List.take i B).length=i:=by rw[lJ];omega
  have h2:(List.take (n-i) (List.drop i B)).length=n-i:=by rw[lJ,JbV];omega
  generalize List.take i B=P at*;generalize List.take (n-i) (List.drop i B)=Q at*;generalize List.drop (i+1+(n-i)) B=R at*;rw[show P++x::(Q++R)=(P++x::Q)++R by simp];exact JrX (by simp;omega)
theorem E5 {B Z:List PV} {n i:Nat} (hB:n≤B.length) (hi:i<n) (hZ:Z.length=n+1-i) (x:PV):
  (List.take (i+1) (List.take i (List.take i B++Z)++x::List.drop (i+1) (List.take i B++Z))++
   (List.take (n-i) (List.take (n-i) (List.drop i B))++List.drop (i+1+(n-i)) (List.take i (List.take i B++Z)++x::List.drop (i+1) (List.take i B++Z))))=List.take i B++x::List.drop i (List.take n B):=by
 have h1:(List.take i B).length=i:=by rw[lJ];omega
 rw[JsQ,JsX,Nat.min_self];have h2:(List.take (n-i) (List.drop i B)).length=n-i:=by rw[lJ,JbV];omega
 generalize List.take i B=P at*;generalize List.take (n-i) (List.drop i B)=Q at*;have e1:List.take i (P++Z)=P:=JrX h1;have h3:(List.drop (i+1) (P++Z)).length=n-i:=by rw[JbV,JaJ];omega
 rw[e1];generalize List.drop (i+1) (P++Z)=R at*
 have e2:List.take (i+1) (P++x::R)=P++[x]:=by
  rw[show P++x::R=(P++[x])++R by simp];exact JrX (by simp[h1])
 have e3:List.drop (i+1+(n-i)) (P++x::R)=[]:=JgX (by simp;omega);rw[e2,e3];simp
def oO (L:List cV) (i:Nat) (t:cV):List cV:=L.take i++t::L.drop i
theorem pM {L:List cV} {i:Nat} (t:cV) (_:Unit) (hi:i≤L.length):(oO L i t).length=L.length+1:=by
 simp only[oO,JaJ,JcX,lJ,JbV];omega
theorem anp {L:List cV} {J:List PV} {c i:Nat} (hl:L.length≤1048576) (hJ:an J) (hc:L.length+1≤c∧c≤L.length+J.length) (hi:i≤L.length) (t:cV):
  ae Pg 333 [.rs KB [] 0 L.length (L.length+J.length) 34 (.full c),.int .i64 i,.rs (KB+1) [] 0 1 1 34 .tip] [.arr 34 (L.map bj++J),.arr 34 [bj t]] (λr fp=>∃B,(an B∧B.length=L.length+J.length∧B.take (L.length+1)=(oO L i t).map bj)∧r= .rs KB [] 0 (L.length+1) (L.length+J.length) 34 (.full c)∧fp=[.arr 34 B,.arr 34 [bj t]]):=by
 refine ae.intro (aC R.a8.2) (by simp[R.a8]) ?_;have oT:∀l:List cV,an (l.map bj):=λl=>aF iT l;have lY:(L.map bj++J).length=L.length+J.length:=by simp
 have lW:∀k,k≤L.length->(L.map bj++J).take k=(L.take k).map bj:=λk hk=>by rw[JfW (by simpa using hk),JfQ]
 have eE:an (L.map bj++J):=(oT _).append hJ;generalize L.map bj++J=B at*;by_cases hie:i=L.length
 ·subst hie;simp(disch:=omega) [R.a8,aj,av,lY];refine⟨⟨by omega,hc.2,by omega,by omega⟩,λAn=> ?_,λAn=>by omega⟩
  obtain⟨B2,Je,su,Bc,Hg⟩:∃B2,List.take L.length B++bj t::List.drop (L.length+1) B=B2∧an B2∧B2.length=L.length+J.length∧B2.take (L.length+1)=(oO L L.length t).map bj:=by
   have h0:(B.take L.length).length=L.length:=by rw[lJ,lY];omega
   refine⟨_,rfl,(eE.take _).append (an.mk' λx hx=> ?_),?_,?_⟩
   ·rcases cJ.1 hx with rfl|hx
    ·simp
    ·exact(eE.drop _).forget x hx
   ·simp only[JaJ,JcX,JbV,h0,lY];omega
   ·rw[List.take_append,tJ (by omega),h0,show L.length+1-L.length=1 by omega,lW _ (JaQ _)];simp[oO]
  rw[Je];refine aA.with [.keep [6]] [KB,KB+1] ?_;simp[ab,ah,az,aR,su.refs,su.aE];exact⟨su,Bc,Hg⟩
 ·have dq:i<L.length:=by omega
  have KU:¬(i:Int)=L.length:=by omega
  have h1:¬(c:Int)<(L.length:Int)+1:=by omega
  have h2:c≤L.length+J.length∧L.length≤c:=by omega
  have h3:L.length+1≤L.length+J.length:=by omega
  have Xp:=ano (x:=bj t) (B:=B) (off:=i+1) (len:=L.length-i) (c:= .full (c-(i+1))) (by omega) (by omega);rw[lY]at Xp;simp(disch:=omega) [R.a8,aj,av,lY,KU,hi,h1,h2];refine⟨⟨by omega,by omega⟩,by omega,?_⟩;refine ai.gA [KB+1,KB] [] [.arr 34 [bj t],.arr 34 B] Xp (by simp[ab,ah,eE.refs]) (by simp[az,aR,eE.aE]) (by simp[ab,af,ah,eE.refs]) ?_;have hw:IntKind.i64.wrap ((i:Int)+1)=(i:Int)+1:=wrap_i64 (by omega);have m1:min (L.length+1-i) (L.length+J.length-i)=L.length+1-i:=by omega
  simp(disch:=omega) [aI,az,aE,aR,(iT t).aE,lY,hw,m1,-List.length_append];obtain⟨B1,XH,KQ,Bc,Hg⟩:=Ig lY dq (by omega) (bj t);rw[lW _ (JaQ _),lW _ hi]at Hg;have Jd:an B1:=by rw[←XH];exact(eE.take _).append ((((eE.drop _).take _).take _).append (eE.drop _))
  have su:an (List.take i B1++bj t::List.drop (i+1) B1):=(Jd.take _).append (an.mk' λx hx=>by
   rcases cJ.1 hx with rfl|hx
   ·simp
   ·exact(Jd.drop _).forget x hx)
  rw[XH];generalize List.take i B1++bj t::List.drop (i+1) B1=B2 at*;refine⟨⟨by omega,hi⟩,by omega,by omega,by omega,by rw[KQ],by omega,⟨by rw[KQ],by rw[KQ];omega⟩,?_⟩;refine aA.with [.keep [6]] [KB,KB+1] ?_;simp[ab,ah,az,aR,su.refs,su.aE];exact⟨su,Bc,by rw[Hg];simp[oO,JjV,JfQ]⟩
theorem anq {L:List cV} {J:List PV} {i:Nat} (hl:L.length≤1048576) (hJ:an J) (hi:i≤L.length) (t:cV):
  ae Pg 333 [.rs KB [] 0 L.length (L.length+J.length) 34 (.full L.length),.int .i64 i,.rs (KB+1) [] 0 1 1 34 .tip] [.arr 34 (L.map bj++J),.arr 34 [bj t]] (λr fp=>r= .rs (KB+2) [] 0 (L.length+1) (L.length+1) 34 .tip∧fp=[.arr 34 (L.map bj++J),.arr 34 [bj t],.arr 34 ((oO L i t).map bj)]):=by
 refine ae.intro (aC R.a8.2) (by simp[R.a8]) ?_;have oT:∀l:List cV,an (l.map bj):=λl=>aF iT l;have lY:(L.map bj++J).length=L.length+J.length:=by simp
 have lW:∀k,k≤L.length->(L.map bj++J).take k=(L.take k).map bj:=λk hk=>by rw[JfW (by simpa using hk),JfQ]
 have eE:an (L.map bj++J):=(oT _).append hJ;generalize L.map bj++J=B at*;by_cases hie:i=L.length
 ·subst hie;simp(disch:=omega) [R.a8,aj,av,lY];refine⟨⟨by omega,by omega⟩,λAn=>by omega,?_⟩;have Je:List.take L.length B++[bj t]=(oO L L.length t).map bj:=by rw[lW _ (JaQ _)];simp[oO]
  rw[Je];refine aA.with [.keep [6]] [KB,KB+1,25] ?_;have G2:=oT (oO L L.length t);generalize (oO L L.length t).map bj=B2 at*;simp[ab,ah,az,aR,G2.refs,G2.aE,eE.refs,eE.aE]
 ·have dq:i<L.length:=by omega
  have KU:¬(i:Int)=L.length:=by omega
  have h1:(L.length:Int)<(L.length:Int)+1:=by omega
  have h2:(i:Int)<(L.length:Int)+1:=by omega
  have h3:(i:Int)≤(L.length:Int)+1:=by omega
  have h4:(L.length+1)*48≤140737488355328:=by omega
  have h5:L.length≤9223372036854775806:=by omega
  simp(disch:=omega) [R.a8,aj,av,lY,KU,hi,h1,h2,h3,h4,h5];refine⟨by omega,by omega,⟨by omega,by omega⟩,?_⟩;rw[E5 (by rw[lY];omega) dq (by simp) (bj t),lW _ (JaQ _),lW _ hi];have hI:(List.take i L).map bj++bj t::List.drop i ((List.take L.length L).map bj)=(oO L i t).map bj:=by simp[oO,JjV,JfQ]
  rw[hI];have G2:=oT (oO L i t);generalize (oO L i t).map bj=B2 at*;refine aA.with [.keep [6]] [KB,KB+1,40] ?_;simp[ab,ah,az,aR,G2.refs,G2.aE,eE.refs,eE.aE]
theorem Fq {t:cV}:∀ {l:List cV},(∀x∈l,eg t x=false)->im t l=l.length
 |[],_=>rfl
 |
  x::r,h=>by
  simp only[im,h x (by simp),fJ,if_false,JcX]
  rw[Fq λy hy=>h y (by simp[hy])]
theorem Fs {t:cV}:∀ {l:List cV} {i:Nat} (hi:i<l.length),(∀x∈l.take i,eg t x=false)->eg t l[i]=true->im t l=i
 |x::r,0,hi,_,hq=>by simp only[List.getElem_cons_zero]at hq;simp only[im,hq,if_true]
 |
  x::r,i+1,hi,h,hq=>by
  simp only[im,h x (by simp),fJ,if_false]
  rw[Fs (i:=i) (by simpa using hi) (λy hy=>h y (by simp[hy])) (by simpa using hq)]
theorem at8 {l:List cV} (h:l.length≤1048575) (t:cV):aK Pg 269 [cC l,bj t] (cC (ji l t)):=by
 refine ae.intro (aC R.vJ.2) (by simp[R.vJ]) ?_;simp[R.vJ,aj,av];refine ai.gR [] [12] [] (Xa (l:=l) (by omega) t.peer t.kind) (by simp) (by simp) ?_;rintro r fp ⟨J,c,⟨hJ,h1,h2⟩,rfl,rfl⟩;have kX:ji l t=oO (bg l t.peer t.kind) (im t (bg l t.peer t.kind)) t:=by simp[ji,oO]
 have hRl:(bg l t.peer t.kind).length≤1048575:=JeW (JfZ _ _) h;rw[kX];generalize bg l t.peer t.kind=R at*;have oT:∀l:List cV,an (l.map bj):=λl=>aF iT l;have eE:an (R.map bj++J):=(oT _).append hJ;have lY:(R.map bj++J).length=R.length+J.length:=by simp
 have hix:=ann (L:=R) (J:=J) (c:= .full c) (by omega) hJ (g:=332) (q:=eg t) (v:=bj t) (by simp) (λx _=>anl t x);have oR:=BQ t R;have hA:=λhc:R.length+1≤c=>anp (L:=R) (J:=J) (c:=c) (i:=im t R) (by omega) hJ ⟨hc,h2⟩ oR t;have hB:=anq (L:=R) (J:=J) (i:=im t R) (by omega) hJ oR t;generalize hBd:R.map bj++J=B at*;refine⟨by simp[ab,af,c9,eE.refs],?_⟩;simp[aI,az,aE,cU,eE.aE];refine ai.gA [12,3] [] [.arr 34 B,.box (bj t)] hix (by simp[ab,eE.refs]) (by simp[az,eE.aE]) (by simp[ab,af,eE.refs]) ?_;simp[aI,az,aE,eE.aE];rcases tI (eg t) R with⟨he,cq⟩|⟨i,hi,he,Sv,hq⟩
 ·rw[Fq cq]at*;refine⟨λ_=>⟨lY.symm,?_⟩,λh=>by omega⟩;by_cases hcc:R.length+1≤c
  ·refine ai.gR [12,23] [] [.arr 34 B,.arr 34 [bj t]] (hA hcc) (by simp[ab,ah,eE.refs]) (by simp[az,aR,eE.aE]) ?_;rintro r fp ⟨B2,⟨su,Bc,Hg⟩,rfl,rfl⟩;refine⟨by simp[ab,af,ah,c9,su.refs],?_⟩;simp[aI,az,aE,aR,cU,su.aE];refine aA.plain [.keep [4],.fz 12] ?_;have hle:R.length+1≤B2.length:=by omega
   simp[su.refs];rw[if_pos ⟨Bc.symm,hle⟩,Hg];simp[cC,oT]
  ·obtain rfl:c=R.length:=by omega
   refine ai.gA [12,23] [24] [.arr 34 B,.arr 34 [bj t]] hB (by simp[ab,ah,eE.refs]) (by simp[az,aR,eE.aE]) (by simp[ab,af,ah,eE.refs,c9]) ?_;simp[aI,az,aE,aR,cU,eE.aE];refine aA.plain [.keep [4],.fz 24] ?_;simp;rw[if_pos (by rw[pM _ () oR];omega),tJ (by rw[JaX,pM _ () oR];omega)];simp[cC,oT]
 ·rw[Fs hi Sv hq]at*;refine⟨λh=>by omega,λ_=> ?_⟩;rw[he];by_cases hcc:R.length+1≤c
  ·refine ai.gR [12,23] [] [.arr 34 B,.arr 34 [bj t]] (hA hcc) (by simp[ab,ah,eE.refs]) (by simp[az,aR,eE.aE]) ?_;rintro r fp ⟨B2,⟨su,Bc,Hg⟩,rfl,rfl⟩;refine⟨by simp[ab,af,ah,c9,su.refs],?_⟩;simp[aI,az,aE,aR,cU,su.aE];refine aA.plain [.keep [4],.fz 12] ?_;have hle:R.length+1≤B2.length:=by omega
   simp[su.refs];rw[if_pos ⟨Bc.symm,hle⟩,Hg];simp[cC,oT]
  ·obtain rfl:c=R.length:=by omega
   refine ai.gA [12,23] [24] [.arr 34 B,.arr 34 [bj t]] hB (by simp[ab,ah,eE.refs]) (by simp[az,aR,eE.aE]) (by simp[ab,af,ah,eE.refs,c9]) ?_;simp[aI,az,aE,aR,cU,eE.aE];refine aA.plain [.keep [4],.fz 24] ?_;simp;rw[if_pos (by rw[pM _ () oR];omega),tJ (by rw[JaX,pM _ () oR];omega)];simp[cC,oT]
theorem dx (p:bO) (h1:p.dI.length≤1048576):aK Pg 30 [aQ p,aQ p] (.bl true):=by
 refine ae.intro T.dx (by simp[F.dx]) ?_;simp(maxSteps:=1000000) [F.dx,aj,av];refine eW.fD p.dI.length (λ_=>True) [2,3,4,113,114] (λi=>[(114,.int .i64 i)]) (λi=>[]) [.keep [2,3,4,113,114]] ?_;simp;refine⟨λi hi K hK=> ?_,λK=> ?_⟩
 ·have hx:p.dI[i]? =some p.dI[i]:=gJ hi;simp[↓al,hi,dM hi h1];refine⟨[.keep [2,3,4,113,114]],?_⟩;simp;exact hK _ (by simp)
 ·simp[↓al,↓al];refine aA.plain [] ?_;simp
theorem di {d:bc} (h:Kb d):aK Pg 31 [eX d,eX d] (.bl true):=by
 refine ae.intro T.di (by simp[F.di]) ?_;simp(maxSteps:=1000000) [F.di,aj,av];refine eW.fD d.bH.length (λ_=>True) [2,3,4,55,56] (λi=>[(56,.int .i64 i)]) (λi=>[]) [.keep [2,3,4,55,56]] ?_;simp;refine⟨λi hi K hK=> ?_,λK=> ?_⟩
 ·have hx:d.bH[i]? =some d.bH[i]:=gJ hi;simp[↓al,hi,dM hi h.bH];refine⟨[.keep [2,3,4,55,56]],?_⟩;simp;exact hK _ (by simp)
 ·simp[↓al,↓al];refine eW.fD d.aS.length (λ_=>True) [2,3,4,73,74] (λi=>[(74,.int .i64 i)]) (λi=>[]) [.keep [2,3,4,73,74]] ?_;simp;refine⟨λi hi K hK=> ?_,λK=> ?_⟩
  ·have hx:d.aS[i]? =some d.aS[i]:=gJ hi;simp[↓al,hi,dM hi h.aS];refine⟨[.keep [2,3,4,73,74]],?_⟩;simp;exact hK _ (by simp)
  ·simp[↓al,↓al];refine eW.fD d.timers.length (λ_=>True) [2,3,4,91,92] (λi=>[(92,.int .i64 i)]) (λi=>[]) [.keep [2,3,4,91,92]] ?_;simp;refine⟨λi hi K hK=> ?_,λK=> ?_⟩
   ·have hx:d.timers[i]? =some d.timers[i]:=gJ hi;simp[↓al,hi,dM hi h.timers];refine⟨[.keep [2,3,4,91,92]],?_⟩;simp;exact hK _ (by simp)
   ·simp[↓al,↓al];refine eW.fD d.dT.length (λ_=>True) [2,3,4,109,110] (λi=>[(110,.int .i64 i)]) (λi=>[]) [.keep [2,3,4,109,110]] ?_;simp;refine⟨λi hi K hK=> ?_,λK=> ?_⟩
    ·have hx:d.dT[i]? =some d.dT[i]:=gJ hi;simp[↓al,hi,dM hi h.dT];refine⟨[.keep [2,3,4,109,110]],?_⟩;simp;exact hK _ (by simp)
    ·simp[↓al,↓al];refine eW.fD d.buckets.length (λ_=>True) [2,3,4,127,128] (λi=>[(128,.int .i64 i)]) (λi=>[]) [.keep [2,3,4,127,128]] ?_;simp;refine⟨λi hi K hK=> ?_,λK=> ?_⟩
     ·have hx:d.buckets[i]? =some d.buckets[i]:=gJ hi;simp[↓al,hi,dM hi h.buckets];refine⟨[.keep [2,3,4,127,128]],?_⟩;simp;exact hK _ (by simp)
     ·simp[↓al,↓al];refine aA.plain [] ?_;simp
theorem fu {d:bc} (h:Kb d):aK Pg 8 [eX d,eX d] (.bl true):=by
 refine ae.intro T.fu (by simp[F.fu]) ?_;simp(maxSteps:=1000000) [F.fu,aj,av];refine eW.fD d.au.length (λ_=>True) [2,3,4,78,79] (λi=>[(79,.int .i64 i)]) (λi=>[]) [.keep [2,3,4,78,79]] ?_;simp;refine⟨λi hi K hK=> ?_,λK=> ?_⟩
 ·have hx:d.au[i]? =some d.au[i]:=gJ hi;simp[↓al,hi];refine aN.rA (dx d.au[i] (h.dI _ (JbQ hi)).1) ?_;simp[dM hi h.au];refine⟨[.keep [2,3,4,78,79]],?_⟩;simp;exact hK _ (by simp)
 ·simp[↓al,↓al];refine ai.rA (di h) ?_;simp;refine aA.plain [] ?_;simp
def Gv (d:bc) (p o:PV):PV:= .st 149 [aZ d p,o]
@[simp↓] theorem ahR (d:bc) (p o:PV) (r:List Step):aM (Gv d p o) (.f 0 0::r)=aM (aZ d p) r:=by simp[Gv]
def KD (c o:PV):PV:= .st 149 [c,o]
@[simp↓] theorem ahS (d:bc) (p o:PV) (r:List Step) (x:PV):bT (Gv d p o) (.f 0 0::r) x=(bT (aZ d p) r x).bind λc=>some (KD c o):=by simp[Gv,KD]
@[simp↓] theorem anr (d:bc) (p o:PV):KD (aZ d p) o=Gv d p o:=_root_.id rfl
@[simp] theorem ans (f:Nat->Bool) (d:bc) (p o:PV):af f (Gv d p o)=(af f p&&af f o):=by simp[Gv,ah]
@[simp] theorem arC (ρ:Nat->Nat) (d:bc) (p o:PV):aE ρ (Gv d p o)=Gv d (aE ρ p) (aE ρ o):=by simp[Gv,aR]
def Nx (d:bc) (k:Key):bc:= {d with random:=k.fv}
def fj:List UInt8:=[100,114,97,119]
theorem adg {d:bc} {k:Key} (hk:d.random=k.fv) {m:Nat} {L:List PV} (hL:an L) {o:PV} (ho:Pure o):
  ae Pg 84 [.pt KB [] 0] [.box (Gv d (.rs (KB+1) [] 0 m m 464 .tip) o),.arr 464 L] (λx fp=>x=aG (Gm k.l fj)∧fp=[.box (Gv (Nx d (uD k.l fj)) (.rs (KB+1) [] 0 m m 464 .tip) o),.arr 464 L]):=by
 refine ae.intro (aC R.eV.2) (by simp[R.eV]) ?_;have hE:=iA k (input:=fj) (by decide);have hr:d.random.p=aG k:=by rw[hk];rfl
 generalize uD k.l fj=kA at*;generalize Gm k.l fj=kB at*;simp[R.eV,aj,av];refine ai.view [KB,KB+1] [11] [.box (Gv d (.rs (KB+1) [] 0 m m 464 .tip) o),.arr 464 L] (bC:=[.rs KB [Step.f 0 0,Step.f 4 75] 0 32 0 1 .clip,aP fj,.int .i64 2]) (b6:=[.box (Gv d (.rs (KB+1) [] 0 m m 464 .tip) o),.arr 464 L]) hE (by simp[getAll]) (by simp) (by simp) (by simp[ah,af,bR,idx]) (by simp[ab,af,bR,idx,ho.refs,hL.refs]) (by simp[aR,aE,bz,idx];rfl) (by simp[az,aE,bz,idx,ho.aE,hL.aE]) ?_ ?_ ?_
 ·refine⟨.inl (.inr ⟨KB,[Step.f 0 0,Step.f 4 75],0,32,0,1,.clip,mB k.l,rfl,?_,(aF (λ_=>by simp[u8]) _).refs _,by omega,rfl⟩),.inl (.inl ⟨rfl,(nY _).refs _⟩),.inl (.inl ⟨rfl,by simp[af]⟩),trivial⟩;simp[av,hr,aG];exact tJ (by simp[k.h])
 ·rintro r new ⟨rfl,rfl⟩;refine⟨⟨by simp[fL,lP],?_⟩,rfl⟩;have nA:=dB kA;have nB:=dB kB;simp only[fL,aG]at nA nB;simp[uj,eM,aG,nA,nB]
 ·rintro r new ⟨rfl,rfl⟩;have rA:∀f,af f (aG kA)=true:=λf=>(jI kA).refs f;have rB:∀f,af f (aG kB)=true:=λf=>(jI kB).refs f;have uA:∀f,aE f (aG kA)=aG kA:=λf=>(jI kA).aE f;have uB:∀f,aE f (aG kB)=aG kB:=λf=>(jI kB).aE f;have e4:yE d (.rs (KB+1) [] 0 m m 464 .tip) (aG kA)=aZ (Nx d kA) (.rs (KB+1) [] 0 m m 464 .tip):=rfl;simp[az,aE,aR,cU,ab,af,ah,c9,aI,ho.refs,ho.aE,hL.refs,hL.aE,e4];refine aA.with [] [KB,KB+1] ?_;simp[ho.refs,ho.aE,hL.refs,hL.aE,ab,af,bR,idx,az,aE]
def jt (a b:Key):PV:= .st 64 [aG a,aG b]
@[simp] theorem ahT (a b:Key):(jt a b).width=64:=rfl
@[simp] theorem arD (a b:Key):(jt a b).isAgg=true:=rfl
@[simp] theorem ant (a b:Key):(jt a b).aT=true:=rfl
@[simp] theorem anu (a b:Key):(jt a b).flat=true:=rfl
@[simp] theorem DP (a b:Key):Pure (jt a b):=by simp[jt]
@[simp] theorem au5 (a b:Key):wk (jt a b)=jt a b:=by simp[jt]
@[simp↓] theorem arE (g:Bool) (a b:Key) (K:PV->Prop):ed g (jt a b) K=K (jt a b):=_root_.id rfl
@[simp↓] theorem ahU (a b:Key) (r:List Step):aM (jt a b) (.f 0 0::r)=aM (aG a) r:=by simp[jt,aM]
@[simp↓] theorem ahV (a b:Key) (r:List Step):aM (jt a b) (.f 1 32::r)=aM (aG b) r:=by simp[jt,aM,aB]
@[simp↓] theorem ahW (a b k:Key):bT (jt a b) [.f 0 0] (aG k)=some (jt k b):=by simp[jt,bT]
@[simp↓] theorem ahX (a b k:Key):bT (jt a b) [.f 1 32] (aG k)=some (jt a k):=by simp[jt,bT,aB]
theorem cm (l:List UInt8):an (l.map u8):=aF (λ_=>by simp[u8]) _
theorem wkB (l:List UInt8):fI (l.map u8)=l.map u8:=nm (λ_=>by simp[u8]) _
theorem n7 (k:Key):aG k= .ar 1 32 (k.l.map u8):=rfl
@[simp] theorem ahY (n:List UInt8):Pure (jl n):=by simp[jl,cm n]
@[simp] theorem arF (n:List UInt8):wk (jl n)=jl n:=by simp[jl,wkB n]
@[simp] theorem adW (n:List UInt8):(jl n).width=12:=rfl
@[simp] theorem anv (n:List UInt8):(jl n).isAgg=true:=rfl
@[simp↓] theorem anw (g:Bool) (n:List UInt8) (K:PV->Prop):ed g (jl n) K=K (jl n):=_root_.id rfl
theorem IV (bx:List (Nat×aV)):∀ {l:List PV},an l->Ox bx l l
 |[],_=>trivial
 |
  p::l,h=>by
  obtain⟨h1,h2⟩:=(JT p l).1 h
  exact⟨.inl ⟨rfl,h1.refs _⟩,IV bx h2⟩
theorem aag (a b:Key) {ps:List (List UInt8)} (h0:ps≠[]) (hp:ps.length≤1000) (hl:ps.flatten.length≤1000000):∃a':Key,ae Pg 307 [.pt KB [] 0,.sl 1 (ps.map aP) false] [.box (.st 64 [jt a b])] (λr fp=>r= .tup []∧fp=[.box (.st 64 [jt a' b])]):=by
 have hA:=gE (ps:=a.l::ps) (by simp;omega) (by rw[JrW,JaJ,a.h];omega) (by rw[JrW,JaJ,a.h];omega);generalize iV (a.l::ps).flatten=a' at*;refine⟨a',?_⟩;refine ae.intro (aC R.ew.2) (by simp[R.ew]) ?_;have Bb:an (ps.map aP):=aF (λ_=>by simp) _;have KP:fI (ps.map aP)=ps.map aP:=nm (λ_=>by simp) _;have oR:(ps.map aP).length=ps.length:=JaX _;rw[JdX]at hA;have hW0:ps.map aP≠[]:=by simpa using h0
 generalize hPe:ps.map aP=W at*;have hpa:=cm a.l;have hta:(a.l.map u8).take 32=a.l.map u8:=tJ (by simp[a.h]);simp[R.ew,aj,av,oR,hW0];refine⟨⟨by omega,by omega⟩,?_⟩;have hlen:(PV.rs KB [Step.f 0 0,Step.f 0 0] 0 32 0 1 .clip::W).length=1+ps.length:=by rw[JcX,oR];omega
 refine ai.view [KB,12] [] [.box (.st 64 [jt a b]),.arr 1 (.rs KB [.f 0 0,.f 0 0] 0 32 0 1 .clip::W)] (bC:=[.rs (KB+1) [] 0 (1+ps.length) (1+ps.length) 1 .tip]) (args0:=[.sl 1 (aP a.l::W) false]) (b6:=[.box (.st 64 [jt a b]),.arr 1 (.rs KB [.f 0 0,.f 0 0] 0 32 0 1 .clip::W)]) hA
  (by simp[getAll]) (by simp) (by simp) (by simp[ah,af,bR,idx]) (by simp[ab,af,ah,bR,idx,Bb.refs]) (by simp[aR,aE,bz,idx]) (by simp[az,aE,aR,bz,idx,Bb.aE]) ?_ ?_ ?_
 ·refine⟨.inr (.inr ⟨KB+1,[],0,1+ps.length,1+ps.length,1,.tip,PV.rs KB [Step.f 0 0,Step.f 0 0] 0 32 0 1 .clip::W,aP a.l::W,rfl,?_,⟨.inr ⟨KB,[.f 0 0,.f 0 0],0,32,0,1,.clip,a.l.map u8,rfl,?_,hpa.refs _,by omega,rfl⟩,IV _ Bb⟩,by omega,rfl⟩),trivial⟩
  ·have htw:W.take ps.length=W:=by rw[←oR,JcJ]
   simp[av,oR,Nat.add_comm 1,htw]
  ·simp[av,n7,hta]
 ·rintro r new ⟨rfl,rfl⟩;exact⟨⟨dB _,by simp⟩,rfl⟩
 ·rintro r new ⟨rfl,rfl⟩;simp[ab,af,ah,c9,Bb.refs,az,aE,aR,cU,Bb.aE,aI];refine aA.with [] [KB] ?_;simp[dj,ab,af,ah,az,aE,aR]
theorem adX (a b k:Key):∃a':Key,ae Pg 307 [.pt KB [] 0,.sl 1 [.rs (KB+1) [] 0 32 0 1 .clip] false] [.box (.st 64 [jt a b]),.box (aG k)] (λr fp=>r= .tup []∧fp=[.box (.st 64 [jt a' b]),.box (aG k)]):=by
 have hA:=gE (ps:=[a.l,k.l]) (by simp) (by simp[a.h,k.h]) (by simp[a.h,k.h]);generalize iV [a.l,k.l].flatten=a' at*;refine⟨a',?_⟩;refine ae.intro (aC R.ew.2) (by simp[R.ew]) ?_;have hpa:=cm a.l;have wM:=cm k.l;have hta:(a.l.map u8).take 32=a.l.map u8:=tJ (by simp[a.h]);have lW:(k.l.map u8).take 32=k.l.map u8:=tJ (by simp[k.h]);simp[R.ew,aj,av]
 refine ai.view [KB,KB+1,12] [] [.box (.st 64 [jt a b]),.box (aG k),.arr 1 [.rs KB [.f 0 0,.f 0 0] 0 32 0 1 .clip,.rs (KB+1) [] 0 32 0 1 .clip]] (bC:=[.rs (KB+2) [] 0 2 2 1 .tip]) (args0:=[.sl 1 [aP a.l,aP k.l] false]) (b6:=[.box (.st 64 [jt a b]),.box (aG k),.arr 1 [.rs KB [.f 0 0,.f 0 0] 0 32 0 1 .clip,.rs (KB+1) [] 0 32 0 1 .clip]]) hA
  (by simp[getAll]) (by simp) (by simp) (by simp[ah,af,bR,idx]) (by simp[ab,af,ah,bR,idx]) (by simp[aR,aE,bz,idx]) (by simp[az,aE,aR,bz,idx]) ?_ ?_ ?_
 ·refine⟨.inr (.inr ⟨KB+2,[],0,2,2,1,.tip,[.rs KB [.f 0 0,.f 0 0] 0 32 0 1 .clip,.rs (KB+1) [] 0 32 0 1 .clip],[aP a.l,aP k.l],rfl,?_,⟨.inr ⟨KB,[.f 0 0,.f 0 0],0,32,0,1,.clip,a.l.map u8,rfl,?_,hpa.refs _,by omega,rfl⟩,.inr ⟨KB+1,[],0,32,0,1,.clip,k.l.map u8,rfl,?_,wM.refs _,by omega,rfl⟩,trivial⟩,by omega,rfl⟩),trivial⟩
  ·simp[av]
  ·simp[av,n7,hta]
  ·simp[av,n7,lW]
 ·rintro r new ⟨rfl,rfl⟩;exact⟨⟨dB _,by simp⟩,rfl⟩
 ·rintro r new ⟨rfl,rfl⟩;simp[ab,af,ah,c9,az,aE,aR,cU,aI];refine aA.with [] [KB,KB+1] ?_;simp[dj,ab,af,ah,az,aE,aR]
theorem IW (key:Key) {input:List UInt8} (hi:input.length≤1048576):u9 Pg 29 [aP key.l,aP input,.int .i64 1] 32 [aG (uD key.l input)]:=by
 refine ae.intro (aC R.iA.2) (by simp[R.iA]) ?_;have h0:=nC (key:=key.l) (by rw[key.h];omega) (ps:=[input]) (by simp) (by simpa using hi);have h1:=nC (key:=(Ki key.l input).l) (by rw[(Ki key.l input).h];omega) (ps:=[[],[1]]) (by simp) (by simp);rw[show qH key.l [input]=Ki key.l input from rfl]at h0;rw[show qH (Ki key.l input).l [[],[1]]=uD key.l input from rfl]at h1;generalize Ki key.l input=kT at*;generalize uD key.l input=kA at*;simp[R.iA,aj,av];refine ai.rA h0 ?_;simp;refine mM.G8 1 (mM.s ?_);simp[↓al];have g1:aK Pg 80 [.sl 1 (mB kT.l) false,.sl 1 (([[],[.int .u8 1]]:List (List PV)).map λl=> .sl 1 l false) false] (aG kA):=h1;have lT:(mB kT.l).length=32:=by rw[mB,JaX,kT.h]
 have pT:an (mB kT.l):=aF (λ_=>by simp[u8]) _;have nA:=dB kA;refine Z1 (pth:=[]) (M:=aG kT) (L:=mB kT.l) (ls:=[[],[.int .u8 1]]) g1 (by simp) nA (by simp) (by simp;rfl) lT (by simp) pT (by simp) ?_;simp;refine⟨[.keep [0,1,2,6,8,22,23],.mv 37 91],?_⟩;simp[CN];refine mM.z ?_;simp[↓al];refine aA.with [.keep [6]] [91] ?_;simp[ab,ah,az,aR]
theorem R6 (a b:Key) {inp:List UInt8} {n:Int} {k0:Key} {kr:List Key} (hE:u9 Pg 29 [aP b.l,aP inp,.int .i64 n] 32 ((k0::kr).map aG)) (hl:kr.length≤10):
  ae Pg 353 [.pt KB [] 0,aP inp,.int .i64 n] [.box (.st 64 [jt a b])] (λr fp=>r= .rs (KB+1) [] 1 kr.length (kr.length+1) 32 .tip∧fp=[.box (.st 64 [jt a k0]),.arr 32 ((k0::kr).map aG)]):=by
 refine ae.intro (aC R.jS.2) (by simp[R.jS]) ?_;have htb:(b.l.map u8).take 32=b.l.map u8:=tJ (by simp[b.h]);have I4:=cm b.l;have wM:an (kr.map aG):=aF jI kr;have qR:(kr.map aG).length=kr.length:=JaX _;have Ti:eM ((k0::kr).map aG)=true:=kS (λk=>by have:=dB k;simpa[fL,aG]using this) _;rw[JdX]at hE Ti⊢;generalize kr.map aG=W at*;simp[R.jS,aj,av];refine ai.vA (bC:=[.rs KB [.f 0 0,.f 1 32] 0 32 0 1 .clip,aP inp,.int .i64 n]) (b6:=[.box (.st 64 [jt a b])]) [KB] [15] [.box (.st 64 [jt a b])] hE (by simp[ab,af,ah]) (by simp[az,aE,aR]) ?_ ?_ ?_
 ·refine⟨.inl (.inr ⟨KB,[.f 0 0,.f 1 32],0,32,0,1,.clip,b.l.map u8,rfl,?_,I4.refs _,by omega,rfl⟩),.inl (.inl ⟨rfl,(nY _).refs _⟩),.inl (.inl ⟨rfl,by simp[af]⟩),trivial⟩;simp[av,n7,htb]
 ·rintro r new ⟨rfl,rfl⟩;exact⟨⟨by simp[fL,lP],by simp[uj,Ti]⟩,rfl⟩
 ·rintro r new ⟨rfl,rfl⟩;simp[ab,af,ah,c9,az,aE,aR,cU,aI,wM.refs,wM.aE,qR];refine⟨by omega,?_⟩;refine aA.with [.keep [6]] [KB,15] ?_;simp[ab,af,ah,az,aE,aR,bz,idx,wM.refs,wM.aE]
theorem anx (a b:Key) {ps:List (List UInt8)} (h0:ps≠[]) (hp:ps.length≤1000) (hl:ps.flatten.length≤1000000):∃a':Key,aK Pg 352 [jt a b,.sl 1 (ps.map aP) false] (jt a' b):=by
 obtain⟨a',hA⟩:=aag a b h0 hp hl;refine⟨a',?_⟩;refine ae.intro (aC R.sq.2) (by simp[R.sq]) ?_;have Bb:an (ps.map aP):=aF (λ_=>by simp) _;have KP:fI (ps.map aP)=ps.map aP:=nm (λ_=>by simp) _;generalize ps.map aP=W at*;simp[R.sq,aj,av];refine ai.gen [5] [] [.box (.st 64 [jt a b])] hA (by simp[getAll]) (by simp) (by simp) (by simp[ah,af,bR,idx,Bb.refs]) (by simp[ab,af,ah]) (by simp[aR,aE,bz,idx,Bb.aE,KP]) (by simp[az,aE,aR]) (by simp[ab,af,ah]) ?_;simp[aI,az,aE,aR];refine aA.plain [.keep [4]] ?_;simp
theorem anz (a b:Key) {inp:List UInt8} (hi:inp.length≤1048576):∃b':Key,aK Pg 314 [jt a b,aP inp] (jt a b'):=by
 have hA:=R6 a b (n:=1) (k0:=uD b.l inp) (kr:=[]) (IW b hi) (by simp);generalize uD b.l inp=k0 at*;refine⟨k0,?_⟩;refine ae.intro (aC R.qO.2) (by simp[R.qO]) ?_;simp[R.qO,aj,av];refine ai.gA [5] [50] [.box (.st 64 [jt a b])] hA (by simp[ab,af,ah]) (by simp[az,aE,aR]) (by simp[ab,af,ah,c9]) ?_;simp[aI,az,aE,aR,cU];refine aA.plain [.keep [4]] ?_;simp
theorem aah (a b:Key) {inp:List UInt8} (hi:inp.length≤1048576):∃b' k:Key,aK Pg 309 [jt a b,aP inp] (.tup [jt a b',aG k]):=by
 have hA:=R6 a b (n:=2) (k0:=uD b.l inp) (kr:=[Gm b.l inp]) (iA b hi) (by simp);generalize uD b.l inp=k0 at*;generalize Gm b.l inp=k1 at*;refine⟨k0,k1,?_⟩;refine ae.intro (aC R.ud.2) (by simp[R.ud]) ?_;simp[R.ud,aj,av];refine ai.gA [6] [50] [.box (.st 64 [jt a b])] hA (by simp[ab,af,ah]) (by simp[az,aE,aR]) (by simp[ab,af,ah,c9]) ?_;simp[aI,az,aE,aR,cU];refine lH.run [4,5] rfl ?_;simp;refine aA.plain [.keep [4,5]] ?_;simp
noncomputable def F.nsl:cM:=⟨R.Od.1.nt,R.Od.1.res,mP R.Od.1.code [1,1]⟩
theorem T.nsl:nk Pg [18] [] 317=some F.nsl.er:=E7 [1,1] (aC R.Od.2)
theorem anB (a b k:Key) {pl:List UInt8} (hp:pl.length≤100000):∃(a':Key) (s:List UInt8),s.length=pl.length+16∧ae Pg 317 [jt a b,aG k,.rs KB [] 0 pl.length 0 1 .clip] [.box (.ar 1 pl.length (pl.map u8))] (λr fp=>r= .tup [jt a' b,aP s]∧fp=[.box (.ar 1 pl.length (pl.map u8))]):=by
 obtain⟨c,hc,hC⟩:=Ie 0;obtain⟨s,hs,hS⟩:=Rk k.h hc hp (m:=a.l) (by rw[a.h];omega);obtain⟨a',hH⟩:=aag a b (ps:=[s]) (by simp) (by simp) (by simp;omega);refine⟨a',s,hs,?_⟩;refine ae.intro T.nsl (by simp[F.nsl,R.Od]) ?_;have hta:(a.l.map u8).take 32=a.l.map u8:=tJ (by simp[a.h]);have hpa:=cm a.l;have Ew:=cm s;have Bb:=cm pl;have OL:(pl.map u8).take pl.length=pl.map u8:=tJ (by simp);have hcn:Pure (jl c):=by simp[jl,cm c]
 have hcw:wk (jl c)=jl c:=by simp[jl,wkB c]
 have Ti:eM (s.map u8)=true:=kS (λ_=>rfl) _;have EA:(s.map u8).length=s.length:=JaX _;simp[F.nsl,R.Od,mP,aj,av];refine SE.of (λs'=>s'=⟨[(6,.pt 6 [] 0),(8,.pt 8 [] 0),(9,aP s)],[(6,.box (.st 64 [.ar 1 32 (zr 32 (.int .u8 0)),.ar 1 32 (zr 32 (.int .u8 0))])),(8,.box (.st 64 [jt a b])),(KB,.box (.ar 1 pl.length (pl.map u8)))]⟩) ?_ ?_
 ·simp;refine aN.ret hC (by simp) (by simp) (by simp[hcn]) ?_;simp;refine ai.view [8,KB] [18] [.box (.st 64 [jt a b]),.box (.ar 1 pl.length (pl.map u8))] (bC:=[aG k,jl c,.rs (KB+1) [] 0 pl.length 0 1 .clip,.rs KB [.f 0 0,.f 0 0] 0 32 0 1 .clip]) (b6:=[.box (.st 64 [jt a b]),.box (.ar 1 pl.length (pl.map u8))]) hS (by simp[getAll]) (by simp) (by simp) (by simp[ah,af,bR,idx]) (by simp[ab,af,ah]) (by simp[aR,aE,bz,idx,hcw]) (by simp[az,aE,aR]) ?_ ?_ ?_
  ·refine⟨.inl (.inl ⟨rfl,(jI k).refs _⟩),.inl (.inl ⟨rfl,hcn.refs _⟩),.inl (.inr ⟨KB+1,[],0,pl.length,0,1,.clip,pl.map u8,rfl,?_,Bb.refs _,by omega,rfl⟩),.inl (.inr ⟨KB,[.f 0 0,.f 0 0],0,32,0,1,.clip,a.l.map u8,rfl,?_,hpa.refs _,by omega,rfl⟩),trivial⟩
   ·simp[av,OL]
   ·simp[av,n7,hta]
  ·rintro r new ⟨rfl,rfl⟩;exact⟨⟨by simp[fL,lP],by simp[uj,Ti]⟩,rfl⟩
  ·rintro r new ⟨rfl,rfl⟩;simp[ab,af,ah,c9,az,aE,aR,cU,aI,EA];refine⟨[.keep [6,8,9],.dr 3,.dr 4,.fz 18],?_⟩;have lW:(s.map u8).take s.length=s.map u8:=tJ (by simp);simp[bt,b8,ab,af,ah,EA,lW];rfl
 ·rintro s' rfl;simp;refine ai.gA [8] [] [.box (.st 64 [jt a b])] hH (by simp[ab,af,ah]) (by simp[az,aE,aR]) (by simp[ab,af,ah]) ?_;simp[aI,az,aE,aR];refine aA.with [.keep [6,7]] [KB] ?_;simp[ab,af,az,aE]
def idL:List PV:=[.int .u8 87,.int .u8 105,.int .u8 114,.int .u8 101,.int .u8 71,.int .u8 117,.int .u8 97,.int .u8 114,.int .u8 100,.int .u8 32,.int .u8 118,.int .u8 49,.int .u8 32,.int .u8 122,.int .u8 120,.int .u8 50,.int .u8 99,.int .u8 52,.int .u8 32,.int .u8 74,.int .u8 97,.int .u8 115,.int .u8 111,.int .u8 110,.int .u8 64,.int .u8 122,.int .u8 120,.int .u8 50,.int .u8 99,.int .u8 52,.int .u8 46,.int .u8 99,.int .u8 111,.int .u8 109]
theorem anC:aP [87,105,114,101,71,117,97,114,100,32,118,49,32,122,120,50,99,52,32,74,97,115,111,110,64,122,120,50,99,52,46,99,111,109]= .sl 1 idL false:=rfl
theorem anD:an idL:=by simp[idL]
theorem adZ (p:Key):∃a b:Key,aK Pg 221 [aG p] (jt a b):=by
 have h1:=gE (ps:=[[78,111,105,115,101,95,73,75,112,115,107,50,95,50,53,53,49,57,95,67,104,97,67,104,97,80,111,108,121,95,66,76,65,75,69,50,115]]) (by simp) (by simp) (by simp);generalize iV _=b at h1;have h2:=gE (ps:=[b.l,[87,105,114,101,71,117,97,114,100,32,118,49,32,122,120,50,99,52,32,74,97,115,111,110,64,122,120,50,99,52,46,99,111,109]]) (by simp) (by simp) (by simp[b.h]);generalize iV _=a at h2;obtain⟨a',h3⟩:=adX a b p;refine⟨a',b,?_⟩;refine ae.intro (aC R.nst.2) (by simp[R.nst]) ?_;have e1:aP [78,111,105,115,101,95,73,75,112,115,107,50,95,50,53,53,49,57,95,67,104,97,67,104,97,80,111,108,121,95,66,76,65,75,69,50,115]= .sl 1 [.int .u8 78,.int .u8 111,.int .u8 105,.int .u8 115,.int .u8 101,.int .u8 95,.int .u8 73,.int .u8 75,.int .u8 112,.int .u8 115,.int .u8 107,.int .u8 50,.int .u8 95,.int .u8 50,.int .u8 53,.int .u8 53,.int .u8 49,.int .u8 57,.int .u8 95,.int .u8 67,.int .u8 104,.int .u8 97,.int .u8 67,.int .u8 104,.int .u8 97,.int .u8 80,.int .u8 111,.int .u8 108,.int .u8 121,.int .u8 95,.int .u8 66,.int .u8 76,.int .u8 65,.int .u8 75,.int .u8 69,.int .u8 50,.int .u8 115] false:=rfl;rw[JrQ]at h1;rw[JdX,JrQ]at h2;generalize aP [78,111,105,115,101,95,73,75,112,115,107,50,95,50,53,53,49,57,95,67,104,97,67,104,97,80,111,108,121,95,66,76,65,75,69,50,115]=E1 at*;subst e1;rw[anC]at h2;have htb:(b.l.map u8).take 32=b.l.map u8:=tJ (by simp[b.h]);have I4:=cm b.l;have ez:PV.st 64 [.ar 1 32 (zr 32 (.int .u8 0)),.ar 1 32 (zr 32 (.int .u8 0))]=jt zK zK:=by rw[cg];rfl
 have ez2:PV.st 64 [.ar 1 32 (zr 32 (.int .u8 0)),aG b]=jt zK b:=by rw[cg];rfl
 simp[R.nst,aj,av];refine ai.rA h1 ?_;simp[ez]
 refine ai.view [3] [] [.box (.st 64 [jt zK b])] (bC:=[.sl 1 [.rs KB [.f 0 0,.f 1 32] 0 32 0 1 .clip,.sl 1 idL false] false]) (args0:=[.sl 1 [aP b.l,.sl 1 idL false] false]) (b6:=[.box (.st 64 [jt zK b])]) h2
  (by simp[getAll]) (by simp) (by simp) (by simp[ah,af,bR,idx]) (by simp[ab,af,ah]) (by simp[aR,aE,bz,idx,idL]) (by simp[az,aE,aR]) ?_ ?_ ?_
 ·refine⟨.inr (.inl ⟨1,_,[aP b.l,.sl 1 idL false],false,rfl,⟨.inr ⟨KB,[.f 0 0,.f 1 32],0,32,0,1,.clip,b.l.map u8,rfl,?_,I4.refs _,by omega,rfl⟩,.inl ⟨rfl,by simp[af,anD.refs]⟩,trivial⟩,rfl⟩),trivial⟩;simp[av,n7,htb]
 ·rintro r new ⟨rfl,rfl⟩;exact⟨⟨dB _,by simp⟩,rfl⟩
 ·rintro r new ⟨rfl,rfl⟩;simp[ab,af,ah,az,aE,aR,aI];refine ai.gA [3,1] [] [.box (.st 64 [jt a b]),.box (aG p)] h3 (by simp[ab,af,ah]) (by simp[az,aE,aR]) (by simp[ab,af,ah]) ?_;simp[aI,az,aE,aR];refine aA.plain [.keep [2]] ?_;simp
def szE (k q:Key):Int:=if kV k q=zK then 21 else 0
theorem tF:PV.ar 1 32 (zr 32 (.int .u8 0))=aG zK:=by rw[cg];rfl
theorem ad1 (k q:Key):aK Pg 315 [aG k,aG q] (.tup [aG (kV k q),.int .i64 (szE k q)]):=by
 have h:=mG k q;unfold szE;generalize kV k q=m at*;refine ae.intro (aC R.csh.2) (by simp[R.csh]) ?_;simp[R.csh,aj,av];refine ai.rA h ?_
 have e:PV.beq (aG m) (.ar 1 32 (zr 32 (.int .u8 0)))=decide (m=zK):=by
  rw[tF];exact wT _ _
 simp[e];by_cases hz:m=zK
 ·subst hz;simp;rw[tF];refine⟨n6 _,aA.plain [] ?_⟩;simp
 ·simp[hz];rw[tF];refine⟨n6 _,aA.plain [] ?_⟩;simp[hz]
def stV (a b:Key) (e:Int):PV:= .st 65 [jt a b,.int .i64 e]
def qP (a b:Key) (e:Int) (p:Key):PV:= .st 97 [stV a b e,aG p]
@[simp] theorem anE (a b:Key) (e:Int):Pure (stV a b e):=by simp[stV]
@[simp] theorem anF (a b:Key) (e:Int) (p:Key):Pure (qP a b e p):=by simp[qP]
@[simp↓] theorem anG (a b:Key) (e:Int) (p:Key):aM (qP a b e p) [.f 0 0,.f 0 0]=some (jt a b):=by simp[qP,stV,aM]
@[simp↓] theorem anH (a b:Key) (e:Int) (p:Key):aM (qP a b e p) [.f 0 0,.f 1 64]=some (.int .i64 e):=by simp[qP,stV,aM,aB]
@[simp↓] theorem anI (a b:Key) (e:Int) (p:Key):aM (qP a b e p) [.f 1 65]=some (aG p):=by simp[qP,stV,aM,aB]
@[simp↓] theorem anJ (a b a' b':Key) (e:Int) (p:Key):bT (qP a b e p) [.f 0 0,.f 0 0] (jt a' b')=some (qP a' b' e p):=by simp[qP,stV,bT]
@[simp↓] theorem anK (a b:Key) (e e':Int) (p:Key):bT (qP a b e p) [.f 0 0,.f 1 64] (.int .i64 e')=some (qP a b e' p):=by simp[qP,stV,bT,aB]
theorem ad3 (a b k q p:Key):ae Pg 230 [.pt KB [.f 0 0] 0,aG k,aG q] [.box (qP a b 0 p)] (λr fp=>r= .rs (KB+1) [] 0 32 0 1 .clip∧fp=[.box (qP a b (szE k q) p),.box (aG (kV k q))]):=by
 have h:=ad1 k q;generalize szE k q=e at*;generalize kV k q=m at*;refine ae.intro (aC R.sha.2) (by simp[R.sha]) ?_;simp[R.sha,aj,av];refine ai.rA h ?_;simp;refine aA.with [] [KB,7] ?_;simp[ab,az,bz,idx]
theorem Xb (a b k q p:Key) {e:Int} (he:e≠0):ae Pg 230 [.pt KB [.f 0 0] 0,aG k,aG q] [.box (qP a b e p)] (λr fp=>r= .sl 1 [] true∧fp=[.box (qP a b e p)]):=by
 refine ae.intro (aC R.sha.2) (by simp[R.sha]) ?_;simp[R.sha,aj,av,he];refine aA.with [] [KB] ?_;simp[ab,az]
theorem IX (a b:Key):fL (jt a b)=true:=by
 have h1:=dB a;have h2:=dB b;simpa[fL,lP,eM,jt,aG]using And.intro h1 h2
theorem Xc (a b k:Key):fL (.tup [jt a b,aG k])=true:=by
 have h1:=dB a;have h2:=dB b;have h3:=dB k;simp[fL,lP,eM,jt,aG]at h1 h2 h3⊢;exact⟨⟨h1,h2⟩,h3⟩
theorem ad5 (a b p k:Key) (e:Int):∃b':Key,ae Pg 229 [.pt KB [.f 0 0] 0,.rs (KB+1) [] 0 32 0 1 .clip] [.box (qP a b e p),.box (aG k)] (λr fp=>r= .tup []∧fp=[.box (qP a b' e p),.box (aG k)]):=by
 obtain⟨b',h⟩:=anz a b (inp:=k.l) (by rw[k.h];omega);refine⟨b',?_⟩;have lW:(k.l.map u8).take 32=k.l.map u8:=tJ (by simp[k.h]);have wM:=cm k.l;refine ae.intro (aC R.sch.2) (by simp[R.sch]) ?_;simp[R.sch,aj,av];refine ai.vA (bC:=[jt a b,.rs KB [] 0 32 0 1 .clip]) (args0:=[jt a b,aP k.l]) (b6:=[.box (aG k)]) [KB+1] [] [.box (aG k)] h (by simp[ab]) (by simp[az]) ?_ ?_ ?_
 ·refine⟨.inl (.inl ⟨rfl,(DP a b).refs _⟩),.inl (.inr ⟨KB,[],0,32,0,1,.clip,k.l.map u8,rfl,?_,wM.refs _,by omega,rfl⟩),trivial⟩;simp[av,n7,lW]
 ·rintro r new ⟨rfl,rfl⟩;exact⟨⟨IX _ _,by simp⟩,rfl⟩
 ·rintro r new ⟨rfl,rfl⟩;simp[ab,az,aI];refine aA.with [] [KB,KB+1] ?_;simp[dj,ab,az]
theorem anL (a b p k:Key) (e:Int):∃a':Key,ae Pg 308 [.pt KB [.f 0 0] 0,.rs (KB+1) [] 0 32 0 1 .clip] [.box (qP a b e p),.box (aG k)] (λr fp=>r= .tup []∧fp=[.box (qP a' b e p),.box (aG k)]):=by
 obtain⟨a',h⟩:=anx a b (ps:=[k.l]) (by simp) (by simp) (by simp[k.h]);refine⟨a',?_⟩;have lW:(k.l.map u8).take 32=k.l.map u8:=tJ (by simp[k.h]);have wM:=cm k.l;refine ae.intro (aC R.shh.2) (by simp[R.shh]) ?_;simp[R.shh,aj,av];refine ai.vA (bC:=[jt a b,.sl 1 [.rs KB [] 0 32 0 1 .clip] false]) (args0:=[jt a b,.sl 1 [aP k.l] false]) (b6:=[.box (aG k)]) [KB+1] [] [.box (aG k)] h (by simp[ab]) (by simp[az]) ?_ ?_ ?_
 ·refine⟨.inl (.inl ⟨rfl,(DP a b).refs _⟩),.inr (.inl ⟨1,_,[aP k.l],false,rfl,⟨.inr ⟨KB,[],0,32,0,1,.clip,k.l.map u8,rfl,?_,wM.refs _,by omega,rfl⟩,trivial⟩,rfl⟩),trivial⟩;simp[av,n7,lW]
 ·rintro r new ⟨rfl,rfl⟩;exact⟨⟨IX _ _,by simp⟩,rfl⟩
 ·rintro r new ⟨rfl,rfl⟩;simp[ab,az,aI];refine aA.with [] [KB,KB+1] ?_;simp[dj,ab,az]
theorem ava (a b p k:Key) (e:Int):∃a' b':Key,ae Pg 222 [.pt KB [.f 0 0] 0,aG k] [.box (qP a b e p)] (λr fp=>r= .tup []∧fp=[.box (qP a' b' e p)]):=by
 obtain⟨b',h1⟩:=ad5 a b p k e;obtain⟨a',h2⟩:=anL a b' p k e;refine⟨a',b',?_⟩;refine ae.intro (aC R.sep.2) (by simp[R.sep]) ?_;simp[R.sep,aj,av];refine ai.gA [KB,3] [] [.box (qP a b e p),.box (aG k)] h1 (by simp[ab]) (by simp[az]) (by simp[ab,af,ah]) ?_;simp[aI,az,aE,aR];refine ai.gA [KB,3] [] [.box (qP a b' e p),.box (aG k)] h2 (by simp[ab]) (by simp[az]) (by simp[ab,af,ah]) ?_;simp[aI,az,aE,aR];refine aA.with [] [KB] ?_;simp[dj,ab,az]
theorem anM (a b k q p:Key):∃b' k':Key,ae Pg 223 [.pt KB [.f 0 0] 0,aG k,aG q] [.box (qP a b 0 p)] (λr fp=>r=aG k'∧fp=[.box (qP a b' (szE k q) p)]):=by
 have h:=ad3 a b k q p;obtain⟨b',k',h2⟩:=aah a b (inp:=(kV k q).l) (by rw[(kV k q).h];omega);generalize szE k q=e at*;generalize kV k q=m at*;refine⟨b',k',?_⟩;have lW:(m.l.map u8).take 32=m.l.map u8:=tJ (by simp[m.h]);have oT:=cm m.l;refine ae.intro T.ske (by simp[F.ske]) ?_;simp[F.ske,aj,av];refine Ym.run [KB,KB] rfl rfl rfl ?_;simp;refine⟨?_,?_⟩
 all_goals
  refine ai.gA [KB] [17] [.box (qP a b 0 p)] h (by simp[ab]) (by simp[az]) (by simp[ab,af,c9]) ?_
  simp[aI,az,aE,cU]
  refine ai.vA (bC:=[jt a b,.rs KB [] 0 32 0 1 .clip]) (args0:=[jt a b,aP m.l]) (b6:=[.box (aG m)]) [17] [] [.box (aG m)] h2 (by simp[ab]) (by simp[az]) ?_ ?_ ?_
  ·refine⟨.inl (.inl ⟨rfl,(DP a b).refs _⟩),.inl (.inr ⟨KB,[],0,32,0,1,.clip,m.l.map u8,rfl,?_,oT.refs _,by omega,rfl⟩),trivial⟩
   simp[av,n7,lW]
  ·rintro r new ⟨rfl,rfl⟩
   exact⟨⟨Xc _ _ _,by simp⟩,rfl⟩
  ·rintro r new ⟨rfl,rfl⟩
   simp[ab,az,aE,aR,aI]
   refine aA.with [] [KB] ?_
   simp[ab,az]
theorem anN (a b k q p:Key) {e:Int} (he:e≠0):∃b' k':Key,ae Pg 223 [.pt KB [.f 0 0] 0,aG k,aG q] [.box (qP a b e p)] (λr fp=>r=aG k'∧fp=[.box (qP a b' e p)]):=by
 have h:=Xb a b k q p he;obtain⟨b',k',h2⟩:=aah a b (inp:=[]) (by simp);refine⟨b',k',?_⟩;refine ae.intro T.ske (by simp[F.ske]) ?_;simp[F.ske,aj,av];refine Ym.run [KB,KB] rfl rfl rfl ?_;simp;refine⟨?_,?_⟩
 all_goals
  refine ai.gA [KB] [] [.box (qP a b e p)] h (by simp[ab]) (by simp[az]) (by simp[ab,af,ah]) ?_
  simp[aI,az,aE,aR]
  refine ai.ret h2 (by simp[aP]) (by simp) (by simp) ?_
  simp
  refine aA.with [] [KB] ?_
  simp[ab,az]
theorem aak (a b p k:Key) (e:Int) {pl:List UInt8} (hp:pl.length≤100000):∃(a':Key) (s:List UInt8),s.length=pl.length+16∧ae Pg 232 [.pt KB [.f 0 0] 0,aG k,.rs (KB+1) [] 0 pl.length 0 1 .clip] [.box (qP a b e p),.box (.ar 1 pl.length (pl.map u8))] (λr fp=>r=aP s∧fp=[.box (qP a' b e p),.box (.ar 1 pl.length (pl.map u8))]):=by
 obtain⟨a',s,hs,h⟩:=anB a b k hp;refine⟨a',s,hs,?_⟩;have Bb:=cm pl;have Ew:=cm s;refine ae.intro T.sse (by simp[F.sse]) ?_;simp[F.sse,aj,av];refine lH.run [] rfl ?_;simp;refine ai.gA [KB+1] [] [.box (.ar 1 pl.length (pl.map u8))] h (by simp[ab,af]) (by simp[az,aE]) (by simp[ab,af,ah,aP]) ?_;simp[aI,az,aE,aR,aP];refine aA.with [] [KB,KB+1] ?_;simp[ab,af,az,aE]
def bA (n:Nat) (l:List UInt8):PV:= .ar 1 n (l.map u8)
def wG:List UInt8:=List.replicate 16 0
def fg (y:Int) (E:Key) (S T M N:List UInt8):PV:= .st 141 [.int .u32 y,aG E,bA 48 S,bA 28 T,bA 16 M,bA 16 N]
theorem Lu (n:Nat):PV.ar 1 n (zr n (.int .u8 0))=bA n (List.replicate n 0):=by
 rw[cg,bA,JnV];rfl
theorem Xd:aG zK=bA 32 (List.replicate 32 0):=rfl
@[simp] theorem arG (n:Nat) (l:List UInt8):Pure (bA n l):=by simp[bA,cm l]
@[simp] theorem axE (n:Nat) (l:List UInt8):wk (bA n l)=bA n l:=by simp[bA,wkB l]
@[simp] theorem anP (n:Nat) (l:List UInt8):(bA n l).width=n:=by simp[bA,PV.width]
@[simp] theorem avb (n:Nat) (l:List UInt8):(bA n l).isAgg=true:=rfl
@[simp↓] theorem avc (g:Bool) (n:Nat) (l:List UInt8) (K:PV->Prop):ed g (bA n l) K=K (bA n l):=_root_.id rfl
@[simp] theorem ah0 (n:List UInt8):(jl n).aT=true:=rfl
@[simp] theorem anQ (a b:Key) (e:Int) (p:Key):(qP a b e p).aT=true:=rfl
@[simp] theorem ah1 (a b:Key) (e:Int) (p:Key):(qP a b e p).width=97:=rfl
@[simp] theorem arH (a b:Key) (e:Int) (p:Key):(qP a b e p).isAgg=true:=rfl
@[simp↓] theorem arI (g:Bool) (a b:Key) (e:Int) (p:Key) (K:PV->Prop):ed g (qP a b e p) K=K (qP a b e p):=_root_.id rfl
theorem anR (a b k q p:Key) (e:Int):∃(b' k':Key) (e':Int),(e=0->kV k q≠zK->e'=0)∧ae Pg 223 [.pt KB [.f 0 0] 0,aG k,aG q] [.box (qP a b e p)] (λr fp=>r=aG k'∧fp=[.box (qP a b' e' p)]):=by
 by_cases he:e=0
 ·subst he;obtain⟨b',k',h⟩:=anM a b k q p;exact⟨b',k',_,λ_ hm=>by simp[szE,hm],h⟩
 ·obtain⟨b',k',h⟩:=anN a b k q p he;exact⟨b',k',e,λh0=>absurd h0 he,h⟩
theorem alX (pr pe ep:Key) {st:List UInt8} (qT:st.length=12) (y:Int):∃(y':Int) (E:Key) (S T:List UInt8) (a b:Key) (e:Int),(S.length=48∧T.length=28)∧(kV ep pe≠zK->kV pr pe≠zK->e=0)∧(e=0->y'=y)∧
  aK Pg 288 [aG pr,aG pe,aG ep,jl st,.int .u32 y] (.tup [fg y' E S T wG wG,jt a b,.int .i64 e]):=by
 obtain⟨a0,b0,h0⟩:=adZ pe;have Jd:=jo ep;have su:=jo pr;generalize kV ep iZ=eP at*;generalize kV pr iZ=pP at*;obtain⟨a1,b1,h1⟩:=ava a0 b0 pr eP 0;obtain⟨b2,k2,e2,Hc,h2⟩:=anR a1 b1 ep pe pr 0;obtain⟨a3,s3,hs3,h3⟩:=aak a1 b2 pr k2 e2 (pl:=pP.l) (by rw[pP.h];omega);obtain⟨b4,k4,e4,he4,h4⟩:=anR a3 b2 pr pe pr e2;obtain⟨a5,s5,hs5,h5⟩:=aak a3 b4 pr k4 e4 (pl:=st) (by omega);rw[pP.h]at hs3 h3;rw[qT]at hs5 h5
 have fin:aK Pg 288 [aG pr,aG pe,aG ep,jl st,.int .u32 y] (if e4=0 then .tup [fg y eP s3 s5 wG wG,jt a5 b4,.int .i64 0]else .tup [fg 0 zK (List.replicate 48 0) (List.replicate 28 0) wG wG,jt zK zK,.int .i64 e4])->∃(y':Int) (E:Key) (S T:List UInt8) (a b:Key) (e:Int),(S.length=48∧T.length=28)∧(kV ep pe≠zK->kV pr pe≠zK->e=0)∧(e=0->y'=y)∧
  aK Pg 288 [aG pr,aG pe,aG ep,jl st,.int .u32 y] (.tup [fg y' E S T wG wG,jt a b,.int .i64 e]):=by
  intro h
  by_cases he:e4=0
  ·rw[if_pos he]at h
   exact⟨y,eP,s3,s5,a5,b4,0,⟨hs3,hs5⟩,λ_ _=>rfl,λ_=>rfl,h⟩
  ·rw[if_neg he]at h
   exact⟨0,zK,_,_,zK,zK,e4,⟨by simp,by simp⟩,λm1 m2=>he4 (Hc rfl m1) m2,λh0=>absurd h0 he,h⟩
 refine fin ?_;clear fin;clear Hc he4;have Bb:=cm pP.l;have aBq:=cm st;have hpS:=cm s3;have hpT:=cm s5;have eSd:PV.st 97 [.st 65 [jt a0 b0,.int .i64 0],aG pr]=qP a0 b0 0 pr:=rfl;have ep1:aG pP= .ar 1 32 (pP.l.map u8):=rfl;have ep2:jl st= .ar 1 12 (st.map u8):=rfl;generalize hV:(if e4=0 then PV.tup [fg y eP s3 s5 wG wG,jt a5 b4,.int .i64 0]else .tup [fg 0 zK (List.replicate 48 0) (List.replicate 28 0) wG wG,jt zK zK,.int .i64 e4])=V;refine ae.intro T.Bh (by simp[F.Bh]) ?_;simp[F.Bh,aj,av];refine aN.rA h0 ?_;simp[eSd];refine ai.rA Jd ?_;simp;refine ai.rA su ?_;simp;refine ai.gA [22] [] [.box (qP a0 b0 0 pr)] h1 (by simp[ab]) (by simp[az]) (by simp[ab,af,ah]) ?_;simp[aI,az,aE,aR];refine lH.run [] rfl ?_;simp;refine ai.gA [22] [] [.box (qP a1 b1 0 pr)] h2 (by simp[ab]) (by simp[az]) (by simp[ab]) ?_;simp[aI,az];refine ai.gA [22,15] [] [.box (qP a1 b2 e2 pr),.box (aG pP)] h3 (by simp[ab]) (by simp[az,aE,ep1]) (by simp[ab,af,aP]) ?_;have lS:48≤s3.length:=by omega
 have tS:(s3.map u8).take 48=s3.map u8:=tJ (by simp[hs3]);have lT:28≤s5.length:=by omega
 have tT:(s5.map u8).take 28=s5.map u8:=tJ (by simp[hs5]);simp[aI,az,aE,aP,lS,tS];refine ai.gA [22] [] [.box (qP a3 b2 e2 pr)] h4 (by simp[ab]) (by simp[az]) (by simp[ab]) ?_;simp[aI,az];refine ai.gA [22,8] [] [.box (qP a3 b4 e4 pr),.box (jl st)] h5 (by simp[ab]) (by simp[az,aE,ep2]) (by simp[ab,af,aP]) ?_;simp[aI,az,aE,aP,lT,tT];refine⟨λhe=> ?_,λhe=> ?_⟩
 ·rw[if_neg he]at hV;subst hV;refine lH.run [10,11] rfl ?_;simp[-List.reduceReplicate];refine aA.plain [.keep [10,11,12]] ?_;simp[-List.reduceReplicate];simp only[Lu,fg,jt,Xd,and_self,wG]
 ·rw[if_pos he]at hV;subst hV he;refine lH.run [10,11] rfl ?_;simp[-List.reduceReplicate];refine aA.plain [.keep [10,11,12]] ?_;simp[-List.reduceReplicate];simp only[Lu,fg,wG];rfl
end Go.Ab
