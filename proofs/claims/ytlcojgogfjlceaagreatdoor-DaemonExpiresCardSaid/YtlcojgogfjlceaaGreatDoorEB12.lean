/- Functions of the program and of the document, as the abstract reading walks them, part 12. No condition. -/
import Derived.Test.YtlcojgogfjlceaaGreatDoorEB11
import Derived.Test.YtlcojgogfjlceaaGreatDoorEB9
import Derived.Test.YtlcojgogfjlceaaGreatDoorEB10
import Derived.Test.YtlcojgogfjlceaaGreatDoorEB4
import Derived.Test.YtlcojgogfjlceaaGreatDoorEB3
set_option maxRecDepth 100000
set_option maxHeartbeats 1000000
set_option linter.all false
noncomputable section
namespace Go.Ab
theorem Qi {a b:cT} (h:dW a b=true):a.at_≤b.at_:=by
 unfold dW at h;split at h
 ·have:=of_decide_eq_true h;omega
 ·omega
theorem Qj {a b:cT} (h:dW a b=false):b.at_≤a.at_:=by
 unfold dW at h;split at h
 ·have:=of_decide_eq_false h;omega
 ·omega
theorem Dh:∀(l:List cT) (m:cT),Gj m l∈m::l∧∀x∈m::l,(Gj m l).at_≤x.at_
 |[],m=>⟨by simp[Gj],by simp[Gj]⟩
 |
  y::l,m=>by
  have e:Gj m (y::l)=Gj (if dW y m=true then y else m) l:=rfl
  rw[e]
  obtain⟨h1,h2⟩:=Dh l (if dW y m=true then y else m)
  refine⟨?_,λx hx=> ?_⟩
  ·rcases cJ.1 h1 with h|h
   ·rw[h];split<;>simp
   ·simp[h]
  ·have h0:=h2 _ List.mem_cons_self
   have hle:(if dW y m=true then y else m).at_≤m.at_∧(if dW y m=true then y else m).at_≤y.at_:=by
    split
    ·rename_i h;exact⟨Qi h,Int.le_refl _⟩
    ·rename_i h;exact⟨Int.le_refl _,Qj (by simpa using h)⟩
   rcases cJ.1 hx with rfl|hx
   ·omega
   ·rcases cJ.1 hx with rfl|hx
    ·omega
    ·exact h2 _ (List.mem_cons_of_mem _ hx)
def kO:List cT->cT
 |[]=>zT
 |t::r=>Gj t r
def mj (l:List cT) (to:Int):Bool:= !l.isEmpty&&decide ((kO l).at_≤to)
theorem Qk (l:List cT) (to:Int):Np l to=if mj l to=true then(kO l,true)else(zT,false):=by
 cases l with
 |nil=>rfl
 |
  cons t r=>
  by_cases h:(Gj t r).at_≤to<;>simp[Np,mj,kO,h]
theorem Ql {l:List cT} (h:l≠[]):kO l∈l:=by
 cases l with
 |nil=>exact absurd rfl h
 |cons t r=>exact(Dh r t).1
theorem Vr {l:List cT} {x:cT} (h:x∈l):(kO l).at_≤x.at_:=by
 cases l with
 |nil=>simp at h
 |cons t r=>exact(Dh r t).2 x h
theorem Gk {l:List cT} {to:Int} (h:mj l to=true):kO l∈l∧(kO l).at_≤to:=by
 unfold mj at h;have h:=JpJ.1 h;exact⟨Ql (by intro e;subst e;simp at h),of_decide_eq_true h.2⟩
theorem Vs {l:List cT} {to:Int} (h:mj l to=false) {x:cT} (hx:x∈l):to<x.at_:=by
 have hl:=Vr hx;have cS:l.isEmpty=false:=by cases l<;>simp at hx⊢
 simp[mj,cS]at h;omega
inductive xv (now:Int) (k:Key) (iH:Int) (T:List cT):List cT->Prop
 |refl:xv now k iH T T
 |can (n:Int) {U:List cT}:xv now k iH T U->xv now k iH T (bc U k n)
 |set {U:List cT} (t:cT):xv now k iH T U->now<t.at_->t.peer=k->1≤t.kind->t.kind≤5->(t.kind=4->iH≠0)->xv now k iH T (iI U t)
section
variable {now:Int} {k:Key} {iH:Int} {T U:List cT}
theorem xv.jV (h:xv now k iH T U):∀(ns:List Int),xv now k iH T (Ab.jV k U ns):=by
 intro ns;induction ns generalizing U with
 |nil=>exact h
 |cons n ns ih=>exact ih (h.can n)
theorem xv.trans {V:List cT} (h:xv now k iH T U) (h2:xv now k iH U V):xv now k iH T V:=by
 induction h2 with
 |refl=>exact h
 |can n _ ih=>exact ih.can n
 |set t _ a b c d e ih=>exact ih.set t a b c d e
theorem Ih {l:List cT} {t x:cT} (h:x∈iI l t):x=t∨(x∈l∧¬(x.peer=t.peer∧x.kind=t.kind)):=by
 rw[vO]at h;rcases cJ.1 ((mq t _).mem_iff.1 h)with rfl|h
 ·exact .inl rfl
 ·exact .inr (jh h)
theorem xv.mem (h:xv now k iH T U) {x:cT} (hx:x∈U):x∈T∨(now<x.at_∧x.peer=k∧1≤x.kind∧x.kind≤5∧(x.kind=4->iH≠0)):=by
 induction h with
 |refl=>exact .inl hx
 |can n _ ih=>exact ih (jh hx).1
 |
  set t _ a b c d e ih=>
  rcases Ih hx with rfl|hx
  ·exact .inr ⟨a,b,c,d,e⟩
  ·exact ih hx.1
def SM (l:List cT):Prop:=l.Pairwise (λa b=>¬(b.peer=a.peer∧b.kind=a.kind))
theorem SM.set {l:List cT} (h:SM l) (t:cT):SM (iI l t):=by
 unfold SM at*;rw[vO];have aep:∀ {a b:cT},¬(b.peer=a.peer∧b.kind=a.kind)->¬(a.peer=b.peer∧a.kind=b.kind):=λhn e=>hn ⟨e.1.symm,e.2.symm⟩;exact((mq t _).pairwise_iff aep).2 (JjX.2 ⟨λx hx=>(jh hx).2,h.filter _⟩)
theorem xv.un (h:xv now k iH T U) (hu:SM T):SM U:=by
 induction h with
 |refl=>exact hu
 |can n _ ih=>exact List.Pairwise.filter _ ih
 |set t _ _ _ _ _ _ ih=>exact ih.set t
def xg (l:List cT) (n:Int):Nat:=(l.filter λt=>decide (t.at_≤n)).length
theorem Lx (l:List cT) (n:Int) (k:Key) (m:Int):xg (bc l k m) n≤xg l n:=by
 unfold xg bc;rw[JkZ]
 have:(l.filter λa=>decide (a.at_≤n)&&nX k m a)=(l.filter λt=>decide (t.at_≤n)).filter (nX k m):=by
  rw[JkZ];congr 1;funext a;exact Bool.and_comm _ _
 rw[this];exact JfZ _ _
theorem Vt (l:List cT) {n:Int} {t:cT} (h:n<t.at_):xg (iI l t) n≤xg l n:=by
 have hp:=(mq t (bc l t.peer t.kind)).filter λt=>decide (t.at_≤n);have hl:=hp.length_eq;have hn:decide (t.at_≤n)=false:=by simp;omega
 rw[JpV,hn]at hl;simp only[fJ,if_false]at hl;unfold xg;rw[vO,hl];exact Lx l n t.peer t.kind
theorem xv.xg (h:xv now k iH T U):xg U now≤xg T now:=by
 induction h with
 |refl=>exact JaQ _
 |can n _ ih=>exact JeW (Lx _ _ _ _) ih
 |set t _ a _ _ _ _ ih=>exact JeW (Vt _ a) ih
end
theorem E0 {α:Type} [DecidableEq α]:∀ {l m:List α},l.Nodup->(∀x∈l,x∈m)->l.length≤m.length
 |[],_,_,_=>Nat.zero_le _
 |
  a::l,m,h,hs=>by
  have ha:a∈m:=hs a List.mem_cons_self
  have h:=JiZ.1 h
  have:=E0 (l:=l) (m:=m.erase a) h.2 (λx hx=>(List.mem_erase_of_ne (by rintro rfl;exact h.1 hx)).2 (hs x (List.mem_cons_of_mem _ hx)))
  rw[List.length_erase_of_mem ha]at this
  have:0<m.length:=List.length_pos_of_mem ha
  simp only[JcQ];omega
theorem Vu {l:List cT} (hu:SM l) {ks:List Key} (h:∀t∈l,1≤t.kind∧t.kind≤5∧t.peer∈ks):l.length≤5*ks.length:=by
 have hn:(l.map λt=>(t.peer,t.kind)).Nodup:=by
  rw[List.nodup_iff_pairwise_ne,List.pairwise_map];exact hu.imp λN2 e=>N2 ⟨by have:=congrArg Prod.fst e;exact this.symm,by have:=congrArg Prod.snd e;exact this.symm⟩
 have:=E0 hn (m:=ks.flatMap λk=>[(k,1),(k,2),(k,3),(k,4),(k,5)]) (λx hx=>by
  obtain⟨t,ht,rfl⟩:=JgX.1 hx;obtain⟨h1,h2,h3⟩:=h t ht;refine JkW.2 ⟨t.peer,h3,?_⟩;rcases(by omega:t.kind=1∨t.kind=2∨t.kind=3∨t.kind=4∨t.kind=5)with e|e|e|e|e<;>simp[e])
 have hl:(ks.flatMap λk=>[(k,(1:Int)),(k,2),(k,3),(k,4),(k,5)]).length=5*ks.length:=by
  clear this h;induction ks with
  |nil=>rfl
  |cons a ks ih=>rw[JsX,JaJ,ih];simp;omega
 rw[hl,JaX]at this;exact this
structure qJ (p:bM):Prop where
 xr:p.pj=false
 rG:∃ck:List UInt8,ck.length=16∧p.rG.p=bA 16 ck
 born:0≤p.ring.c.mZ.born
 send:∃sk:Key,p.ring.c.mZ.send=sk.fv
 rem:0≤p.ring.c.mZ.rem∧p.ring.c.mZ.rem≤4294967295
 next:0≤p.ring.c.mZ.next
 iH:p.iH=0∨0<p.iH∧p.iH≤1099511627776
 stl:p.ej.length≤1000
 stb:∀b∈p.ej,b.length≤100000
theorem zO:∃sk:Key,yC.send=sk.fv:=⟨zK,by show Ly=_;unfold Ly Key.fv;congr 1;exact te⟩
theorem qJ.wip {p:bM} (h:qJ p):qJ (Df p):=⟨h.1,h.2,by show(0:Int)≤yC.born;decide,zO,by show(0:Int)≤yC.rem∧yC.rem≤4294967295;decide,by show(0:Int)≤yC.next;decide,h.7,h.8,h.9⟩
theorem qJ.cu {p:bM} (h:qJ p):qJ (Od p):=⟨h.1,h.2,h.3,h.4,h.5,by have:=h.6;show 0≤p.ring.c.mZ.next+1;omega,h.7,h.8,h.9⟩
theorem qJ.giv {p:bM} (h:qJ p):qJ (Dg p):=⟨h.1,h.2,h.3,h.4,h.5,h.6,h.7,by simp[Dg],by simp[Dg]⟩
structure Eff (d:bh) (p:bM) (d':bh) (p':bM):Prop where
 Vk:d'= {d with random:=d'.random,aR:=d'.aR,timers:=d'.timers}
 xf:∃k':Key,d'.random=k'.fv
 Y8:d'.aR.length≤max 32 d.aR.length
 SN:xv d.now p.b8 p.iH d.timers d'.timers
 b8:p'.b8=p.b8
 iH:p'.iH=p.iH
 ok:qJ p'
structure Zb (d:bh):Prop where
 n0:0≤d.now
 n1:d.now≤1099511627776
 r0:0<d.rules.ret
 r1:d.rules.ret≤1099511627776
theorem wrS {a b:Int} (h0:0≤a) (h1:a≤1099511627776) (h2:0<b) (h3:b≤1099511627776):IntKind.i64.wrap (a+b)=a+b:=wrap_i64 (by omega)
theorem alx {d:bh} (ht:Zb d) {p:bM} (hp:qJ p) {T:List cT} (h:xv d.now p.b8 p.iH T d.timers):xv d.now p.b8 p.iH T (lj d p).timers:=by
 unfold lj;split
 ·exact h
 ·rename_i hk;have hk:=(hp.iH).resolve_left hk;show xv d.now p.b8 p.iH T (iI d.timers _);rw[wrS ht.n0 ht.n1 hk.1 hk.2];exact h.set _ (by show d.now<d.now+p.iH;omega) rfl (by show(1:Int)≤4;decide) (by show(4:Int)≤5;decide) (λ_=>by omega)
theorem aly {d:bh} (ht:Zb d) {p:bM} (hp:qJ p) {k pr:Key} {d':bh} {p':bM} {O:List PV} (h:Qd d p k pr d' p' O):Eff d p d' p':=by
 refine⟨h.Vk,⟨_,h.xf⟩,h.Y8.1,?_,by rw[h.Bg],by rw[h.Bg],?_⟩
 ·rcases h.out with⟨e,_⟩|⟨e,_⟩
  ·rw[e];exact xv.refl.jV _
  ·rw[e]
   have:=alx (d:=uU d (iI d.timers ⟨IntKind.i64.wrap (d.now+d.rules.ret),p.b8,1⟩)) ⟨ht.1,ht.2,ht.3,ht.4⟩ hp (T:=d.timers) (by
    show xv d.now p.b8 p.iH d.timers (iI d.timers _);rw[wrS ht.n0 ht.n1 ht.r0 ht.r1];exact xv.refl.set _ (by show d.now<d.now+d.rules.ret;have:=ht.r0;omega) rfl (by show(1:Int)≤1;decide) (by show(1:Int)≤5;decide) (λe=>by simp at e))
   exact this
 ·rw[h.Bg];exact⟨hp.1,hp.2,hp.3,hp.4,hp.5,hp.6,hp.7,hp.8,hp.9⟩
theorem alz {d:bh} {p:bM} (hp:qJ p) {k:Key} (hk:d.random=k.fv):Eff d p d p:=⟨rfl,⟨k,hk⟩,by omega,.refl,rfl,rfl,hp⟩
theorem alA {d:bh} (ht:Zb d) {p:bM} (hp:qJ p) {k pr:Key} (hk:d.random=k.fv) {d':bh} {p':bM} {O:List PV} (h:Vm d p k pr d' p' O):Eff d p d' p':=by
 rcases h with⟨_,rfl,rfl,_⟩|⟨_,h⟩
 ·exact alz hp hk
 ·exact aly ht hp h
theorem Zc {d:bh} (ht:Zb d) {p:bM} (hp:qJ p) {k pr:Key} (hk:d.random=k.fv) {d':bh} {p':bM} {O:List PV} (h:Ie d p k pr d' p' O):Eff d p d' p':=by
 rcases h with⟨_,rfl,rfl,_⟩|⟨_,_,h⟩|⟨_,_,rfl,rfl,_⟩
 ·exact alz hp hk
 ·exact alA ht hp hk h
 ·refine⟨?_,⟨k,by show(lj d p).random=_;rw[alo];exact hk⟩,by show(lj d p).aR.length≤_;rw[alp];omega,(alx ht hp .refl).jV _,rfl,rfl,hp.cu⟩;show uU (lj d p) _=_;rw[atv];rfl
theorem alB {d:bh} {p:bM}:(lW d p)= {d with aR:=(lW d p).aR,timers:=jV p.b8 d.timers [1]}∧(lW d p).aR.length≤d.aR.length:=by
 unfold lW;split
 ·exact⟨rfl,kt _ _⟩
 ·exact⟨rfl,JaQ _⟩
theorem atx {d:bh} (ht:Zb d) {p:bM} (hp:qJ p) {k pr:Key} (hk:d.random=k.fv) {d':bh} {p':bM} {O:List PV} (h:acn d p k pr d' p' O):Eff d p d' p':=by
 rcases h with⟨_,h⟩|⟨_,rfl,rfl,_⟩
 ·exact aly ht hp h
 ·obtain⟨e1,e2⟩:=alB (d:=d) (p:=p);have et:(lW d p).timers=jV p.b8 d.timers [1]:=by rw[e1]
  refine⟨?_,⟨k,by show(lW d p).random=_;rw[e1];exact hk⟩,by show(lW d p).aR.length≤_;omega,?_,rfl,rfl,hp.giv⟩
  ·unfold Vq lW;split<;>rfl
  ·show xv _ _ _ _ (jV p.b8 (lW d p).timers [2,3]);rw[et];exact(xv.refl.jV _).jV _
theorem aty {d:bh} {p:bM} (hp:qJ p) {k:Key} (hk:d.random=k.fv):Eff d p (Gi d p) (Df p):=by
 obtain⟨e1,e2⟩:=alB (d:=py d (bY d.aR (tW [p.ring.p,p.ring.c,p.ring.n]))) (p:=p);have e3:=kt (tW [p.ring.p,p.ring.c,p.ring.n]) d.aR;have et:(lW (py d (bY d.aR (tW [p.ring.p,p.ring.c,p.ring.n]))) p).timers=jV p.b8 d.timers [1]:=by rw[e1];rfl
 refine⟨?_,⟨k,?_⟩,?_,?_,rfl,rfl,hp.wip⟩
 ·unfold Gi lW;split<;>rfl
 ·show(lW (py d _) p).random=_;rw[e1];exact hk
 ·show(lW (py d _) p).aR.length≤_;have:(py d (bY d.aR (tW [p.ring.p,p.ring.c,p.ring.n]))).aR.length≤d.aR.length:=e3;omega
 ·show xv _ _ _ _ (jV p.b8 (lW (py d _) p).timers [2,3]);rw[et];exact(xv.refl.jV _).jV _
def KR (kd:Int) (d:bh) (p:bM) (k pr:Key) (d':bh) (p':bM) (O:List PV):Prop:=
 (kd=1∧acn d p k pr d' p' O)∨(kd=2∧Vm d p k pr d' p' O)∨(kd=3∧Ie d p k pr d' p' O)∨
 (kd=4∧∃d1,Ie d p k pr d1 p' O∧d'=uU d1 (iI d1.timers ⟨IntKind.i64.wrap (d1.now+p'.iH),p'.b8,4⟩))∨(kd=5∧d'=Gi d p∧p'=Df p∧O=[])
def kF (kd:Int):FuncId:=if kd=1 then 157 else if kd=2 then 112 else if kd=3 then 148 else if kd=4 then 158 else 159
theorem krE {kd:Int} {d:bh} (ht:Zb d) {p:bM} (hp:qJ p) (h4:kd=4->p.iH≠0) {k pr:Key} (hk:d.random=k.fv) {d':bh} {p':bM} {O:List PV} (h:KR kd d p k pr d' p' O):Eff d p d' p':=by
 rcases h with⟨_,h⟩|⟨_,h⟩|⟨_,h⟩|⟨rfl,d1,h,rfl⟩|⟨_,rfl,rfl,_⟩
 ·exact atx ht hp hk h
 ·exact alA ht hp hk h
 ·exact Zc ht hp hk h
 ·have hE:=Zc ht hp hk h;have hk4:=hp.iH.resolve_left (h4 rfl);have en:d1.now=d.now:=by rw[hE.Vk]
  refine⟨?_,hE.xf,hE.Y8,?_,hE.b8,hE.iH,hE.ok⟩
  ·rw[hE.Vk];rfl
  ·show xv d.now p.b8 p.iH d.timers (iI d1.timers _);rw[en,hE.iH,hE.b8,wrS ht.n0 ht.n1 hk4.1 hk4.2];exact hE.SN.set _ (by show d.now<d.now+p.iH;omega) rfl (by show(1:Int)≤4;decide) (by show(4:Int)≤5;decide) (λ_=>h4 rfl)
 ·exact aty hp hk
theorem atz {kd:Int} (h1:1≤kd) (h5:kd≤5) {d:bh} (ht:Zb d) (hT:d.timers.length≤100000) (hS:d.aR.length≤1000000) {ps:List bM} {i:Nat} (hi:i<ps.length) (hp:qJ ps[i]) {k pr:Key} (hk:d.random=k.fv) (uu:d.ju=pr.fv):
  ∃(d':bh) (p':bM) (O:List PV),KR kd d ps[i] k pr d' p' O∧(au O∧O.length≤1)∧MC (kF kd) [.pt (KB+1) [.i i 464] ps.length] d ps (.tup []) d' (ps.set i p') O:=by
 obtain⟨ck,BT,Mk⟩:=hp.rG;obtain⟨sk,hsk⟩:=hp.send;have n9:d.now≤9000000000000000000:=by have:=ht.n1;omega
 rcases(by omega:kd=1∨kd=2∨kd=3∨kd=4∨kd=5)with rfl|rfl|rfl|rfl|rfl
 ·obtain⟨d',p',O,h,hO,hM⟩:=aco (by omega) hS hi hk uu hp.xr BT Mk;exact⟨d',p',O,.inl ⟨rfl,h⟩,hO,hM⟩
 ·obtain⟨d',p',O,h,hM⟩:=Gh (by omega) hS hi hk uu hp.xr BT Mk;refine⟨d',p',O,.inr (.inl ⟨rfl,h⟩),?_,hM⟩;rcases h with⟨_,_,_,rfl⟩|⟨_,h⟩
  ·simp
  ·exact sE h
 ·obtain⟨d',p',O,h,hO,hM⟩:=Y9 ht.n0 n9 (by omega) hS hi hk uu hp.xr BT Mk hp.born hsk hp.rem hp.next;exact⟨d',p',O,.inr (.inr (.inl ⟨rfl,h⟩)),hO,hM⟩
 ·obtain⟨d',p',O,h,hO,hM⟩:=Y9 ht.n0 n9 (by omega) hS hi hk uu hp.xr BT Mk hp.born hsk hp.rem hp.next
  have hl:d'.timers.length≤1048575:=by
   rcases h with⟨_,rfl,_⟩|⟨_,_,h⟩|⟨_,_,rfl,_⟩
   ·omega
   ·rcases h with⟨_,rfl,_⟩|⟨_,h⟩
    ·omega
    ·rcases h.out with⟨e,_⟩|⟨e,_⟩
     ·have:=vM ps[i].b8 [1] d.timers;rw[e];omega
     ·rw[e];have h1:=Qg (uU d (iI d.timers ⟨IntKind.i64.wrap (d.now+d.rules.ret),ps[i].b8,1⟩)) ps[i];have h2:=Ab.stl d.timers ⟨IntKind.i64.wrap (d.now+d.rules.ret),ps[i].b8,1⟩;have h3:(uU d (iI d.timers ⟨IntKind.i64.wrap (d.now+d.rules.ret),ps[i].b8,1⟩)).timers=iI d.timers ⟨IntKind.i64.wrap (d.now+d.rules.ret),ps[i].b8,1⟩:=rfl;rw[h3]at h1;omega
   ·have h1:=Qg d ps[i];have h2:=vM ps[i].b8 [3] (lj d ps[i]).timers;show(jV ps[i].b8 (lj d ps[i]).timers [3]).length≤_;omega
  exact⟨_,p',O,.inr (.inr (.inr (.inl ⟨rfl,d',h,rfl⟩))),hO,Qe hi hO.1 hM hl⟩
 ·exact⟨_,_,[],.inr (.inr (.inr (.inr ⟨rfl,rfl,rfl,rfl⟩))),by simp,als (by omega) hS hi⟩
theorem Ii {q:bM->Bool} {l:List bM} {i:Nat} (hi:i<l.length) {x:bM} (hq:q x=q l[i]):kU q (l.set i x)=kU q l:=by
 have h:∀m:List bM,m.findIdx? q=(m.map q).findIdx? id:=λm=>by rw[List.findIdx?_map];rfl
 unfold kU;rw[h,h,JfJ,hq];have:(l.map q).set i (q l[i])=l.map q:=by rw[←JfJ,JoX]
 rw[this]
theorem Gl {q:bM->Bool} {l:List bM} {i:Nat} (h:kU q l=(i:Int)) (hi:i<l.length):q l[i]=true:=by
 rcases tj q l with⟨e,_⟩|⟨j,hj,e,_,hq⟩
 ·omega
 ·have:i=j:=by omega
  subst this;exact hq
abbrev uV:=bh×List bM
def lp (d:bh):bh:= {d with timers:=bc d.timers (kO d.timers).peer (kO d.timers).kind,now:=max d.now (kO d.timers).at_}
def Nr (d:bh) (ps:List bM) (t:cT) (r:uV×List PV):Prop:=
 ∃i,∃hi:i<ps.length,kU (λp=>decide (p.b8=t.peer)) ps=(i:Int)∧∃p',r.1.2=ps.set i p'∧(∃k pr:Key,d.random=k.fv∧d.ju=pr.fv∧KR t.kind d ps[i] k pr r.1.1 p' r.2)∧(au r.2∧r.2.length≤1)∧MC (kF t.kind) [.pt (KB+1) [.i i 464] ps.length] d ps (.tup []) r.1.1 (ps.set i p') r.2
open Classical in
def act (d:bh) (ps:List bM) (t:cT):uV×List PV:=if h:∃r,Nr d ps t r then Classical.choose h else((d,ps),[])
theorem acq {d:bh} {ps:List bM} {t:cT} (h:∃r,Nr d ps t r):Nr d ps t (act d ps t):=by
 unfold act;rw[dif_pos h];exact Classical.choose_spec h
def xf (s:uV):uV×List PV:=act (lp s.1) s.2 (kO s.1.timers)
structure qK (s:uV):Prop where
 n0:0≤s.1.now
 r0:0<s.1.rules.ret
 r1:s.1.rules.ret≤1099511627776
 xf:∃k:Key,s.1.random=k.fv
 prv:∃k:Key,s.1.ju=k.fv
 Y8:s.1.aR.length≤1000
 Bg:∀p∈s.2,qJ p
 len:s.2.length≤10
 uni:SM s.1.timers
 SN:∀t∈s.1.timers,(1≤t.kind∧t.kind≤5)∧∃i,∃h:i<s.2.length,kU (λp=>decide (p.b8=t.peer)) s.2=(i:Int)∧(t.kind=4->s.2[i].iH≠0)
theorem qK.tl {s:uV} (h:qK s):s.1.timers.length≤5*s.2.length:=by
 have:=Vu h.uni (ks:=s.2.map λp=>p.b8) (λt ht=>by
  obtain⟨⟨a,b⟩,i,hi,hf,_⟩:=h.SN t ht;have hq:=Gl hf hi;exact⟨a,b,JgX.2 ⟨_,JbJ hi,of_decide_eq_true hq⟩⟩)
 rw[JaX]at this;exact this
def mu (to:Int) (s:uV):Nat:=(to-s.1.now).toNat*(5*s.2.length+1)+xg s.1.timers s.1.now
def yD (s s':uV):Prop:=s'.1= {s.1 with now:=s'.1.now,random:=s'.1.random,aR:=s'.1.aR,timers:=s'.1.timers}
theorem acr {l:List cT} {t:cT} (h:t∈l) {n:Int} (hn:t.at_≤n):xg (bc l t.peer t.kind) n<xg l n:=by
 unfold xg bc
 have:((l.filter (nX t.peer t.kind)).filter λa=>decide (a.at_≤n))=(l.filter λt=>decide (t.at_≤n)).filter (nX t.peer t.kind):=by
  rw[JkZ,JkZ];congr 1;funext a;exact Bool.and_comm _ _
 rw[this,List.length_filter_lt_length_iff_exists];exact⟨t,JgQ.2 ⟨h,by simpa using hn⟩,by simp[nX]⟩
theorem Vv (l:List cT) (n:Int):xg l n≤l.length:=JfZ _ _
theorem BI {s:uV} (h:qK s) {to:Int} (hd:mj s.1.timers to=true) (hn:s.1.now≤to) (I3:to≤1099511627776):
  Nr (lp s.1) s.2 (kO s.1.timers) (xf s)∧qK (xf s).1∧(xf s).1.1.now=(lp s.1).now∧(lp s.1).now≤to∧mu to (xf s).1<mu to s∧yD s (xf s).1:=by
 obtain⟨htm,hta⟩:=Gk hd;obtain⟨⟨k1,k5⟩,i,hi,hf,h4⟩:=h.SN _ htm;have Oo:(lp s.1).now=max s.1.now (kO s.1.timers).at_:=rfl;have NY:=h.n0;have hnt:(lp s.1).now≤to:=by rw[Oo];omega
 have tms:Zb (lp s.1):=⟨by rw[Oo];omega,by omega,h.r0,h.r1⟩
 obtain⟨k,hk⟩:=h.xf;obtain⟨pr,uu⟩:=h.prv;have Fo:=h.tl;have hlen:=h.len;have azN:=h.Y8;have qH:(lp s.1).timers=bc s.1.timers (kO s.1.timers).peer (kO s.1.timers).kind:=rfl;have DQ:(lp s.1).timers.length≤s.1.timers.length:=by rw[qH];exact JfZ _ _
 have Oi:(lp s.1).aR=s.1.aR:=rfl;obtain⟨d',p',O,hK,hO,hM⟩:=atz k1 k5 tms (by omega) (by rw[Oi];omega) hi (h.Bg _ (JbJ hi)) (show(lp s.1).random=k.fv from hk) (show(lp s.1).ju=pr.fv from uu);have hA:Nr (lp s.1) s.2 (kO s.1.timers) (xf s):=acq ⟨((d',s.2.set i p'),O),i,hi,hf,p',rfl,⟨k,pr,hk,uu,hK⟩,hO,hM⟩;refine⟨hA,?_⟩;clear hK hO hM;obtain⟨i2,Ai,S7,p2,e2,⟨k2,pr2,yT,azO,qQ⟩,hO2,hM2⟩:=hA;have hii:i2=i:=by omega
 subst hii;generalize xf s=r at*;obtain⟨⟨d2,ps2⟩,O2⟩:=r;simp only at e2 qQ hM2 hO2⊢;subst e2;have hE:=krE tms (h.Bg _ (JbJ hi)) h4 yT qQ;have GX:s.2[i2].b8=(kO s.1.timers).peer:=of_decide_eq_true (Gl hf hi);have en:d2.now=(lp s.1).now:=by rw[hE.Vk]
 have er:d2.rules=s.1.rules:=by rw[hE.Vk];rfl
 have aof:=hE.Y8;rw[Oi]at aof;have hq:∀k:Key,decide (p2.b8=k)=decide (s.2[i2].b8=k):=λk=>by rw[hE.b8]
 have hI:qK (d2,s.2.set i2 p2):=by
  refine⟨by show 0≤d2.now;rw[en,Oo];omega,by show 0<d2.rules.ret;rw[er];exact h.r0,by show d2.rules.ret≤_;rw[er];exact h.r1,hE.xf,⟨pr,by show d2.ju=_;rw[hE.Vk];exact uu⟩,by show d2.aR.length≤_;omega,?_,by simpa using h.len,hE.SN.un ?_,?_⟩
  ·intro p hp;rcases JhJ hp with hp|rfl
   ·exact h.Bg p hp
   ·exact hE.ok
  ·rw[qH];exact List.Pairwise.filter _ h.uni
  ·intro x hx;rcases hE.SN.mem hx with hx|⟨_,a2,a3,a4,a5⟩
   ·obtain⟨hk,j,hj,hfj,hj4⟩:=h.SN x (jh hx).1;refine⟨hk,j,by simpa using hj,?_,λe=> ?_⟩
    ·rw[←hfj];exact Ii (q:=λp=>decide (p.b8=x.peer)) hi (hq _)
    ·have:=hj4 e;simp only[JpW];split
     ·rename_i G6;subst G6;rw[hE.iH];exact this
     ·exact this
   ·refine⟨⟨a3,a4⟩,i2,by simpa using hi,?_,λe=> ?_⟩
    ·rw[a2,GX,←hf];exact Ii (q:=λp=>decide (p.b8=(kO s.1.timers).peer)) hi (hq _)
    ·simp only[List.getElem_set_self];rw[hE.iH];exact a5 e
 refine⟨hI,en,hnt,?_,?_⟩
 ·unfold mu;have hc:=hE.SN.xg;simp only[JjQ];rw[en];by_cases hle:(kO s.1.timers).at_≤s.1.now
  ·have e:(lp s.1).now=s.1.now:=by rw[Oo];omega
   rw[e]at hc⊢;rw[qH]at hc;have:=acr htm hle;omega
  ·have e:(lp s.1).now=(kO s.1.timers).at_:=by rw[Oo];omega
   have yR:=Vv d2.timers (lp s.1).now;have avF:=hI.tl;simp only[JjQ]at avF;have hm:(to-(lp s.1).now).toNat+1≤(to-s.1.now).toNat:=by rw[e];omega
   have:=JcV (5*s.2.length+1) hm;rw[JgZ]at this;omega
 ·show d2=_;have:=hE.Vk;exact this.trans (by rw[en];rfl)
def tr:Nat->uV->uV×List PV
 |0,s=>(s,[])
 |n+1,s=>((xf (tr n s).1).1,(tr n s).2++(xf (tr n s).1).2)
def Ends (to:Int) (s:uV) (N:Nat):Prop:=(∀i,i<N->mj (tr i s).1.1.timers to=true)∧mj (tr N s).1.1.timers to=false
theorem Qm (a:Nat):∀(b:Nat) (s:uV),tr (a+b) s=((tr b (tr a s).1).1,(tr a s).2++(tr b (tr a s).1).2)
 |0,s=>by simp[tr]
 |
  b+1,s=>by
  have:=Qm a b s
  rw[←Nat.add_assoc]
  simp only[tr,this,JeJ]
theorem uX {s:uV} (h:qK s) {to:Int} (hn:s.1.now≤to) (I3:to≤1099511627776):∀N,(∀i,i<N->mj (tr i s).1.1.timers to=true)->
  qK (tr N s).1∧(s.1.now≤(tr N s).1.1.now∧(tr N s).1.1.now≤to)∧mu to (tr N s).1+N≤mu to s∧yD s (tr N s).1∧au (tr N s).2∧(tr N s).2.length≤N
 |0,_=>⟨h,⟨Int.le_refl _,hn⟩,JaQ _,rfl,by simp[tr],by simp[tr]⟩
 |
  N+1,hd=>by
  obtain⟨h1,⟨h2a,h2⟩,h3,h4,h5,h6⟩:=uX h hn I3 N (λi hi=>hd i (by omega))
  obtain⟨⟨_,_,_,_,_,_,⟨g1,g2⟩,_⟩,i1,i2,i3,i4,i5⟩:=BI h1 (hd N (by omega)) h2 I3
  simp only[tr]
  have i6:(lp (tr N s).1.1).now=max (tr N s).1.1.now (kO (tr N s).1.1.timers).at_:=rfl
  refine⟨i1,⟨by rw[i2,i6];omega,by omega⟩,by omega,?_,h5.append g1,by rw[JaJ];omega⟩
  unfold yD at*
  rw[i5]
  generalize (xf (tr N s).1).1.1=d9 at*
  rw[h4]
theorem acs {P:Nat->Prop}:∀n,P n->∃m,P m∧∀i,i<m->¬P i:=by
 intro n;induction n using Nat.strongRecOn with
 |
  _ n ih=>
  intro hn
  by_cases h:∃i,i<n∧P i
  ·obtain⟨i,hi,hp⟩:=h;exact ih i hi hp
  ·exact⟨n,hn,λi hi hp=>h ⟨i,hi,hp⟩⟩
theorem alC {s:uV} (h:qK s) {to:Int} (hn:s.1.now≤to) (I3:to≤1099511627776):∃N,Ends to s N:=by
 by_cases cy:∀i,mj (tr i s).1.1.timers to=true
 ·have:=(uX h hn I3 (mu to s+1) (λi _=>cy i)).2.2.1;omega
 ·obtain⟨n,hn⟩:=Classical.not_forall.1 cy;obtain⟨m,hm,hl⟩:=acs (P:=λi=>mj (tr i s).1.1.timers to=false) n (by simpa using hn);exact⟨m,λi hi=>by simpa using hl i hi,hm⟩
def fin (to:Int) (s:uV):uV:=({s.1 with now:=to},s.2)
theorem qK.fin {s:uV} (h:qK s) {to:Int} (hn:s.1.now≤to):qK (fin to s):=⟨by have:=h.n0;show 0≤to;omega,h.2,h.3,h.4,h.5,h.6,h.7,h.8,h.9,h.10⟩
@[simp↓] theorem atA (g:Bool) (k b:Nat) (K:PV->Prop):ei g (.mp k b) K=K (.mp k b):=_root_.id rfl
theorem lkA {kd:Int} (h1:1≤kd) (h5:kd≤5):Ao (.int .i64 kd) [(.int .i64 1,.fn (.func 157) [] []),(.int .i64 2,.fn (.func 112) [] []),(.int .i64 3,.fn (.func 148) [] []),(.int .i64 4,.fn (.func 158) [] []),(.int .i64 5,.fn (.func 159) [] [])]=some (.fn (.func (kF kd)) [] []):=by
 rcases(by omega:kd=1∨kd=2∨kd=3∨kd=4∨kd=5)with rfl|rfl|rfl|rfl|rfl<;>rfl
theorem acu (s:uV) {i N:Nat} (h:i≤N):(tr i s).2.length≤(tr N s).2.length:=by
 obtain⟨k,rfl⟩:∃k,N=i+k:=⟨N-i,by omega⟩
 rw[Qm,JaJ];omega
theorem alD {s:uV} (h:qK s) {to:Int} (h0:s.1.now≤to) (h1:to≤1099511627776) (h2:to≤s.1.now+60000) {N:Nat} (hE:Ends to s N):
  MC 28 [.int .i64 to] s.1 s.2 (.bl true) (fin to (tr N s).1).1 (tr N s).1.2 (tr N s).2:=by
 intro L hL hb;refine ae.intro T.fT (by simp[F.fT]) ?_;have hn:=h.n0;have n0:¬to<s.1.now:=by omega
 have n1:¬(1099511627776:Int)<to:=by omega
 have w:IntKind.i64.wrap (s.1.now+60000)=s.1.now+60000:=wrap_i64 (by omega);have n2:¬s.1.now+60000<to:=by omega
 simp[F.fT,aj,av,MB,n0,n1,n2,w];refine ai.gR [] [1] [] Vp (by simp) (by simp) ?_;rintro r fp ⟨b,rfl,rfl⟩;refine⟨by simp[af,ab,Vo],?_⟩;simp[aI,az,aE,Vo];refine eW.fM N (λ_=>True) [0,1,5] (λ_=>[]) (λi=>[(KB,.box (tq (tr i s).1.1 (KB+1) (tr i s).1.2.length (KB+2) (L++(tr i s).2).length)),(KB+1,.arr 464 ((tr i s).1.2.map aP)),(KB+2,.arr 86 (L++(tr i s).2))]) [.keep [0,1,5]] ?_;simp[show tr 0 s=(s,[]) from rfl];refine⟨λi hi K hK=> ?_,λK=> ?_⟩
 ·obtain⟨i1,⟨_,i2⟩,_,_,i5,_⟩:=uX h h0 h1 i (λj hj=>hE.1 j (by omega));have hd:=hE.1 i hi;have hle:=acu s (show i+1≤N by omega);obtain⟨hA,_⟩:=BI i1 hd i2 h1;simp only[show tr (i+1) s=((xf (tr i s).1).1,(tr i s).2++(xf (tr i s).1).2) from rfl]at hK hle;obtain⟨⟨k1,k5⟩,_⟩:=i1.SN _ (Gk hd).1;have Fo:=i1.tl;have oJ:=i1.len;generalize xf (tr i s).1=r at*;generalize tr i s=q at*;obtain⟨⟨d',Aj⟩,O'⟩:=q;obtain⟨⟨d2,ps2⟩,O2⟩:=r;simp only at*;obtain⟨j,hj,hf,p',e,_,⟨hO1,_⟩,hM⟩:=hA;simp only at e hM hO1;subst e;have ud:au (L++O'):=hL.append i5;have hD:=alv (l:=d'.timers) (by omega) to;rw[Qk,if_pos hd]at hD;have hC:=alh (l:=d'.timers) (by omega) (kO d'.timers).peer (kO d'.timers).kind;have hF:=Y7 (lp d') (ps:=Aj) (by omega) (k:=(kO d'.timers).peer) hj hf;unfold lp at hF hM;generalize kO d'.timers=t at*;simp[↓al];refine ai.rA hD ?_;simp;refine aM.rA hC ?_;simp;have KP:L.length+O'.length+O2.length≤1000000:=by simp only[JaJ]at hle;omega
  have hlk:=lkA k1 k5;refine XW.run [] rfl rfl rfl ?_;simp[hlk];have S6:fits (.i .i64) (.int .i64 t.kind)=true:=by simp[Ab.fits]
  have AW:(L++O').length+O2.length≤1000000:=by simpa using KP
  refine⟨⟨S6,?_⟩,?_⟩
  all_goals
   refine ai.BG hF ud (by simp;omega) (by simp) ?_
   simp[hlk,S6]
   refine ai.BG hM ud AW hO1 ?_
   simp
   refine⟨[.keep [0,1,5],.dr 6],?_⟩
   simp[bn,bU,af,ab,hO1.refs]
   exact⟨⟨hL.refs _,i5.refs _⟩,hK _ (by simp)⟩
 ·have hd:=hE.2;obtain⟨i1,⟨_,i2⟩,_,_,i5,_⟩:=uX h h0 h1 N hE.1;have Fo:=i1.tl;have oJ:=i1.len;have ud:au (L++(tr N s).2):=hL.append i5;unfold fin;generalize tr N s=q at*;obtain⟨⟨d',Aj⟩,O'⟩:=q;simp only at*;have hD:=alv (l:=d'.timers) (by omega) to;rw[Qk,if_neg (by rw[hd];simp)]at hD;simp[↓al];refine ai.rA hD ?_;simp[↓al];refine aA.with [.keep [4],.dr 1,.dr 6] [KB,KB+1,KB+2] ?_;simp[ud.refs,ud.aE]
def oA (l:(List xt)):PV:= .sl 18 (l.map gr) false
@[simp] theorem acv (e:(List xt)):Pure (oA e):=by simp[oA]
@[simp] theorem alE (e:(List xt)):wk (oA e)=oA e:=by simp[oA]
@[simp↓] theorem agN (g:Bool) (e:(List xt)) (K:PV->Prop):ei g (oA e) K=K (oA e):=_root_.id rfl
@[simp] theorem Zd (e:(List xt)):(oA e).width=1:=_root_.id rfl
@[simp] theorem agO (e:(List xt)):(oA e).isAgg=false:=_root_.id rfl
@[simp↓] theorem acw (s:St) (K:PV->Prop) (l:List xt):yl s K (oA l)=K (.int .i64 l.length):=by simp[oA]
structure Bh where
 b8:Key
 shared:Key
 fD:Bool
 ep:H4
 iH:Int
 allowed:List xt
def fE (c:Bh):PV:= .st 85 [aG c.b8,aG c.shared,.bl c.fD,gZ c.ep,.int .i64 c.iH,oA c.allowed]
@[simp] theorem acx (e:Bh):Pure (fE e):=by simp[fE]
@[simp] theorem alF (e:Bh):wk (fE e)=fE e:=by simp[fE]
@[simp↓] theorem agP (g:Bool) (e:Bh) (K:PV->Prop):ei g (fE e) K=K (fE e):=_root_.id rfl
@[simp] theorem Ze (e:Bh):(fE e).width=85:=_root_.id rfl
@[simp] theorem agQ (e:Bh):(fE e).isAgg=true:=_root_.id rfl
@[simp] theorem acy (e:Bh):(fE e).aT=true:=_root_.id rfl
@[simp↓] theorem Vw (e:Bh) (r:List Step):aO (fE e) (.f 0 0::r)=aO (aG e.b8) r:=by simp[fE]
@[simp↓] theorem Vx (e:Bh) (r:List Step):aO (fE e) (.f 1 32::r)=aO (aG e.shared) r:=by simp[fE,aB]
@[simp↓] theorem Vy (e:Bh) (r:List Step):aO (fE e) (.f 2 64::r)=aO (.bl e.fD) r:=by simp[fE,aB]
@[simp↓] theorem Vz (e:Bh) (r:List Step):aO (fE e) (.f 3 65::r)=aO (gZ e.ep) r:=by simp[fE,aB]
@[simp↓] theorem VA (e:Bh) (r:List Step):aO (fE e) (.f 4 83::r)=aO (.int .i64 e.iH) r:=by simp[fE,aB]
@[simp↓] theorem VB (e:Bh) (r:List Step):aO (fE e) (.f 5 84::r)=aO (oA e.allowed) r:=by simp[fE,aB]
def oO (l:(List Bh)):PV:= .sl 85 (l.map fE) false
@[simp] theorem Zf (e:(List Bh)):Pure (oO e):=by simp[oO]
@[simp] theorem agR (e:(List Bh)):wk (oO e)=oO e:=by simp[oO]
structure Lz where
 ju:Key
 port:Int
 an:List Bh
def lH (c:Lz):PV:= .st 34 [aG c.ju,.int .i64 c.port,oO c.an]
@[simp] theorem acz (e:Lz):Pure (lH e):=by simp[lH]
@[simp] theorem alG (e:Lz):wk (lH e)=lH e:=by simp[lH]
@[simp↓] theorem agS (g:Bool) (e:Lz) (K:PV->Prop):ei g (lH e) K=K (lH e):=_root_.id rfl
@[simp] theorem Zg (e:Lz):(lH e).width=34:=_root_.id rfl
@[simp] theorem agT (e:Lz):(lH e).isAgg=true:=_root_.id rfl
@[simp] theorem acA (e:Lz):(lH e).aT=true:=_root_.id rfl
@[simp↓] theorem VC (e:Lz) (r:List Step):aO (lH e) (.f 0 0::r)=aO (aG e.ju) r:=by simp[lH]
@[simp↓] theorem VE (e:Lz) (r:List Step):aO (lH e) (.f 1 32::r)=aO (.int .i64 e.port) r:=by simp[lH,aB]
@[simp↓] theorem VF (e:Lz) (r:List Step):aO (lH e) (.f 2 33::r)=aO (oO e.an) r:=by simp[lH,aB]
def qp (p:Bh):bM:=⟨p.b8,p.shared.fv,p.fD,p.ep,p.iH,zSm,false,0,yA,false,LA,0,LA,Di,[]⟩
def Dk (r:zt) (c:Lz) (k:Key) (now sa:Int) (ps:List bM) (rt:List vY) (tm:List cT) (sec:FV wZ):bh:=
 ⟨r,c.ju.fv,(kN c.ju iY).fv,c.port,k.fv,now,ps,rt,[],tm,sec,sa,[],[],0⟩
def Ns (p:Bh):PV:= .st 464 [aG p.b8,aG p.shared,.bl p.fD,gZ p.ep,.int .i64 p.iH,(.ar 1 12 (zr 12 (.int .u8 0))),(.bl false),(.int .i64 0),(.st 100 [(.bl false),(.int .u32 0),(.ar 1 32 (zr 32 (.int .u8 0))),(.st 64 [(.ar 1 32 (zr 32 (.int .u8 0))),(.ar 1 32 (zr 32 (.int .u8 0)))]),(.int .i64 0),(.int .i64 0)]),(.bl false),(.ar 1 16 (zr 16 (.int .u8 0))),(.int .i64 0),(.ar 1 16 (zr 16 (.int .u8 0))),(.st 231 [(.st 77 [(.bl false),(.st 76 [(.int .u32 0),(.int .u32 0),(.ar 1 32 (zr 32 (.int .u8 0))),(.ar 1 32 (zr 32 (.int .u8 0))),(.int .u64 0),(.int .u64 0),(.st 6 [(.bl false),(.int .u64 0),(.ar 1 4 (zr 4 (.int .u64 0)))]),(.int .i64 0),(.bl false)])]),(.st 77 [(.bl false),(.st 76 [(.int .u32 0),(.int .u32 0),(.ar 1 32 (zr 32 (.int .u8 0))),(.ar 1 32 (zr 32 (.int .u8 0))),(.int .u64 0),(.int .u64 0),(.st 6 [(.bl false),(.int .u64 0),(.ar 1 4 (zr 4 (.int .u64 0)))]),(.int .i64 0),(.bl false)])]),(.st 77 [(.bl false),(.st 76 [(.int .u32 0),(.int .u32 0),(.ar 1 32 (zr 32 (.int .u8 0))),(.ar 1 32 (zr 32 (.int .u8 0))),(.int .u64 0),(.int .u64 0),(.st 6 [(.bl false),(.int .u64 0),(.ar 1 4 (zr 4 (.int .u64 0)))]),(.int .i64 0),(.bl false)])])]),.sl 1 [] true]
theorem atB (p:Bh):(.st 464 [aG p.b8,aG p.shared,.bl p.fD,gZ p.ep,.int .i64 p.iH,(.ar 1 12 (zr 12 (.int .u8 0))),(.bl false),(.int .i64 0),(.st 100 [(.bl false),(.int .u32 0),(.ar 1 32 (zr 32 (.int .u8 0))),(.st 64 [(.ar 1 32 (zr 32 (.int .u8 0))),(.ar 1 32 (zr 32 (.int .u8 0)))]),(.int .i64 0),(.int .i64 0)]),(.bl false),(.ar 1 16 (zr 16 (.int .u8 0))),(.int .i64 0),(.ar 1 16 (zr 16 (.int .u8 0))),(.st 231 [(.st 77 [(.bl false),(.st 76 [(.int .u32 0),(.int .u32 0),(.ar 1 32 (zr 32 (.int .u8 0))),(.ar 1 32 (zr 32 (.int .u8 0))),(.int .u64 0),(.int .u64 0),(.st 6 [(.bl false),(.int .u64 0),(.ar 1 4 (zr 4 (.int .u64 0)))]),(.int .i64 0),(.bl false)])]),(.st 77 [(.bl false),(.st 76 [(.int .u32 0),(.int .u32 0),(.ar 1 32 (zr 32 (.int .u8 0))),(.ar 1 32 (zr 32 (.int .u8 0))),(.int .u64 0),(.int .u64 0),(.st 6 [(.bl false),(.int .u64 0),(.ar 1 4 (zr 4 (.int .u64 0)))]),(.int .i64 0),(.bl false)])]),(.st 77 [(.bl false),(.st 76 [(.int .u32 0),(.int .u32 0),(.ar 1 32 (zr 32 (.int .u8 0))),(.ar 1 32 (zr 32 (.int .u8 0))),(.int .u64 0),(.int .u64 0),(.st 6 [(.bl false),(.int .u64 0),(.ar 1 4 (zr 4 (.int .u64 0)))]),(.int .i64 0),(.bl false)])])]),.sl 1 [] false]:PV)=aP (qp p):=rfl
def zPs:PV:= .st 148 [.st 10 [.int .u64 0,.int .u64 0,.int .i64 0,.int .i64 0,.int .i64 0,.int .i64 0,.int .i64 0,.int .i64 0,.int .i64 0,.int .i64 0],.ar 1 32 (zr 32 (.int .u8 0)),.ar 1 32 (zr 32 (.int .u8 0)),.int .i64 0,.ar 1 32 (zr 32 (.int .u8 0)),.int .i64 0,.sl 464 [] true,.sl 50 [] true,.sl 34 [] true,.sl 34 [] true,.ar 1 32 (zr 32 (.int .u8 0)),.int .i64 0,.sl 1 [] true,.sl 19 [] true,.int .i64 0]
@[simp] theorem agV:zPs.width=148:=rfl
@[simp] theorem alH:Pure zPs:=by simp[zPs]
@[simp] theorem agW (p:Bh):Pure (Ns p):=by simp[Ns]
noncomputable def F.Gm:cZ:=⟨F.gj.nt,F.gj.res,mP F.gj.code [1]⟩
theorem T.Gm:mX Pg [] [] 7=some F.Gm.er:=EY [1] T.gj
def uY (d:bh):uV:=({d with an:=[]},d.an)
def G4 (s:uV):bh:= {s.1 with an:=s.2}
theorem Qn (d:bh) (k1 n k2 m:Nat):tq d k1 n k2 m=tq (uY d).1 k1 n k2 m:=rfl
theorem ae.atC {P:Program} {f:FuncId} {args:List PV} {sz:Nat} {l:List PV} {v:PV} (h:ae P f args [] (λr fp=>r=v∧fp=[.arr sz l])) (hl:au l):aL P f args (iQ KB sz l v):=by
 refine λΓ w vs h1 h2 h3 h4=>(h Γ w vs h1 h2 h3 h4).mono ?_;rintro e w' ⟨v',r,xp,Γ',e1,⟨rfl,rfl⟩,e3,e4,e5,e6,e7,e8⟩;have hg:get Γ'.bx KB=some (.arr sz l):=by rw[e5,fw];simp
 have hf:=Jv e4 hg (hl.refs _);refine⟨v',_,[],{Γ' with bx:=lP (Ba KB sz l) (del Γ'.bx KB)},e1,⟨rfl,rfl⟩,e3,Bw e4 _ (λj blk cS hb=>(e4.blk j blk hb).iQ hf),?_,e6.iQ hf,?_,e8⟩
 ·rw[e5];simp[av]
 ·refine⟨e7.heap,λb hb hm=> ?_,e7.b9,e7.size,λk blk hk=> ?_⟩
  ·obtain⟨k,blk,g1,g2⟩:=hm;rw[e5]at g1;simp[av]at g1
  ·rw[h3]at hk;simp[av]at hk
theorem acB {d:bh} (hm:Qo d) (h:qK (uY d)) {to:Int} (h0:d.now≤to) (h1:to≤1099511627776) (h2:to≤d.now+60000) {N:Nat} (hE:Ends to (uY d) N) (hN:(tr N (uY d)).2.length≤1000000)
  {x y:PV} {b:List UInt8} (hx:Pure x) (hw:x.width=18) (hwk:wk x=x) (hy:Pure y) (S9:wk y=y):
  ae Pg 7 [gP d,.st 22 [.int .i64 3,x,aQ b,.int .i64 to,y]] [] (λr fp=>r= .tup [gP (G4 (fin to (tr N (uY d)).1)),.rs KB [] 0 (tr N (uY d)).2.length (tr N (uY d)).2.length 86 .tip]∧fp=[.arr 86 (tr N (uY d)).2]):=by
 have hT:=alD h h0 h1 h2 hE;have hO:=(uX h h0 h1 N hE.1).2.2.2.2.1;refine ae.intro T.Gm (by simp[F.Gm,F.gj]) ?_;simp[F.Gm,F.gj,mP,aj,av];refine N8.of (λs'=>s'=⟨[(3,.pt 3 [] 0),(4,.pt 4 [] 0),(5,.sl 86 [] true),(6,.pt 11 [] 0)],[(3,.box (.st 22 [.int .i64 3,x,aQ b,.int .i64 to,y])),(4,.box zPs),(11,.box (tq d 108 d.an.length 200 0)),(108,.arr 464 (d.an.map aP)),(200,.arr 86 [])]⟩) ?_ ?_
 ·simp;refine ai.gA [] [108] [] (ky hm) (by simp) (by simp) (by simp[ab,af,cY]) ?_;simp[aI,az,aE,cL];refine⟨[.keep [3,4,5,6],.dr 2,.vb 11 [.f 1 148] 200 86],?_⟩;simp[bn,bU,af,ab,ah];exact⟨⟨hx.refs _,hy.refs _⟩,rfl,rfl⟩
 rintro s' rfl;rw[Qn];generalize hs:uY d=s at*;have hp:d.an=s.2:=by rw[←hs];rfl
 rw[hp];simp[hw];generalize tr N s=q at*;obtain⟨⟨d',Aj⟩,O'⟩:=q;refine ai.mo 11 108 200 (L:=[]) (hT [] (by simp) (by simpa using hN)) (by simp) (by simp) (by simp) (by simp) vI (by simp[ah,af,bT,idx]) (by simp[aS,aE,bz,idx]) ?_;rintro r fp ⟨rfl,rfl⟩;refine⟨_,_,_,rfl,by simp,hO,?_⟩;simp;refine lv.run [4] rfl ?_;simp;refine aA.with [.keep [4,5],.dr 3,.dr 11,.fz 108] [200] ?_;simp[bn,bU,af,ab,ah,hO.refs,hO.iQ];exact⟨rfl,hO.aE _⟩
theorem Zh {d:bh} (hm:Qo d) (h:qK (uY d)) {to:Int} (h0:d.now≤to) (h1:to≤1099511627776) (h2:to≤d.now+60000) {N:Nat} (hE:Ends to (uY d) N) (hN:(tr N (uY d)).2.length≤1000000)
  {x y:PV} {b:List UInt8} (hx:Pure x) (hw:x.width=18) (hwk:wk x=x) (hy:Pure y) (S9:wk y=y):
  aL Pg 7 [gP d,.st 22 [.int .i64 3,x,aQ b,.int .i64 to,y]] (.tup [gP (G4 (fin to (tr N (uY d)).1)),.sl 86 (tr N (uY d)).2 false]):=by
 have hO:=(uX h h0 h1 N hE.1).2.2.2.2.1;have:=ae.atC (acB hm h h0 h1 h2 hE hN hx hw hwk hy S9 (b:=b)) hO;simpa[iQ,jf,(EP _).iQ,tJ]using this
def Ij:List UInt8:=[69,0,0,20,0,0,0,0,0,0,0,0,10,0,0,1,10,1,0,1]
theorem VG:aL Pg 34 [cN (fU 0 1),cN (fU 1 1),.int .i64 0,.int .u8 0] (aQ Ij):=by
 refine ae.intro (aC R.nm.2) (by simp[R.nm]) ?_;have h0:(fU 0 1).ip=[10,0,0,1,0,0,0,0,0,0,0,0,0,0,0,0]:=rfl;have h1:(fU 1 1).ip=[10,1,0,1,0,0,0,0,0,0,0,0,0,0,0,0]:=rfl;have w:IntKind.i64.wrap 20=20:=by decide
 have w2:IntKind.u8.wrap (Int.fdiv 20 (2^min 8 IntKind.i64.bits))=0:=by decide
 simp[R.nm,aj,av,w,h0,h1,w2];refine mH.G3 0 (mH.z ?_);simp[↓al];refine aA.plain [.keep [8],.dr 4,.dr 5,.fz 13,.wk 8] ?_;simp[bn,bU,af,ab,ah];rfl
def ad4 (a b c d:UInt8):iG:=⟨false,[a,b,c,d,0,0,0,0,0,0,0,0,0,0,0,0],rfl⟩
theorem atD:zr 16 (.int .u8 0)=[.int .u8 0,.int .u8 0,.int .u8 0,.int .u8 0,.int .u8 0,.int .u8 0,.int .u8 0,.int .u8 0,.int .u8 0,.int .u8 0,.int .u8 0,.int .u8 0,.int .u8 0,.int .u8 0,.int .u8 0,.int .u8 0]:=by rw[cm];rfl
theorem Zi (a b c d:UInt8):aL Pg 102 [aQ [a,b,c,d]] (cN (ad4 a b c d)):=by
 refine ae.intro (aC R.xh.2) (by simp[R.xh]) ?_;simp[R.xh,aj,av,aQ,atD];refine aA.plain [] ?_;simp;rfl
def VH:PV:= .st 35 [cN (ad4 10 0 0 1),cN (ad4 10 1 0 1),.int .i64 20]
theorem Ik:aL Pg 62 [aQ Ij] (.tup [VH,.int .i64 0]):=by
 have h1:=Zi 10 0 0 1;have h2:=Zi 10 1 0 1;have h3:=Qp (l:=[0,20]) (by simp);rw[show I7 [0,20]=20 by decide]at h3;have e:aQ Ij= .sl 1 [.int .u8 69,.int .u8 0,.int .u8 0,.int .u8 20,.int .u8 0,.int .u8 0,.int .u8 0,.int .u8 0,.int .u8 0,.int .u8 0,.int .u8 0,.int .u8 0,.int .u8 10,.int .u8 0,.int .u8 0,.int .u8 1,.int .u8 10,.int .u8 1,.int .u8 0,.int .u8 1] false:=rfl;have h1:aL Pg 102 [.sl 1 [.int .u8 10,.int .u8 0,.int .u8 0,.int .u8 1] false] (cN (ad4 10 0 0 1)):=h1;have h2:aL Pg 102 [.sl 1 [.int .u8 10,.int .u8 1,.int .u8 0,.int .u8 1] false] (cN (ad4 10 1 0 1)):=h2;have h3:aL Pg 103 [.sl 1 [.int .u8 0,.int .u8 20] false] (.int .u64 20):=h3;have s4:Int.fdiv 69 (2^min 4 IntKind.u8.bits)=4:=by decide
 have a15:bits .and .u8 69 15=5:=by decide
 have w20:IntKind.i64.wrap 20=20:=by decide
 have w5:IntKind.i64.wrap 5=5:=by decide
 rw[e];refine ae.intro T.oB (by simp[F.oB]) ?_;simp[F.oB,aj,av,s4];refine aM.rA h1 ?_;simp;refine aM.rA h2 ?_;simp;refine aM.rA h3 ?_;simp[a15,w20,w5];refine aA.plain [] ?_;simp[VH]
theorem VI:aL Pg 61 [aQ Ij] (.tup [aQ Ij,.int .i64 0]):=by
 have hC:=Ik;have hL:=Dl (b:=Ij) (by decide);have hL:aL Pg 101 [.sl 1 (Ij.map u8) false] (.sl 1 (Ij.map u8) false):=hL;have hl:Ij.length=20:=rfl;unfold VH at hC;unfold aQ at hC⊢;generalize Ij=b at*;refine ae.intro (aC R.xi.2) (by simp[R.xi]) ?_;simp[R.xi,aj,av];refine ai.rA hC ?_;simp[hl,tJ];refine ai.rA hL ?_;simp;refine aA.plain [] ?_;simp
theorem Qq:aL Pg 110 [.sl 1 [] false] (.sl 1 [] true):=by
 refine ae.intro (aC R.tt.2) (by simp[R.tt]) ?_;simp[R.tt,aj,av];refine mH.G3 0 (mH.z ?_);simp[↓al];refine aA.plain [] ?_;simp
theorem acD:aL Pg 65 [gq [],.int .i64 4,aQ Ij] (.tup [gq [Ij],.int .i64 0]):=by
 have hC:=Qq;have hL:=Dl (b:=Ij) (by decide);unfold gq;refine ae.intro (aC R.xj.2) (by simp[R.xj]) ?_;have hm:max (0:Int) (IntKind.i64.wrap (1-max 0 4))=0:=by decide
 simp[R.xj,aj,av];refine ai.rA hC ?_;simp;refine ai.rA hL ?_;simp[hm];refine aA.plain [.keep [6,7],.fz 16,.wk 6] ?_;simp
def yE (p:bM):bM:= {p with ej:=[Ij]}
theorem VJ {d d':bh} {ps:List bM} {i:Nat} (hi:i<ps.length) (he:ps[i].fD=true) (qH:ps[i].ej.length=1) (h0:0≤d.now) (h9:d.now≤9000000000000000000) (tK:0≤ps[i].ring.c.mZ.born) (hc:J7 d ps[i]=false) {p':bM} {O:List PV} (hO:au O)
  (hM:MC 112 [.pt (KB+1) [.i i 464] ps.length] d ps (.tup []) d' (ps.set i p') O):MC 66 [.pt (KB+1) [.i i 464] ps.length] d ps (.tup []) d' (ps.set i p') O:=by
 have hx:ps[i]? =some ps[i]:=gJ hi;have hC:=Ib h0 h9 hi tK;rw[hc]at hC;intro L hL hb;have ud:=hL.append hO;refine ae.intro T.fx (by simp[F.fx]) ?_;simp[F.fx,aj,av,MB,hi,he,qH];refine ai.BG hC hL (by simp;omega) (by simp) ?_;simp;refine ai.BG hM hL hb hO ?_;simp;refine aA.with [] [KB,KB+1,KB+2] ?_;simp[dh,ud.refs,ud.aE]
theorem VK {d d':bh} {a:iG} {k:Key} (hr:d.bQ=[Db a k]) (h6:a.sA=false) (hv:vZ ⟨a,16⟩=true) (avI:∀i,i<16->rH (ad4 10 1 0 1) i=rH a i) {p p':bM} (hp:p.b8=k) (Bq:p.ej=[]) (h4:d.rules.tV=4) {O:List PV} (hO:au O)
  (hM:MC 66 [.pt (KB+1) [.i 0 464] 1] d [yE p] (.tup []) d' [p'] O):MC 26 [aQ Ij] d [p] (.bl true) d' [p'] O:=by
 have hT:=VI;have hC:=Ik;have hL:=Vc (b:=ad4 10 1 0 1) h6 rfl (by decide) k hv avI;have hF:=Y7 d (ps:=[p]) (by simp) (k:=k) (i:=0) (by simp) (by simp[kU,hp]);have hP:=acD;intro L hL0 hb;have ud:=hL0.append hO;unfold VH at hC;rw[←hr]at hL;refine ae.intro T.fy (by simp[F.fy]) ?_;simp[F.fy,aj,av,MB];refine ai.rA hT ?_;simp;refine ai.rA hC ?_;simp;refine lv.run [9] rfl ?_;simp;refine aM.rA hL ?_;simp;refine ai.BG hF hL0 (by simp;omega) (by simp) ?_;simp[Bq,h4];refine aM.rA hP ?_;simp;unfold yE at hM;refine ai.BG hM hL0 hb hO ?_;simp;refine aA.with [.keep [4],.dr 7,.dr 9] [KB,KB+1,KB+2] ?_;simp[ud.refs,ud.aE,bn,bU,af,ab,ah]
def ui {α:Type} (n:Nat) (k:Nat->α):α:=Nat.rec (motive:=λ_=>α) (k 0) (λm _=>k (m+1)) n
theorem wH {α:Type} (n:Nat) (k:Nat->α):ui n k=k n:=by cases n<;>rfl
def Nt {α:Type}:List Nat->(List Nat->α)->α
 |[],k=>k []
 |x::r,k=>ui x λy=>Nt r λs=>k (y::s)
theorem tX {α:Type}:∀(l:List Nat) (k:List Nat->α),Nt l k=k l
 |[],_=>rfl
 |x::r,k=>by rw[Nt,wH,tX r]
def roN (n k:Nat):Nat:=n/2^k|||n*2^(32-k)%4294967296
theorem alI (x:UInt32) (k:Nat):(ro x k).toNat=roN x.toNat k:=by
 have hx:=x.toNat_lt;have l1:x.toNat/2^k<4294967296:=JfV (Nat.div_le_self _ _) hx;have l2:x.toNat*2^(32-k)%4294967296<4294967296:=JdZ _ (by decide);have l3:x.toNat/2^k|||x.toNat*2^(32-k)%4294967296<2^32:=JoW (n:=32) l1 l2;rw[ro,JqQ,JiJ l3,roN]
def tb (n:Nat) (v:Nat->UInt32):List Nat:=(List.range n).map λi=>(v i).toNat
theorem uZ {n:Nat} (v:Nat->UInt32) {i:Nat} (h:i<n):(tb n v).getD i 0=(v i).toNat:=by simp[tb,JaV,h]
theorem Qr {n:Nat} {f g:Nat->UInt32} (h:∀i,i<n->f i=g i):tb n f=tb n g:=
 JqX λi hi=>by rw[h i (JiQ.1 hi)]
theorem acE (n:Nat) (f:Nat->UInt32) (i:Nat) (x:UInt32):(tb n f).set i x.toNat=tb n (ox f i x):=by
 apply JkJ;intro j;by_cases hj:j<n
 ·by_cases h:i=j
  ·subst h;simp[tb,hj,ox]
  ·simp[tb,h,hj,ox,Ne.symm h]
 ·rw[List.getElem?_eq_none (by simp[tb];omega),List.getElem?_eq_none (by simp[tb];omega)]
theorem atE (a b:UInt32):(a.toNat+b.toNat)%4294967296=(a+b).toNat:=(UInt32.toNat_add a b).symm
def VN {α:Type} (l:List Nat) (a b c d x y:Nat) (k:List Nat->α):α:=
 ui (l.getD a 0) λva=>ui (l.getD b 0) λvb=>ui (l.getD c 0) λvc=>ui (l.getD d 0) λvd=>
 ui (((va+vb)%4294967296+x)%4294967296) λa1=>ui (roN (vd^^^a1) 16) λd1=>ui ((vc+d1)%4294967296) λc1=>ui (roN (vb^^^c1) 12) λb1=>
 ui (((a1+b1)%4294967296+y)%4294967296) λa2=>ui (roN (d1^^^a2) 8) λd2=>ui ((c1+d2)%4294967296) λc2=>ui (roN (b1^^^c2) 7) λb2=>
 Nt ((((l.set a a2).set d d2).set c c2).set b b2) k
theorem Qs {α:Type} (v:Nat->UInt32) {a b c d:Nat} (ha:a<16) (hb:b<16) (hc:c<16) (hd:d<16) (N2:a≠b) (hac:a≠c) (had:a≠d) (hbc:b≠c) (hbd:b≠d) (hcd:c≠d) (x y:UInt32) (k:List Nat->α):
  VN (tb 16 v) a b c d x.toNat y.toNat k=k (tb 16 (Dm v a b c d x y)):=by
 simp only[VN,wH,tX,uZ v ha,uZ v hb,uZ v hc,uZ v hd];simp only[atE,←UInt32.toNat_xor,←alI,acE];congr 1;apply Qr;intro j _;simp only[Dm,mxA,mxC,SO,ox];simp only[N2,hac,had,hbc,hbd,hcd,Ne.symm N2,Ne.symm hac,Ne.symm had,Ne.symm hbc,Ne.symm hbd,Ne.symm hcd,if_true,if_false];by_cases h1:j=a
 ·subst h1;simp[N2,hac,had]
 ·by_cases h2:j=b
  ·subst h2;simp
  ·by_cases h3:j=c
   ·subst h3;simp[h2]
   ·by_cases h4:j=d
    ·subst h4;simp[h2,h3]
    ·simp[h1,h2,h3,h4]
def h1N {α:Type} (ml row l:List Nat):Nat->(List Nat->α)->α
 |0,k=>k l
 |i+1,k=>h1N ml row l i λl'=>VN l' i (4+i) (8+i) (12+i) (ml.getD (row.getD (2*i) 0) 0) (ml.getD (row.getD (2*i+1) 0) 0) k
def h2N {α:Type} (ml row l:List Nat):Nat->(List Nat->α)->α
 |0,k=>k l
 |i+1,k=>h2N ml row l i λl'=>VN l' i (4+(i+1)%4) (8+(i+2)%4) (12+(i+3)%4) (ml.getD (row.getD (8+2*i) 0) 0) (ml.getD (row.getD (9+2*i) 0) 0) k
theorem Zj {α:Type} (m v:Nat->UInt32) {r:Nat} (hr:r<10):∀(i:Nat),i≤4->∀(k:List Nat->α),h1N (tb 16 m) (sgT.getD r []) (tb 16 v) i k=k (tb 16 (qL m (sg r) v i))
 |0,_,_=>rfl
 |
  i+1,h,k=>by
  rw[h1N,Zj m v hr i (by omega),qL]
  have e1:=uZ m (Dn r hr (2*i) (by omega))
  have e2:=uZ m (Dn r hr (2*i+1) (by omega))
  unfold sg at e1 e2
  rw[e1,e2,Qs _ (by omega) (by omega) (by omega) (by omega) (by omega) (by omega) (by omega) (by omega) (by omega) (by omega)]
  rfl
theorem Zk {α:Type} (m v:Nat->UInt32) {r:Nat} (hr:r<10):∀(i:Nat),i≤4->∀(k:List Nat->α),h2N (tb 16 m) (sgT.getD r []) (tb 16 v) i k=k (tb 16 (wh m (sg r) v i))
 |0,_,_=>rfl
 |
  i+1,h,k=>by
  rw[h2N,Zk m v hr i (by omega),wh]
  have e1:=uZ m (Dn r hr (8+2*i) (by omega))
  have e2:=uZ m (Dn r hr (9+2*i) (by omega))
  unfold sg at e1 e2
  rw[e1,e2,Qs _ (by omega) (by omega) (by omega) (by omega) (by omega) (by omega) (by omega) (by omega) (by omega) (by omega)]
  rfl
def rdN {α:Type} (ml l:List Nat):Nat->(List Nat->α)->α
 |0,k=>k l
 |r+1,k=>rdN ml l r λl'=>h1N ml (sgT.getD r []) l' 4 λl''=>h2N ml (sgT.getD r []) l'' 4 k
theorem Zl {α:Type} (m v:Nat->UInt32):∀(r:Nat),r≤10->∀(k:List Nat->α),rdN (tb 16 m) (tb 16 v) r k=k (tb 16 (uj m v r))
 |0,_,_=>rfl
 |r+1,h,k=>by rw[rdN,Zl m v r (by omega),Zj m _ (by omega) 4 (by omega),Zk m _ (by omega) 4 (by omega)];rfl
def inN (h:List Nat) (t:Nat) (last:Bool):List Nat:=
 h++[1779033703,3144134277,1013904242,2773480762,1359893119^^^t%4294967296,2600822924^^^t/4294967296%4294967296,cond last 3766232660 528734635,1541459225]
theorem acF:List.range 8=[0,1,2,3,4,5,6,7]:=rfl
theorem VO:List.range 16=[0,1,2,3,4,5,6,7,8,9,10,11,12,13,14,15]:=rfl
theorem alK (h:Nat->UInt32) (t:Nat) (last:Bool):inN (tb 8 h) t last=tb 16 (Ea h t last):=by
 cases last<;>simp[inN,tb,acF,VO,Ea,Gn,uk,ox,Ls,ivT]
def cmN {α:Type} (h ml:List Nat) (t:Nat) (last:Bool) (k:List Nat->α):α:=
 Nt (inN h t last) λl=>rdN ml l 10 λv=>Nt ((List.range 8).map λi=>h.getD i 0^^^(v.getD i 0^^^v.getD (i+8) 0)) k
theorem alL {α:Type} (h m:Nat->UInt32) (t:Nat) (last:Bool) (k:List Nat->α):cmN (tb 8 h) (tb 16 m) t last k=k (tb 8 (uQ h m t last)):=by
 rw[cmN,tX,alK,Zl m _ 10 (by omega),tX];congr 1
def nB (l:List UInt8):List Nat:=l.map UInt8.toNat
theorem rb (l:List UInt8) (i:Nat):(nB l).getD i 0=(l.getD i 0).toNat:=by
 simp only[nB,JaV,List.getElem?_map];cases l[i]? <;>rfl
def wdN (l:List Nat) (i:Nat):Nat:=l.getD (4*i) 0+l.getD (4*i+1) 0*256+l.getD (4*i+2) 0*65536+l.getD (4*i+3) 0*16777216
theorem alM {b:List UInt8} (hb:b.length=64) {i:Nat} (hi:i<16):wdN (nB b) i=(tf b i).toNat:=by
 have g:∀j,j<4->((b.drop (4*i)).take 4).getD j 0=b.getD (4*i+j) 0:=λj hj=>by
  simp[JaV,hj,List.getElem?_drop]
 have h0:=(b.getD (4*i) 0).toNat_lt;have h1:=(b.getD (4*i+1) 0).toNat_lt;have h2:=(b.getD (4*i+2) 0).toNat_lt;have h3:=(b.getD (4*i+3) 0).toNat_lt;rw[tf,JqQ,wdN,rb,rb,rb,rb];simp only[sP,g 0 (by omega),g 1 (by omega),g 2 (by omega),g 3 (by omega),JnX];simp only[Nat.reducePow];rw[JiJ (by omega)];omega
def blN (d:List Nat) (i:Nat):List Nat:=(d.drop (64*i)).take 64++List.replicate (64-((d.drop (64*i)).take 64).length) 0
theorem alN (d:List UInt8) (i:Nat):blN (nB d) i=nB (th d i):=by simp[blN,nB,th]
def hsN {α:Type} (d:List Nat) (nb:Nat):Nat->(List Nat->α)->α
 |0,k=>k [1795745351,3144134277,1013904242,2773480762,1359893119,2600822924,528734635,1541459225]
 |i+1,k=>hsN d nb i λh=>Nt (blN d i) λb=>Nt ((List.range 16).map (wdN b)) λm=>cmN h m (cond (Nat.beq i nb) d.length (64*(i+1))) (Nat.beq i nb) k
theorem yF (i n:Nat):Nat.beq i n=decide (i=n):=by
 rw[Bool.eq_iff_iff,decide_eq_true_iff];exact Iff.of_eq Nat.beq_eq
theorem Zm {α:Type} (d:List UInt8):∀(i:Nat) (k:List Nat->α),hsN (nB d) (qE d) i k=k (tb 8 (Il d i))
 |
  0,k=>by
  rw[hsN];congr 1
 |
  i+1,k=>by
  rw[hsN,Zm d i,tX,tX,alN]
  have e:(List.range 16).map (wdN (nB (th d i)))=tb 16 (tf (th d i)):=JqX λj hj=>alM (uR d i) (JiQ.1 hj)
  rw[e,alL,Il,yF]
  congr 3
  by_cases h:i=qE d<;>simp[h,nB]
def ouN (h:List Nat):List Nat:=h.flatMap λx=>[x%256,x/256%256,x/65536%256,x/16777216%256]
theorem atI (n:Nat):nB (cG n 4)=[n%256,n/256%256,n/65536%256,n/16777216%256]:=by
 simp[nB,cG,SP,show List.range 4=[0,1,2,3] from rfl,JnW]
theorem Zn (h:Nat->UInt32):∀i,ouN (tb i h)=nB (xu h i)
 |0=>rfl
 |
  i+1=>by
  have e:tb (i+1) h=tb i h++[(h i).toNat]:=by simp[tb,List.range_succ]
  rw[e,ouN,List.flatMap_append,←ouN,Zn h i,xu]
  rw[nB,nB,JeV,←nB,←nB,atI]
  simp
def haN {α:Type} (d:List Nat) (k:List Nat->α):α:=hsN d ((d.length-1)/64) ((d.length-1)/64+1) λh=>Nt (ouN h) k
theorem Zo {α:Type} (d:List UInt8) (k:List Nat->α):haN (nB d) k=k (nB (iU d).l):=by
 rw[haN,show((nB d).length-1)/64=qE d by simp[nB,qE],Zm,tX,Zn];rfl
def ikN (key:List Nat) (c:Nat):List Nat:=(List.range 64).map λj=>key.getD j 0^^^c
theorem Zp (key:List UInt8) (c:UInt8):ikN (nB key) c.toNat=nB (um key c):=by
 have e:nB (um key c)=(List.range 64).map λj=>(kx key j^^^c).toNat:=by simp[nB,um]
 rw[e,ikN];exact JqX λj _=>by rw[rb,UInt8.toNat_xor];rfl
def Ve {α:Type} (key ps:List Nat) (k:List Nat->α):α:=Nt (ikN key 54++ps) λa=>haN a λh=>Nt (ikN key 92++h) λb=>haN b k
theorem Qt {α:Type} (key:List UInt8) (ps:List (List UInt8)) (k:List Nat->α):Ve (nB key) (nB ps.flatten) k=k (nB (qq key ps).l):=by
 have e1:ikN (nB key) 54++nB ps.flatten=nB (um key 54++ps.flatten):=by rw[show(54:Nat)=(54:UInt8).toNat from rfl,Zp];simp[nB]
 rw[Ve,tX,e1,Zo,tX];have e2:∀h:Key,ikN (nB key) 92++nB h.l=nB (um key 92++h.l):=λh=>by rw[show(92:Nat)=(92:UInt8).toNat from rfl,Zp];simp[nB]
 rw[e2,Zo];rfl
def xpN {α:Type} (key inp:List Nat) (k:List Nat->List Nat->α):α:=Ve key inp λt=>Ve t [1] λa=>Nt (a++[2]) λa2=>Ve t a2 λb=>k a b
theorem alP {α:Type} (key inp:List UInt8) (k:List Nat->List Nat->α):xpN (nB key) (nB inp) k=k (nB (uh key inp).l) (nB (Gf key inp).l):=by
 have h0:= @Qt α key [inp];simp only[JsQ,List.flatten_nil,JhQ]at h0;rw[xpN,h0];have h1:= @Qt α (qq key [inp]).l [[],[1]];rw[show nB ([[],[1]]:List (List UInt8)).flatten=[1] from rfl]at h1;rw[h1,tX];have h2:= @Qt α (qq key [inp]).l [(uh key inp).l,[2]];rw[show nB ([(uh key inp).l,[2]]:List (List UInt8)).flatten=nB (uh key inp).l++[2] by simp[nB]]at h2;exact h2 _
def pN:Nat:=57896044618658097711785492504343953926634992332820282019728792003956564819949
def Vl (a:Fe) (n:Nat):Prop:=vF a%Bi=(n:Int)
theorem Vl.mul {a b:Fe} {m n:Nat} (h1:Vl a m) (h2:Vl b n):Vl (fV a b) (m*n%pN):=by
 obtain⟨k,hk⟩:=J9 a b;unfold Vl at*;rw[hk,JjZ,Int.mul_emod,h1,h2,Int.natCast_emod,JrJ];rfl
theorem Vl.add {a b:Fe} {m n:Nat} (h1:Vl a m) (h2:Vl b n):Vl (qM a b) ((m+n)%pN):=by
 unfold Vl Bi at*;rw[Qu];unfold pN;omega
theorem Vl.sub {a b:Fe} {m n:Nat} (h1:Vl a m) (h2:Vl b n) (hb:b.Le PB):Vl (pB a b) ((m+(pN-n))%pN):=by
 unfold Vl at*;rw[Qw (hb.mono (by decide))];unfold Bi at*;unfold pN;omega
def stN {α:Type} (x1 x2 z2 x3 z3 b:Nat) (k:Nat->Nat->Nat->Nat->Nat->α):α:=
 ui ((x2+z2)%pN) λa=>ui ((x2+(pN-z2))%pN) λc=>ui (a*a%pN) λaa=>ui (c*c%pN) λbb=>ui ((aa+(pN-bb))%pN) λe=>
 ui ((x3+(pN-z3))%pN) λf=>ui (f*a%pN) λda=>ui ((x3+z3)%pN) λg=>ui (g*c%pN) λcb=>ui ((da+cb)%pN) λs=>ui ((da+(pN-cb))%pN) λd=>
 ui (aa*bb%pN) λy2=>ui (e*121665%pN) λe2=>ui ((e2+aa)%pN) λe3=>ui (e3*e%pN) λw2=>ui (s*s%pN) λy3=>ui (d*d%pN) λdd=>ui (dd*x1%pN) λw3=>k y2 w2 y3 w3 b
structure VL (L:Lad) (x2 z2 x3 z3 b:Nat):Prop where
 x2:Vl L.x2 x2
 z2:Vl L.z2 z2
 x3:Vl L.x3 x3
 z3:Vl L.z3 z3
 l:L.last=(b:Int)
theorem Zq {X1 X2 Z2 X3 Z3:Fe} {x1 x2 z2 x3 z3 b:Nat} (h1:Vl X1 x1) (a2:X2.Le PB) (b2:Z2.Le PB) (a3:X3.Le PB) (b3:Z3.Le PB) (g2:Vl X2 x2) (f2:Vl Z2 z2) (g3:Vl X3 x3) (f3:Vl Z3 z3):
  ∃y2 w2 y3 w3,(∀ {α:Type} (k:Nat->Nat->Nat->Nat->Nat->α),stN x1 x2 z2 x3 z3 b k=k y2 w2 y3 w3 b)∧VL (Im X1 X2 Z2 X3 Z3 b) y2 w2 y3 w3 b:=by
 have ha:=jP a2 b2;have hb:=kP (b:=Z2) a2;have Fk:=cV hb hb;have Ml:=cV (jP a3 b3) hb;have va:=g2.add f2;have vb:=g2.sub f2 b2;have vaa:=va.mul va;have vbb:=vb.mul vb;have ve:=vaa.sub vbb Fk;have vda:=(g3.sub f3 b3).mul va;have vcb:=(g3.add f3).mul vb;have vs:=vda.add vcb;have vd:=vda.sub vcb Ml;have vc:Vl cF 121665:=by unfold Vl;decide
 exact⟨_,_,_,_,λk=>by simp only[stN,wH],vaa.mul vbb,((ve.mul vc).add vaa).mul ve,vs.mul vs,(vd.mul vd).mul h1,rfl⟩
theorem Qx:Vl xk 1:=by unfold Vl;decide
theorem acI:Vl Io 0:=by unfold Vl;decide
def Qy {α:Type} (n:List Nat) (x1:Nat):Nat->(Nat->Nat->Nat->Nat->Nat->α)->α
 |0,k=>k 1 0 x1 1 0
 |i+1,k=>Qy n x1 i λx2 z2 x3 z3 l=>ui (n.getD ((254-i)/8) 0/2^((254-i)%8)%2) λb=>cond (Nat.beq b l) (stN x1 x2 z2 x3 z3 b k) (stN x1 x3 z3 x2 z2 b k)
theorem atJ (n:Key) (t:Nat):Eb n t=(((nB n.l).getD (t/8) 0/2^(t%8)%2:Nat):Int):=by
 have hx:=(n.l.getD (t/8) 0).toNat_lt;rw[rb,Eb];generalize (n.l.getD (t/8) 0).toNat=x at*;have h8:min (t%8) 8=t%8:=by omega
 rw[h8,show((2:Int)^(t%8))=((2^(t%8):Nat):Int) by simp,JgW _ (JlJ _),←JlV];have hq:x/2^(t%8)<256:=JfV (Nat.div_le_self _ _) hx;generalize x/2^(t%8)=y at*;rw[show(1:Int)=((1:Nat):Int) from rfl,u8_and_nat _ _ hq (by decide),Nat.and_one_is_mod]
theorem Qz (n:Key) {X1:Fe} {x1:Nat} (h1:Vl X1 x1) (hX:X1.Le PB):∀i,∃x2 z2 x3 z3 b,(∀ {α:Type} (k:Nat->Nat->Nat->Nat->Nat->α),Qy (nB n.l) x1 i k=k x2 z2 x3 z3 b)∧VL (jk n X1 i) x2 z2 x3 z3 b
 |0=>⟨1,0,x1,1,0,λ_=>rfl,Qx,acI,h1,Qx,rfl⟩
 |
  i+1=>by
  obtain⟨x2,z2,x3,z3,b,hk,hv⟩:=Qz n h1 hX i
  have ok:=BJ n hX i
  have hb:=atJ n (254-i)
  unfold jk
  rw[hb,hv.l]
  by_cases h:(nB n.l).getD ((254-i)/8) 0/2^((254-i)%8)%2=b
  ·obtain⟨y2,w2,y3,w3,e,g⟩:=Zq (b:=b) h1 ok.A7 ok.hz2 ok.hx3 ok.hz3 hv.x2 hv.z2 hv.x3 hv.z3
   refine⟨y2,w2,y3,w3,b,λk=> ?_,?_⟩
   ·rw[Qy,hk,wH,h,yF,decide_eq_true rfl];exact e k
   ·rw[h,if_pos rfl];exact g
  ·obtain⟨y2,w2,y3,w3,e,g⟩:=Zq (b:=(nB n.l).getD ((254-i)/8) 0/2^((254-i)%8)%2) h1 ok.hx3 ok.hz3 ok.A7 ok.hz2 hv.x3 hv.z3 hv.x2 hv.z2
   refine⟨y2,w2,y3,w3,(nB n.l).getD ((254-i)/8) 0/2^((254-i)%8)%2,λk=> ?_,?_⟩
   ·rw[Qy,hk,wH,yF,decide_eq_false h];exact e k
   ·rw[if_neg (λhh=>h (Int.natCast_inj.1 hh))];exact g
def viN {α:Type} (a:Nat):Nat->(Nat->α)->α
 |0,k=>k 1
 |i+1,k=>viN a i λv=>ui (v*v%pN) λw=>cond (Nat.beq i 252||Nat.beq i 250) (k w) (ui (w*a%pN) k)
theorem QA {A:Fe} {a:Nat} (h:Vl A a):∀i,∃v,(∀ {α:Type} (k:Nat->α),viN a i k=k v)∧Vl (mI A i) v
 |0=>⟨1,λ_=>rfl,Qx⟩
 |
  i+1=>by
  obtain⟨v,hk,hv⟩:=QA h i
  unfold mI
  by_cases hi:i=252∨i=250
  ·refine⟨_,λk=> ?_,by rw[if_pos hi];exact hv.mul hv⟩
   rw[viN,hk,wH,yF,yF]
   rcases hi with rfl|rfl<;>rfl
  ·refine⟨_,λk=> ?_,by rw[if_neg hi];exact(hv.mul hv).mul h⟩
   rw[viN,hk,wH,yF,yF,decide_eq_false (λe=>hi (.inl e)),decide_eq_false (λe=>hi (.inr e)),wH]
   rfl
def SQ {α:Type} (n:List Nat) (x1:Nat) (k:Nat->α):α:=
 Nt ((n.set 0 (n.getD 0 0&&&248)).set 31 (n.getD 31 0&&&127|||64)) λc=>Qy c x1 255 λx2 z2 x3 z3 l=>cond (Nat.beq l 1) (viN z3 255 λv=>ui (x3*v%pN) k) (viN z2 255 λv=>ui (x2*v%pN) k)
theorem acJ (s p:Key) {L:Lad} (h:jk (I8 s) (pk p) 255=L):kN s p=if L.last=1 then Ec (fV L.x3 (mI L.z3 255))else Ec (fV L.x2 (mI L.z2 255)):=by
 subst h;unfold kN;rfl
theorem alQ (s p:Key) {x1:Nat} (h:Vl (pk p) x1):∃m,(∀ {α:Type} (k:Nat->α),SQ (nB s.l) x1 k=k m)∧sP (kN s p).l 32=m:=by
 obtain⟨x2,z2,x3,z3,b,hk,hv⟩:=Qz (I8 s) h (Dp p) 255;have ok:=BJ (I8 s) (Dp p) 255
 have ec:((nB s.l).set 0 ((nB s.l).getD 0 0&&&248)).set 31 ((nB s.l).getD 31 0&&&127|||64)=nB (I8 s).l:=by
  rw[rb,rb];simp[nB,I8,JfJ]
 obtain⟨L,hL⟩:∃L,jk (I8 s) (pk p) 255=L:=⟨_,rfl⟩
 rw[hL]at hv ok;rw[acJ s p hL];by_cases hb:b=1
 ·obtain⟨v,hi,hw⟩:=QA hv.z3 255;have g:=Zr (cV (ok.hx3.mono gQ) ((tu (ok.hz3.mono gQ) 255).mono gQ));rw[if_pos (by rw[hv.l,hb];rfl)];refine⟨x3*v%pN,λk=> ?_,Int.ofNat.inj (g.trans (hv.x3.mul hw))⟩;rw[SQ,tX,ec,hk,yF,decide_eq_true hb,cond_true,hi,wH]
 ·obtain⟨v,hi,hw⟩:=QA hv.z2 255;have g:=Zr (cV (ok.A7.mono gQ) ((tu (ok.hz2.mono gQ) 255).mono gQ));rw[if_neg (by rw[hv.l];exact λhh=>hb (Int.ofNat.inj hh))];refine⟨x2*v%pN,λk=> ?_,Int.ofNat.inj (g.trans (hv.x2.mul hw))⟩;rw[SQ,tX,ec,hk,yF,decide_eq_false hb,cond_false,hi,wH]
theorem QB {s p:Key} {x1:Nat} (h:Vl (pk p) x1) (hn:SQ (nB s.l) x1 (λm=> !Nat.beq m 0)=true):kN s p≠zK:=by
 obtain⟨m,hk,hm⟩:=alQ s p h;rw[hk]at hn;intro e;rw[e,show sP zK.l 32=0 by decide]at hm;rw[←hm]at hn;exact absurd hn (by decide)
def k1:Key:=⟨1::List.replicate 31 0,rfl⟩
def k2:Key:=⟨2::List.replicate 31 0,rfl⟩
def R1:Key:=uh k2.l fa
def R2:Key:=uh R1.l fa
def R3:Key:=uh R2.l fa
def R4:Key:=uh R3.l fa
def e1:Key:=Gf R2.l fa
def e2:Key:=Gf R4.l fa
def acK:Bool:=
 xpN (nB k2.l) [100,114,97,119] λr1 _=>xpN r1 [100,114,97,119] λr2 _=>xpN r2 [100,114,97,119] λr3 a=>xpN r3 [100,114,97,119] λr4 _=>xpN r4 [100,114,97,119] λ_ b=>
  SQ a 9 (λm=> !Nat.beq m 0)&&(SQ b 9 (λm=> !Nat.beq m 0)&&SQ (nB k1.l) 9 (λm=> !Nat.beq m 0))
theorem acL:acK=(SQ (nB e1.l) 9 (λm=> !Nat.beq m 0)&&(SQ (nB e2.l) 9 (λm=> !Nat.beq m 0)&&SQ (nB k1.l) 9 (λm=> !Nat.beq m 0))):=by
 have h:([100,114,97,119]:List Nat)=nB fa:=rfl;unfold acK;rw[h];simp only[alP];rfl
theorem acM:acK=true:=by decide+kernel
theorem Ka:Vl (pk iY) 9:=by unfold Vl;decide
theorem nz3:kN e1 iY≠zK∧kN e2 iY≠zK∧kN k1 iY≠zK:=by
 have h:=acM;rw[acL,aJ,aJ]at h;exact⟨QB Ka h.1,QB Ka h.2.1,QB Ka h.2.2⟩
theorem atK {a:iG} (h6:a.sA=false) (hs:ug a=true):aL Pg 118 [cN a] (.str (Kb a)):=by
 have hV:=VQ a;rw[hs]at hV;refine ae.intro T.ib (by simp[F.ib]) ?_;simp[F.ib,aj,av];refine ai.rA hV ?_;simp[h6,↓al];refine eW.fM 4 (λ_=>True) [1,2,3,36] (λi=>[(3,.rs 3 [] 0 i i 1 .tip),(36,.int .i64 i)]) (λi=>[(3,.arr 1 ((SR a i).map PV.str))]) [.keep [1,2,3,36],.vt 3 3 1] ?_;simp[show SR a 0=[] from rfl];refine⟨λi hi K hK=> ?_,λK=> ?_⟩
 ·have Ai:i<a.ip.length:=by rw[a.h];omega
  have hx:a.ip[i]? =some a.ip[i]:=gJ Ai;have hb:=(a.ip[i]).toNat_lt;have hw:IntKind.i64.wrap ((a.ip[i]).toNat:Int)=((a.ip[i]).toNat:Int):=wrap_i64 (by omega);have hi4:(i:Int)<4:=by omega
  have hl:=Gp (a:=a) (n:=i) (by omega);rw[QC a hx]at hK;have aer:(i:Int)<16:=by omega
  simp[↓al,hi4,aer,hx,u8,hw];refine ai.rA (alR (n:=(a.ip[i].toNat:Int)) (by omega) (by omega)) ?_;simp[eI hi (by omega),hl];refine⟨⟨by omega,by omega⟩,[.keep [1,2,3,36]],?_⟩;simp;exact hK _ (by simp)
 ·have hl:=Gp (a:=a) (n:=4) (by omega);have hle:=(QD a).2
  have hj:=alT (rest:=[.str [46]]) (atL (xs:=SR a 4) (sep:=[46]) (λh=>by rw[h]at hl;simp at hl) (by omega) (by unfold Kb at hle;omega) false) (by omega) (λx hx=>by
   obtain⟨y,_,rfl⟩:=JgX.1 hx;rfl) ((VR _).refs _) (by simp[ah,af]) (by simp[gf,lR]) (by simp)
  simp only[JaX,hl]at hj;simp[↓al];refine ai.gA [3] [] [.arr 1 ((SR a 4).map PV.str)] hj (by simp[ab]) (by simp[az]) (by simp[ab,af]) ?_;simp[aI,az,aE];refine aA.plain [] ?_;simp[Kb]
theorem atM {e:H4} (h6:e.addr.sA=false) (hs:ug e.addr=true) (h1:1≤e.port) (h2:e.port≤65535):∃l,l≠[]∧aL Pg 67 [gZ e] (.str l):=by
 have hA:=atK h6 hs;have hb:=QD e.addr;generalize Kb e.addr=m at*;have hm:m≠[]:=by intro e;rw[e]at hb;simp at hb
 have k1:¬e.port<1:=by omega
 have k2:¬65535<e.port:=by omega
 have yP:=Lib.itoa_length_le e.port (by omega) (by omega);refine⟨m++[58]++Lib.itoa e.port,by simp,?_⟩;refine ae.intro (aC R.jI.2) (by simp[R.jI]) ?_;simp[R.jI,aj,av];refine ai.rA hA ?_;simp[hm,k1,k2,h6];refine⟨by omega,?_⟩;refine ai.rA (alR (n:=e.port) (by omega) (by omega)) ?_;simp;refine⟨by omega,?_⟩;refine aA.plain [] ?_;simp
theorem alU (p:xt):aL Pg 258 [gr p] (.bl (!vZ p)):=by
 refine ae.intro (aC R.oR.2) (by simp[R.oR]) ?_;simp[R.oR,aj,av];refine ai.rA (zI p) ?_;simp;refine aA.plain [] ?_;simp
theorem atN {x:xt} (h:vZ x=true):aL Pg 257 [.sl 18 [gr x] false,.fn (.func 258) [] []] (.bl false):=by
 have hp:=alU x;rw[h]at hp
 have hI:aL Pg 328 [.sl 18 [gr x] false,.fn (.func 258) [] []] (.int .i64 (-1)):=by
  refine ae.intro (aC R.dq.2) (by simp[R.dq]) ?_;simp[R.dq,aj,av];refine mH.G3 1 (mH.s ?_);simp[↓al];refine ai.rA hp ?_;simp;refine⟨[.keep [0,1,6,7,8]],?_⟩;simp;refine mH.z ?_;simp[↓al];refine aA.plain [] ?_;simp
 refine ae.intro (aC R.dc.2) (by simp[R.dc]) ?_;simp[R.dc,aj,av];refine ai.rA hI ?_;simp;refine aA.plain [] ?_;simp
theorem QE {p:Bh} {x:xt} (he:p.fD=true) (h6:p.ep.addr.sA=false) (hs:ug p.ep.addr=true) (h1:1≤p.ep.port) (h2:p.ep.port≤65535) (hk:p.iH=0) (ha:p.allowed=[x]) (hx:vZ x=true):aL Pg 169 [fE p] (.bl true):=by
 obtain⟨tx,cS,hE⟩:=atM h6 hs h1 h2;have hC:=atN hx;refine ae.intro (aC R.rN.2) (by simp[R.rN]) ?_;simp[R.rN,aj,av,he];refine ai.rA hE ?_;simp[cS,hk,oA,ha];refine ai.rA hC ?_;simp;refine aA.plain [] ?_;simp
theorem VS {c:Lz} {p:Bh} {x:xt} (hp:aL Pg 169 [fE p] (.bl true)) (hc:c.an=[p]) (ha:p.allowed=[x]) (h0:0≤c.port) (h1:c.port≤65535):aL Pg 82 [lH c] (.int .i64 0):=by
 have hV1:aL Pg 168 [fE p] (.bl false):=by
  refine ae.intro (aC R.nn.2) (by simp[R.nn]) ?_;simp[R.nn,aj,av];refine ai.rA hp ?_;simp;refine aA.plain [] ?_;simp
 have hI1:aL Pg 256 [.sl 85 [fE p] false,.fn (.func 168) [] []] (.int .i64 (-1)):=by
  refine ae.intro (aC R.aZ.2) (by simp[R.aZ]) ?_;simp[R.aZ,aj,av];refine mH.G3 1 (mH.s ?_);simp[↓al];refine ai.rA hV1 ?_;simp;refine⟨[.keep [0,1,6,7,8]],?_⟩;simp;refine mH.z ?_;simp[↓al];refine aA.plain [] ?_;simp
 have hC1:aL Pg 167 [.sl 85 [fE p] false,.fn (.func 168) [] []] (.bl false):=by
  refine ae.intro (aC R.aW.2) (by simp[R.aW]) ?_;simp[R.aW,aj,av];refine ai.rA hI1 ?_;simp;refine aA.plain [] ?_;simp
 have hI2:ae Pg 256 [.sl 85 [] false,.fn (.func 170) [] [.pt KB [] 0]] [.box (fE p)] (λr fp=>r= .int .i64 (-1)∧fp=[.box (fE p)]):=by
  refine ae.intro (aC R.aZ.2) (by simp[R.aZ]) ?_;simp[R.aZ,aj,av];refine mH.G3 0 (mH.z ?_);simp[↓al];refine aA.with [.keep [4]] [KB] ?_;simp[ab,az]
 have hC2:ae Pg 167 [.sl 85 [] false,.fn (.func 170) [] [.pt KB [] 0]] [.box (fE p)] (λr fp=>r= .bl false∧fp=[.box (fE p)]):=by
  refine ae.intro (aC R.aW.2) (by simp[R.aW]) ?_;simp[R.aW,aj,av];refine ai.gA [KB] [] [.box (fE p)] hI2 (by simp[ab]) (by simp[az]) (by simp[ab,af]) ?_;simp[aI,az,aE];refine aA.with [.keep [4]] [KB] ?_;simp[ab,az]
 have hIx:aL Pg 259 [.sl 18 [] false,gr x] (.int .i64 (-1)):=by
  refine ae.intro (aC R.dP.2) (by simp[R.dP]) ?_;simp[R.dP,aj,av];refine mH.G3 0 (mH.z ?_);simp[↓al];refine aA.plain [] ?_;simp
 have hCx:aL Pg 171 [.sl 18 [] false,gr x] (.bl false):=by
  refine ae.intro (aC R.dA.2) (by simp[R.dA]) ?_;simp[R.dA,aj,av];refine ai.rA hIx ?_;simp;refine aA.plain [] ?_;simp
 have k3:¬c.port<0:=by omega
 have k4:¬(65535:Int)<c.port:=by omega
 refine ae.intro (aC R.oT.2) (by simp[R.oT]) ?_;simp[R.oT,aj,av,hc,oO];refine mH.G3 1 (mH.s ?_);simp[↓al,oA,ha];refine⟨[.keep [1,2,3,12,13,14],.dr 5],?_⟩;simp;refine mH.z ?_;simp[↓al,k3,k4,hc,oO];refine ai.rA hC1 ?_;simp[hc,oO];refine mH.G3 1 (mH.s ?_);simp[↓al,hc,oO];refine ai.gA [8] [] [.box (fE p)] hC2 (by simp[ab]) (by simp[az]) (by simp[ab,af]) ?_;simp[aI,az,aE,oA,ha];refine mH.G3 1 (mH.s ?_);simp[↓al];refine ai.rA hCx ?_;simp;refine⟨[.keep [1,2,6,46,47,48,60,61,62],.dr 10],?_⟩;simp;refine mH.z ?_;simp[↓al];refine⟨[.keep [1,2,46,47,48],.dr 8],?_⟩;simp;refine mH.z ?_;simp[↓al];refine aA.plain [] ?_;simp
theorem alV {g:FuncId} {v:PV} (hv:Pure v):ae Pg 174 [.rs KB [] 0 0 0 50 .tip,.fn (.func g) [] [.pt (KB+1) [] 0]] [.arr 50 [],.box v] (λr fp=>r= .int .i64 (-1)∧fp=[.arr 50 [],.box v]):=by
 refine ae.intro (aC R.dF.2) (by simp[R.dF]) ?_;simp[R.dF,aj,av];refine mH.G3 0 (mH.z ?_);simp[↓al];refine aA.with [.keep [4]] [KB,KB+1] ?_;simp[ab,ah,az,aS,hv.refs,hv.aE]
theorem alW (t:vY):ae Pg 178 [.rs KB [] 0 0 0 50 .tip,.int .i64 0,.sl 50 [ia t] false] [.arr 50 []] (λr fp=>r= .rs KB [] 0 1 1 50 .tip∧fp=[.arr 50 [ia t]]):=by
 refine ae.intro (aC R.ek.2) (by simp[R.ek]) ?_;simp[R.ek,aj,av];refine aA.with [.keep [6]] [KB] ?_;simp[ab,ah,az,aS]
theorem alX {p:xt} (hp:vZ p=true) (k:Key):aL Pg 85 [cU [],gr p,aG k] (.tup [cU [⟨p,k⟩],.int .i64 0]):=by
 have hv:=zI p;rw[hp]at hv;have hI:∀g,ae Pg 174 [.rs KB [] 0 0 0 50 .tip,.fn (.func g) [] [.pt (KB+1) [] 0]] [.arr 50 [],.box (gr p)] (λr fp=>r= .int .i64 (-1)∧fp=[.arr 50 [],.box (gr p)]):=λg=>alV (Nh p);have rh:uL Pg 56 [.sl 50 [] false] 50 []:=lV (bytes:=64) (aC R.ic.2) (by omega) (by simp) (by simp) (by omega);have hs:=alW ⟨p,k⟩;refine ae.intro (aC R.rO.2) (by simp[R.rO]) ?_;simp[R.rO,aj,av,cU];refine ai.rA hv ?_;simp;have Je:PV.st 50 [gr p,aG k]=ia ⟨p,k⟩:=rfl;rw[Je];refine ai.own 19 rh (by simp) (by simp) (by simp) (by simp) ?_;simp;refine ai.gA [19,4] [] [.arr 50 [],.box (gr p)] (hI 175) (by simp[ab,ah]) (by simp[az,aS]) (by simp[ab,af,ah]) ?_;simp[aI,az,aE,aS];refine ai.gA [19,4] [] [.arr 50 [],.box (gr p)] (hI 176) (by simp[ab,ah]) (by simp[az,aS]) (by simp[ab,af,ah]) ?_;simp[aI,az,aE,aS];have Oq:=CZ ⟨p,k⟩;have Z4:wk (ia ⟨p,k⟩)=ia ⟨p,k⟩:=by simp
 generalize ia ⟨p,k⟩=t at*;refine ai.gen [19] [] [.arr 50 []] hs (by simp[getAll]) (by simp) (by simp) (by simp[ah,af,bT,idx,Oq.refs]) (by simp[ab,ah]) (by simp[aS,aE,bz,idx,Oq.aE,Z4]) (by simp[az,aS]) (by simp[ab,af,ah,cY,Oq.refs]) ?_;simp[aI,az,aE,aS,cL,Oq.aE];refine aA.plain [.keep [6,7],.fz 19] ?_;simp[Oq]
end Go.Ab
