/- Functions of the program and of the document, as the abstract reading walks them, part 12. No condition. -/
import Derived.Test.YtlcojgogfjlceaaGreatDoorB11
import Derived.Test.YtlcojgogfjlceaaGreatDoorB9
import Derived.Test.YtlcojgogfjlceaaGreatDoorB10
import Derived.Test.YtlcojgogfjlceaaGreatDoorB4
import Derived.Test.YtlcojgogfjlceaaGreatDoorB3
set_option maxRecDepth 100000
set_option maxHeartbeats 1000000
set_option linter.all false
noncomputable section
namespace Go.Ab
theorem QC {a b:cV} (h:eg a b=true):a.at_≤b.at_:=by
 unfold eg at h;split at h
 ·have:=of_decide_eq_true h;omega
 ·omega
theorem QD {a b:cV} (h:eg a b=false):b.at_≤a.at_:=by
 unfold eg at h;split at h
 ·have:=of_decide_eq_false h;omega
 ·omega
theorem Dv:∀(l:List cV) (m:cV),Gq m l∈m::l∧∀x∈m::l,(Gq m l).at_≤x.at_
 |[],m=>⟨by simp[Gq],by simp[Gq]⟩
 |
  y::l,m=>by
  have e:Gq m (y::l)=Gq (if eg y m=true then y else m) l:=rfl
  rw[e]
  obtain⟨h1,h2⟩:=Dv l (if eg y m=true then y else m)
  refine⟨?_,λx hx=> ?_⟩
  ·rcases cJ.1 h1 with h|h
   ·rw[h];split<;>simp
   ·simp[h]
  ·have h0:=h2 _ JrJ
   have hle:(if eg y m=true then y else m).at_≤m.at_∧(if eg y m=true then y else m).at_≤y.at_:=by
    split
    ·rename_i h;exact⟨QC h,Int.le_refl _⟩
    ·rename_i h;exact⟨Int.le_refl _,QD (by simpa using h)⟩
   rcases cJ.1 hx with rfl|hx
   ·omega
   ·rcases cJ.1 hx with rfl|hx
    ·omega
    ·exact h2 _ (List.mem_cons_of_mem _ hx)
def jZ:List cV->cV
 |[]=>zT
 |t::r=>Gq t r
def kE (l:List cV) (to:Int):Bool:= !l.isEmpty&&decide ((jZ l).at_≤to)
theorem QE (l:List cV) (to:Int):NC l to=if kE l to=true then(jZ l,true)else(zT,false):=by
 cases l with
 |nil=>rfl
 |
  cons t r=>
  by_cases h:(Gq t r).at_≤to<;>simp[NC,kE,jZ,h]
theorem QF {l:List cV} (h:l≠[]):jZ l∈l:=by
 cases l with
 |nil=>exact absurd rfl h
 |cons t r=>exact(Dv r t).1
theorem VK {l:List cV} {x:cV} (h:x∈l):(jZ l).at_≤x.at_:=by
 cases l with
 |nil=>simp at h
 |cons t r=>exact(Dv r t).2 x h
theorem Gr {l:List cV} {to:Int} (h:kE l to=true):jZ l∈l∧(jZ l).at_≤to:=by
 unfold kE at h;have h:=JmJ.1 h;exact⟨QF (by intro e;subst e;simp at h),of_decide_eq_true h.2⟩
theorem VN {l:List cV} {to:Int} (h:kE l to=false) {x:cV} (hx:x∈l):to<x.at_:=by
 have hl:=VK hx;have cI:l.isEmpty=false:=by cases l<;>simp at hx⊢
 simp[kE,cI]at h;omega
theorem Ik {l:List cV} {t1 t2:Int} (h:kE l t1=true) (hle:t1≤t2):kE l t2=true:=by
 unfold kE at*;have h:=JmJ.1 h;have:=of_decide_eq_true h.2;simp[h.1];omega
inductive xI (now:Int) (k:Key) (jg:Int) (T:List cV):List cV->Prop
 |refl:xI now k jg T T
 |can (n:Int) {U:List cV}:xI now k jg T U->xI now k jg T (bg U k n)
 |set {U:List cV} (t:cV):xI now k jg T U->now<t.at_->t.peer=k->1≤t.kind->t.kind≤5->(t.kind=4->jg≠0)->xI now k jg T (ji U t)
section
variable {now:Int} {k:Key} {jg:Int} {T U:List cV}
theorem xI.kU (h:xI now k jg T U):∀(ns:List Int),xI now k jg T (Ab.kU k U ns):=by
 intro ns;induction ns generalizing U with
 |nil=>exact h
 |cons n ns ih=>exact ih (h.can n)
theorem xI.trans {V:List cV} (h:xI now k jg T U) (h2:xI now k jg U V):xI now k jg T V:=by
 induction h2 with
 |refl=>exact h
 |can n _ ih=>exact ih.can n
 |set t _ a b c d e ih=>exact ih.set t a b c d e
theorem QG {l:List cV} {t x:cV} (h:x∈ji l t):x=t∨(x∈l∧¬(x.peer=t.peer∧x.kind=t.kind)):=by
 rw[yN]at h;rcases cJ.1 ((n8 t _).mem_iff.1 h)with rfl|h
 ·exact .inl rfl
 ·exact .inr (mD h)
theorem xI.mem (h:xI now k jg T U) {x:cV} (hx:x∈U):x∈T∨(now<x.at_∧x.peer=k∧1≤x.kind∧x.kind≤5∧(x.kind=4->jg≠0)):=by
 induction h with
 |refl=>exact .inl hx
 |can n _ ih=>exact ih (mD hx).1
 |
  set t _ a b c d e ih=>
  rcases QG hx with rfl|hx
  ·exact .inr ⟨a,b,c,d,e⟩
  ·exact ih hx.1
def S7 (l:List cV):Prop:=l.Pairwise (λa b=>¬(b.peer=a.peer∧b.kind=a.kind))
theorem S7.set {l:List cV} (h:S7 l) (t:cV):S7 (ji l t):=by
 unfold S7 at*;rw[yN];have aeM:∀ {a b:cV},¬(b.peer=a.peer∧b.kind=a.kind)->¬(a.peer=b.peer∧a.kind=b.kind):=λhn e=>hn ⟨e.1.symm,e.2.symm⟩;exact((n8 t _).pairwise_iff aeM).2 (JjQ.2 ⟨λx hx=>(mD hx).2,h.filter _⟩)
theorem xI.un (h:xI now k jg T U) (hu:S7 T):S7 U:=by
 induction h with
 |refl=>exact hu
 |can n _ ih=>exact List.Pairwise.filter _ ih
 |set t _ _ _ _ _ _ ih=>exact ih.set t
def xr (l:List cV) (n:Int):Nat:=(l.filter λt=>decide (t.at_≤n)).length
theorem Lx (l:List cV) (n:Int) (k:Key) (m:Int):xr (bg l k m) n≤xr l n:=by
 unfold xr bg;rw[JkX]
 have:(l.filter λa=>decide (a.at_≤n)&&oE k m a)=(l.filter λt=>decide (t.at_≤n)).filter (oE k m):=by
  rw[JkX];congr 1;funext a;exact Bool.and_comm _ _
 rw[this];exact JfZ _ _
theorem VO (l:List cV) {n:Int} {t:cV} (h:n<t.at_):xr (ji l t) n≤xr l n:=by
 have hp:=(n8 t (bg l t.peer t.kind)).filter λt=>decide (t.at_≤n);have hl:=hp.length_eq;have hn:decide (t.at_≤n)=false:=by simp;omega
 rw[JpX,hn]at hl;simp only[fJ,if_false]at hl;unfold xr;rw[yN,hl];exact Lx l n t.peer t.kind
theorem xI.xr (h:xI now k jg T U):xr U now≤xr T now:=by
 induction h with
 |refl=>exact JaQ _
 |can n _ ih=>exact JeW (Lx _ _ _ _) ih
 |set t _ a _ _ _ _ ih=>exact JeW (VO _ a) ih
end
theorem E9 {α:Type} [DecidableEq α]:∀ {l m:List α},l.Nodup->(∀x∈l,x∈m)->l.length≤m.length
 |[],_,_,_=>Nat.zero_le _
 |
  a::l,m,h,hs=>by
  have ha:a∈m:=hs a JrJ
  have h:=JiZ.1 h
  have:=E9 (l:=l) (m:=m.erase a) h.2 (λx hx=>(List.mem_erase_of_ne (by rintro rfl;exact h.1 hx)).2 (hs x (List.mem_cons_of_mem _ hx)))
  rw[List.length_erase_of_mem ha]at this
  have:0<m.length:=List.length_pos_of_mem ha
  simp only[JcX];omega
theorem VQ {l:List cV} (hu:S7 l) {ks:List Key} (h:∀t∈l,1≤t.kind∧t.kind≤5∧t.peer∈ks):l.length≤5*ks.length:=by
 have hn:(l.map λt=>(t.peer,t.kind)).Nodup:=by
  rw[List.nodup_iff_pairwise_ne,List.pairwise_map];exact hu.imp λSp e=>Sp ⟨by have:=congrArg Prod.fst e;exact this.symm,by have:=congrArg Prod.snd e;exact this.symm⟩
 have:=E9 hn (m:=ks.flatMap λk=>[(k,1),(k,2),(k,3),(k,4),(k,5)]) (λx hx=>by
  obtain⟨t,ht,rfl⟩:=JhW.1 hx;obtain⟨h1,h2,h3⟩:=h t ht;refine JlZ.2 ⟨t.peer,h3,?_⟩;rcases(by omega:t.kind=1∨t.kind=2∨t.kind=3∨t.kind=4∨t.kind=5)with e|e|e|e|e<;>simp[e])
 have hl:(ks.flatMap λk=>[(k,(1:Int)),(k,2),(k,3),(k,4),(k,5)]).length=5*ks.length:=by
  clear this h;induction ks with
  |nil=>rfl
  |cons a ks ih=>rw[JsJ,JaJ,ih];simp;omega
 rw[hl,JaX]at this;exact this
structure pI (p:bO):Prop where
 xF:p.rq=false
 tE:∃ck:List UInt8,ck.length=16∧p.tE.p=bA 16 ck
 born:0≤p.ring.c.nn.born
 send:∃sk:Key,p.ring.c.nn.send=sk.fv
 rem:0≤p.ring.c.nn.rem∧p.ring.c.nn.rem≤4294967295
 next:0≤p.ring.c.nn.next
 jg:p.jg=0∨0<p.jg∧p.jg≤1099511627776
 stl:p.dI.length≤1000
 stb:∀b∈p.dI,b.length≤100000
theorem Af:∃sk:Key,yO.send=sk.fv:=⟨zK,by show Ly=_;unfold Ly Key.fv;congr 1;exact tF⟩
theorem pI.wip {p:bO} (h:pI p):pI (Eg p):=⟨h.1,h.2,by show(0:Int)≤yO.born;decide,Af,by show(0:Int)≤yO.rem∧yO.rem≤4294967295;decide,by show(0:Int)≤yO.next;decide,h.7,h.8,h.9⟩
theorem pI.cu {p:bO} (h:pI p):pI (Oy p):=⟨h.1,h.2,h.3,h.4,h.5,by have:=h.6;show 0≤p.ring.c.nn.next+1;omega,h.7,h.8,h.9⟩
theorem pI.giv {p:bO} (h:pI p):pI (Du p):=⟨h.1,h.2,h.3,h.4,h.5,h.6,h.7,by simp[Du],by simp[Du]⟩
structure Eff (d:bc) (p:bO) (d':bc) (p':bO):Prop where
 VF:d'= {d with random:=d'.random,aS:=d'.aS,timers:=d'.timers}
 y8:∃k':Key,d'.random=k'.fv
 Zy:d'.aS.length≤max 32 d.aS.length
 VR:xI d.now p.cH p.jg d.timers d'.timers
 cH:p'.cH=p.cH
 jg:p'.jg=p.jg
 ok:pI p'
structure ZB (d:bc):Prop where
 n0:0≤d.now
 n1:d.now≤1099511627776
 r0:0<d.rules.ret
 r1:d.rules.ret≤1099511627776
theorem wrS {a b:Int} (h0:0≤a) (h1:a≤1099511627776) (h2:0<b) (h3:b≤1099511627776):IntKind.i64.wrap (a+b)=a+b:=wrap_i64 (by omega)
theorem al2 {d:bc} (ht:ZB d) {p:bO} (hp:pI p) {T:List cV} (h:xI d.now p.cH p.jg T d.timers):xI d.now p.cH p.jg T (lv d p).timers:=by
 unfold lv;split
 ·exact h
 ·rename_i hk;have hk:=(hp.jg).resolve_left hk;show xI d.now p.cH p.jg T (ji d.timers _);rw[wrS ht.n0 ht.n1 hk.1 hk.2];exact h.set _ (by show d.now<d.now+p.jg;omega) rfl (by show(1:Int)≤4;decide) (by show(4:Int)≤5;decide) (λ_=>by omega)
theorem al3 {d:bc} (ht:ZB d) {p:bO} (hp:pI p) {k pr:Key} {d':bc} {p':bO} {O:List PV} (h:Nz d p k pr d' p' O):Eff d p d' p':=by
 refine⟨h.VF,⟨_,h.y8⟩,h.Zy.1,?_,by rw[h.Dr],by rw[h.Dr],?_⟩
 ·rcases h.out with⟨e,_⟩|⟨e,_⟩
  ·rw[e];exact xI.refl.kU _
  ·rw[e]
   have:=al2 (d:=wg d (ji d.timers ⟨IntKind.i64.wrap (d.now+d.rules.ret),p.cH,1⟩)) ⟨ht.1,ht.2,ht.3,ht.4⟩ hp (T:=d.timers) (by
    show xI d.now p.cH p.jg d.timers (ji d.timers _);rw[wrS ht.n0 ht.n1 ht.r0 ht.r1];exact xI.refl.set _ (by show d.now<d.now+d.rules.ret;have:=ht.r0;omega) rfl (by show(1:Int)≤1;decide) (by show(1:Int)≤5;decide) (λe=>by simp at e))
   exact this
 ·rw[h.Dr];exact⟨hp.1,hp.2,hp.3,hp.4,hp.5,hp.6,hp.7,hp.8,hp.9⟩
theorem al4 {d:bc} {p:bO} (hp:pI p) {k:Key} (hk:d.random=k.fv):Eff d p d p:=⟨rfl,⟨k,hk⟩,by omega,.refl,rfl,rfl,hp⟩
theorem al5 {d:bc} (ht:ZB d) {p:bO} (hp:pI p) {k pr:Key} (hk:d.random=k.fv) {d':bc} {p':bO} {O:List PV} (h:Qy d p k pr d' p' O):Eff d p d' p':=by
 rcases h with⟨_,rfl,rfl,_⟩|⟨_,h⟩
 ·exact al4 hp hk
 ·exact al3 ht hp h
theorem ZC {d:bc} (ht:ZB d) {p:bO} (hp:pI p) {k pr:Key} (hk:d.random=k.fv) {d':bc} {p':bO} {O:List PV} (h:Ii d p k pr d' p' O):Eff d p d' p':=by
 rcases h with⟨_,rfl,rfl,_⟩|⟨_,_,h⟩|⟨_,_,rfl,rfl,_⟩
 ·exact al4 hp hk
 ·exact al5 ht hp hk h
 ·refine⟨?_,⟨k,by show(lv d p).random=_;rw[alV];exact hk⟩,by show(lv d p).aS.length≤_;rw[alW];omega,(al2 ht hp .refl).kU _,rfl,rfl,hp.cu⟩;show wg (lv d p) _=_;rw[at9];rfl
theorem al6 {d:bc} {p:bO}:(mQ d p)= {d with aS:=(mQ d p).aS,timers:=kU p.cH d.timers [1]}∧(mQ d p).aS.length≤d.aS.length:=by
 unfold mQ;split
 ·exact⟨rfl,kC _ _⟩
 ·exact⟨rfl,JaQ _⟩
theorem aub {d:bc} (ht:ZB d) {p:bO} (hp:pI p) {k pr:Key} (hk:d.random=k.fv) {d':bc} {p':bO} {O:List PV} (h:acP d p k pr d' p' O):Eff d p d' p':=by
 rcases h with⟨_,h⟩|⟨_,rfl,rfl,_⟩
 ·exact al3 ht hp h
 ·obtain⟨e1,e2⟩:=al6 (d:=d) (p:=p);have et:(mQ d p).timers=kU p.cH d.timers [1]:=by rw[e1]
  refine⟨?_,⟨k,by show(mQ d p).random=_;rw[e1];exact hk⟩,by show(mQ d p).aS.length≤_;omega,?_,rfl,rfl,hp.giv⟩
  ·unfold VJ mQ;split<;>rfl
  ·show xI _ _ _ _ (kU p.cH (mQ d p).timers [2,3]);rw[et];exact(xI.refl.kU _).kU _
theorem auc {d:bc} {p:bO} (hp:pI p) {k:Key} (hk:d.random=k.fv):Eff d p (NB d p) (Eg p):=by
 obtain⟨e1,e2⟩:=al6 (d:=pH d (cE d.aS (uM [p.ring.p,p.ring.c,p.ring.n]))) (p:=p);have e3:=kC (uM [p.ring.p,p.ring.c,p.ring.n]) d.aS;have et:(mQ (pH d (cE d.aS (uM [p.ring.p,p.ring.c,p.ring.n]))) p).timers=kU p.cH d.timers [1]:=by rw[e1];rfl
 refine⟨?_,⟨k,?_⟩,?_,?_,rfl,rfl,hp.wip⟩
 ·unfold NB mQ;split<;>rfl
 ·show(mQ (pH d _) p).random=_;rw[e1];exact hk
 ·show(mQ (pH d _) p).aS.length≤_;have:(pH d (cE d.aS (uM [p.ring.p,p.ring.c,p.ring.n]))).aS.length≤d.aS.length:=e3;omega
 ·show xI _ _ _ _ (kU p.cH (mQ (pH d _) p).timers [2,3]);rw[et];exact(xI.refl.kU _).kU _
def KR (kd:Int) (d:bc) (p:bO) (k pr:Key) (d':bc) (p':bO) (O:List PV):Prop:=
 (kd=1∧acP d p k pr d' p' O)∨(kd=2∧Qy d p k pr d' p' O)∨(kd=3∧Ii d p k pr d' p' O)∨
 (kd=4∧∃d1,Ii d p k pr d1 p' O∧d'=wg d1 (ji d1.timers ⟨IntKind.i64.wrap (d1.now+p'.jg),p'.cH,4⟩))∨(kd=5∧d'=NB d p∧p'=Eg p∧O=[])
def kF (kd:Int):FuncId:=if kd=1 then 157 else if kd=2 then 112 else if kd=3 then 148 else if kd=4 then 158 else 159
theorem krE {kd:Int} {d:bc} (ht:ZB d) {p:bO} (hp:pI p) (h4:kd=4->p.jg≠0) {k pr:Key} (hk:d.random=k.fv) {d':bc} {p':bO} {O:List PV} (h:KR kd d p k pr d' p' O):Eff d p d' p':=by
 rcases h with⟨_,h⟩|⟨_,h⟩|⟨_,h⟩|⟨rfl,d1,h,rfl⟩|⟨_,rfl,rfl,_⟩
 ·exact aub ht hp hk h
 ·exact al5 ht hp hk h
 ·exact ZC ht hp hk h
 ·have hE:=ZC ht hp hk h;have hk4:=hp.jg.resolve_left (h4 rfl);have en:d1.now=d.now:=by rw[hE.VF]
  refine⟨?_,hE.y8,hE.Zy,?_,hE.cH,hE.jg,hE.ok⟩
  ·rw[hE.VF];rfl
  ·show xI d.now p.cH p.jg d.timers (ji d1.timers _);rw[en,hE.jg,hE.cH,wrS ht.n0 ht.n1 hk4.1 hk4.2];exact hE.VR.set _ (by show d.now<d.now+p.jg;omega) rfl (by show(1:Int)≤4;decide) (by show(4:Int)≤5;decide) (λ_=>h4 rfl)
 ·exact auc hp hk
theorem aud {kd:Int} (h1:1≤kd) (h5:kd≤5) {d:bc} (ht:ZB d) (hT:d.timers.length≤100000) (hS:d.aS.length≤1000000) {ps:List bO} {i:Nat} (hi:i<ps.length) (hp:pI ps[i]) {k pr:Key} (hk:d.random=k.fv) (uO:d.jz=pr.fv):
  ∃(d':bc) (p':bO) (O:List PV),KR kd d ps[i] k pr d' p' O∧(an O∧O.length≤1)∧MC (kF kd) [.pt (KB+1) [.i i 464] ps.length] d ps (.tup []) d' (ps.set i p') O:=by
 obtain⟨ck,B8,Mo⟩:=hp.tE;obtain⟨sk,hsk⟩:=hp.send;have n9:d.now≤9000000000000000000:=by have:=ht.n1;omega
 rcases(by omega:kd=1∨kd=2∨kd=3∨kd=4∨kd=5)with rfl|rfl|rfl|rfl|rfl
 ·obtain⟨d',p',O,h,hO,hM⟩:=acQ (by omega) hS hi hk uO hp.xF B8 Mo;exact⟨d',p',O,.inl ⟨rfl,h⟩,hO,hM⟩
 ·obtain⟨d',p',O,h,hM⟩:=Gp (by omega) hS hi hk uO hp.xF B8 Mo;refine⟨d',p',O,.inr (.inl ⟨rfl,h⟩),?_,hM⟩;rcases h with⟨_,_,_,rfl⟩|⟨_,h⟩
  ·simp
  ·exact sS h
 ·obtain⟨d',p',O,h,hO,hM⟩:=Zz ht.n0 n9 (by omega) hS hi hk uO hp.xF B8 Mo hp.born hsk hp.rem hp.next;exact⟨d',p',O,.inr (.inr (.inl ⟨rfl,h⟩)),hO,hM⟩
 ·obtain⟨d',p',O,h,hO,hM⟩:=Zz ht.n0 n9 (by omega) hS hi hk uO hp.xF B8 Mo hp.born hsk hp.rem hp.next
  have hl:d'.timers.length≤1048575:=by
   rcases h with⟨_,rfl,_⟩|⟨_,_,h⟩|⟨_,_,rfl,_⟩
   ·omega
   ·rcases h with⟨_,rfl,_⟩|⟨_,h⟩
    ·omega
    ·rcases h.out with⟨e,_⟩|⟨e,_⟩
     ·have:=wh ps[i].cH [1] d.timers;rw[e];omega
     ·rw[e];have h1:=QA (wg d (ji d.timers ⟨IntKind.i64.wrap (d.now+d.rules.ret),ps[i].cH,1⟩)) ps[i];have h2:=Ab.stl d.timers ⟨IntKind.i64.wrap (d.now+d.rules.ret),ps[i].cH,1⟩;have h3:(wg d (ji d.timers ⟨IntKind.i64.wrap (d.now+d.rules.ret),ps[i].cH,1⟩)).timers=ji d.timers ⟨IntKind.i64.wrap (d.now+d.rules.ret),ps[i].cH,1⟩:=rfl;rw[h3]at h1;omega
   ·have h1:=QA d ps[i];have h2:=wh ps[i].cH [3] (lv d ps[i]).timers;show(kU ps[i].cH (lv d ps[i]).timers [3]).length≤_;omega
  exact⟨_,p',O,.inr (.inr (.inr (.inl ⟨rfl,d',h,rfl⟩))),hO,Qz hi hO.1 hM hl⟩
 ·exact⟨_,_,[],.inr (.inr (.inr (.inr ⟨rfl,rfl,rfl,rfl⟩))),by simp,alY (by omega) hS hi⟩
theorem Il {q:bO->Bool} {l:List bO} {i:Nat} (hi:i<l.length) {x:bO} (hq:q x=q l[i]):lQ q (l.set i x)=lQ q l:=by
 have h:∀m:List bO,m.findIdx? q=(m.map q).findIdx? id:=λm=>by rw[List.findIdx?_map];rfl
 unfold lQ;rw[h,h,JfJ,hq];have:(l.map q).set i (q l[i])=l.map q:=by rw[←JfJ,JsV]
 rw[this]
theorem Lz {q:bO->Bool} {l:List bO} {i:Nat} (h:lQ q l=(i:Int)) (hi:i<l.length):q l[i]=true:=by
 rcases tI q l with⟨e,_⟩|⟨j,hj,e,_,hq⟩
 ·omega
 ·have:i=j:=by omega
  subst this;exact hq
abbrev xJ:=bc×List bO
def kG (d:bc):bc:= {d with timers:=bg d.timers (jZ d.timers).peer (jZ d.timers).kind,now:=max d.now (jZ d.timers).at_}
def NF (d:bc) (ps:List bO) (t:cV) (r:xJ×List PV):Prop:=
 ∃i,∃hi:i<ps.length,lQ (λp=>decide (p.cH=t.peer)) ps=(i:Int)∧∃p',r.1.2=ps.set i p'∧(∃k pr:Key,d.random=k.fv∧d.jz=pr.fv∧KR t.kind d ps[i] k pr r.1.1 p' r.2)∧(an r.2∧r.2.length≤1)∧MC (kF t.kind) [.pt (KB+1) [.i i 464] ps.length] d ps (.tup []) r.1.1 (ps.set i p') r.2
open Classical in
def act (d:bc) (ps:List bO) (t:cV):xJ×List PV:=if h:∃r,NF d ps t r then Classical.choose h else((d,ps),[])
theorem acS {d:bc} {ps:List bO} {t:cV} (h:∃r,NF d ps t r):NF d ps t (act d ps t):=by
 unfold act;rw[dif_pos h];exact Classical.choose_spec h
def y8 (s:xJ):xJ×List PV:=act (kG s.1) s.2 (jZ s.1.timers)
structure sT (s:xJ):Prop where
 n0:0≤s.1.now
 r0:0<s.1.rules.ret
 r1:s.1.rules.ret≤1099511627776
 y8:∃k:Key,s.1.random=k.fv
 prv:∃k:Key,s.1.jz=k.fv
 Zy:s.1.aS.length≤1000
 Dr:∀p∈s.2,pI p
 len:s.2.length≤10
 uni:S7 s.1.timers
 VR:∀t∈s.1.timers,(1≤t.kind∧t.kind≤5)∧∃i,∃h:i<s.2.length,lQ (λp=>decide (p.cH=t.peer)) s.2=(i:Int)∧(t.kind=4->s.2[i].jg≠0)
theorem sT.tl {s:xJ} (h:sT s):s.1.timers.length≤5*s.2.length:=by
 have:=VQ h.uni (ks:=s.2.map λp=>p.cH) (λt ht=>by
  obtain⟨⟨a,b⟩,i,hi,hf,_⟩:=h.VR t ht;have hq:=Lz hf hi;exact⟨a,b,JhW.2 ⟨_,JbQ hi,of_decide_eq_true hq⟩⟩)
 rw[JaX]at this;exact this
def mu (to:Int) (s:xJ):Nat:=(to-s.1.now).toNat*(5*s.2.length+1)+xr s.1.timers s.1.now
def Bn (s s':xJ):Prop:=s'.1= {s.1 with now:=s'.1.now,random:=s'.1.random,aS:=s'.1.aS,timers:=s'.1.timers}
theorem acT {l:List cV} {t:cV} (h:t∈l) {n:Int} (hn:t.at_≤n):xr (bg l t.peer t.kind) n<xr l n:=by
 unfold xr bg
 have:((l.filter (oE t.peer t.kind)).filter λa=>decide (a.at_≤n))=(l.filter λt=>decide (t.at_≤n)).filter (oE t.peer t.kind):=by
  rw[JkX,JkX];congr 1;funext a;exact Bool.and_comm _ _
 rw[this,List.length_filter_lt_length_iff_exists];exact⟨t,JgW.2 ⟨h,by simpa using hn⟩,by simp[oE]⟩
theorem LA (l:List cV) (n:Int):xr l n≤l.length:=JfZ _ _
theorem BR {s:xJ} (h:sT s) {to:Int} (hd:kE s.1.timers to=true) (hn:s.1.now≤to) (XI:to≤1099511627776):
  NF (kG s.1) s.2 (jZ s.1.timers) (y8 s)∧sT (y8 s).1∧(y8 s).1.1.now=(kG s.1).now∧(kG s.1).now≤to∧mu to (y8 s).1<mu to s∧Bn s (y8 s).1:=by
 obtain⟨htm,hta⟩:=Gr hd;obtain⟨⟨k1,k5⟩,i,hi,hf,h4⟩:=h.VR _ htm;have hsn:(kG s.1).now=max s.1.now (jZ s.1.timers).at_:=rfl;have Mi:=h.n0;have hnt:(kG s.1).now≤to:=by rw[hsn];omega
 have tms:ZB (kG s.1):=⟨by rw[hsn];omega,by omega,h.r0,h.r1⟩
 obtain⟨k,hk⟩:=h.y8;obtain⟨pr,uO⟩:=h.prv;have Fw:=h.tl;have hlen:=h.len;have aAo:=h.Zy;have qT:(kG s.1).timers=bg s.1.timers (jZ s.1.timers).peer (jZ s.1.timers).kind:=rfl;have EA:(kG s.1).timers.length≤s.1.timers.length:=by rw[qT];exact JfZ _ _
 have OG:(kG s.1).aS=s.1.aS:=rfl;obtain⟨d',p',O,hK,hO,hM⟩:=aud k1 k5 tms (by omega) (by rw[OG];omega) hi (h.Dr _ (JbQ hi)) (show(kG s.1).random=k.fv from hk) (show(kG s.1).jz=pr.fv from uO);have hA:NF (kG s.1) s.2 (jZ s.1.timers) (y8 s):=acS ⟨((d',s.2.set i p'),O),i,hi,hf,p',rfl,⟨k,pr,hk,uO,hK⟩,hO,hM⟩;refine⟨hA,?_⟩;clear hK hO hM;obtain⟨i2,As,To,p2,e2,⟨k2,pr2,za,aAp,sr⟩,hO2,hM2⟩:=hA;have hii:i2=i:=by omega
 subst hii;generalize y8 s=r at*;obtain⟨⟨d2,ps2⟩,O2⟩:=r;simp only at e2 sr hM2 hO2⊢;subst e2;have hE:=krE tms (h.Dr _ (JbQ hi)) h4 za sr;have Oo:s.2[i2].cH=(jZ s.1.timers).peer:=of_decide_eq_true (Lz hf hi);have en:d2.now=(kG s.1).now:=by rw[hE.VF]
 have er:d2.rules=s.1.rules:=by rw[hE.VF];rfl
 have aoK:=hE.Zy;rw[OG]at aoK;have hq:∀k:Key,decide (p2.cH=k)=decide (s.2[i2].cH=k):=λk=>by rw[hE.cH]
 have hI:sT (d2,s.2.set i2 p2):=by
  refine⟨by show 0≤d2.now;rw[en,hsn];omega,by show 0<d2.rules.ret;rw[er];exact h.r0,by show d2.rules.ret≤_;rw[er];exact h.r1,hE.y8,⟨pr,by show d2.jz=_;rw[hE.VF];exact uO⟩,by show d2.aS.length≤_;omega,?_,by simpa using h.len,hE.VR.un ?_,?_⟩
  ·intro p hp;rcases JhX hp with hp|rfl
   ·exact h.Dr p hp
   ·exact hE.ok
  ·rw[qT];exact List.Pairwise.filter _ h.uni
  ·intro x hx;rcases hE.VR.mem hx with hx|⟨_,a2,a3,a4,a5⟩
   ·obtain⟨hk,j,hj,hfj,hj4⟩:=h.VR x (mD hx).1;refine⟨hk,j,by simpa using hj,?_,λe=> ?_⟩
    ·rw[←hfj];exact Il (q:=λp=>decide (p.cH=x.peer)) hi (hq _)
    ·have:=hj4 e;simp only[List.getElem_set];split
     ·rename_i Ha;subst Ha;rw[hE.jg];exact this
     ·exact this
   ·refine⟨⟨a3,a4⟩,i2,by simpa using hi,?_,λe=> ?_⟩
    ·rw[a2,Oo,←hf];exact Il (q:=λp=>decide (p.cH=(jZ s.1.timers).peer)) hi (hq _)
    ·simp only[List.getElem_set_self];rw[hE.jg];exact a5 e
 refine⟨hI,en,hnt,?_,?_⟩
 ·unfold mu;have hc:=hE.VR.xr;simp only[JlJ];rw[en];by_cases hle:(jZ s.1.timers).at_≤s.1.now
  ·have e:(kG s.1).now=s.1.now:=by rw[hsn];omega
   rw[e]at hc⊢;rw[qT]at hc;have:=acT htm hle;omega
  ·have e:(kG s.1).now=(jZ s.1.timers).at_:=by rw[hsn];omega
   have y9:=LA d2.timers (kG s.1).now;have awe:=hI.tl;simp only[JlJ]at awe;have hm:(to-(kG s.1).now).toNat+1≤(to-s.1.now).toNat:=by rw[e];omega
   have:=JcV (5*s.2.length+1) hm;rw[JgQ]at this;omega
 ·show d2=_;have:=hE.VF;exact this.trans (by rw[en];rfl)
def tr:Nat->xJ->xJ×List PV
 |0,s=>(s,[])
 |n+1,s=>((y8 (tr n s).1).1,(tr n s).2++(y8 (tr n s).1).2)
def Ends (to:Int) (s:xJ) (N:Nat):Prop:=(∀i,i<N->kE (tr i s).1.1.timers to=true)∧kE (tr N s).1.1.timers to=false
theorem xt (a:Nat):∀(b:Nat) (s:xJ),tr (a+b) s=((tr b (tr a s).1).1,(tr a s).2++(tr b (tr a s).1).2)
 |0,s=>by simp[tr]
 |
  b+1,s=>by
  have:=xt a b s
  rw[←Nat.add_assoc]
  simp only[tr,this,JeJ]
theorem qF {s:xJ} (h:sT s) {to:Int} (hn:s.1.now≤to) (XI:to≤1099511627776):∀N,(∀i,i<N->kE (tr i s).1.1.timers to=true)->
  sT (tr N s).1∧(s.1.now≤(tr N s).1.1.now∧(tr N s).1.1.now≤to)∧mu to (tr N s).1+N≤mu to s∧Bn s (tr N s).1∧an (tr N s).2∧(tr N s).2.length≤N
 |0,_=>⟨h,⟨Int.le_refl _,hn⟩,JaQ _,rfl,by simp[tr],by simp[tr]⟩
 |
  N+1,hd=>by
  obtain⟨h1,⟨h2a,h2⟩,h3,h4,h5,h6⟩:=qF h hn XI N (λi hi=>hd i (by omega))
  obtain⟨⟨_,_,_,_,_,_,⟨g1,g2⟩,_⟩,i1,i2,i3,i4,i5⟩:=BR h1 (hd N (by omega)) h2 XI
  simp only[tr]
  have i6:(kG (tr N s).1.1).now=max (tr N s).1.1.now (jZ (tr N s).1.1.timers).at_:=rfl
  refine⟨i1,⟨by rw[i2,i6];omega,by omega⟩,by omega,?_,h5.append g1,by rw[JaJ];omega⟩
  unfold Bn at*
  rw[i5]
  generalize (y8 (tr N s).1).1.1=d9 at*
  rw[h4]
theorem acU {P:Nat->Prop}:∀n,P n->∃m,P m∧∀i,i<m->¬P i:=by
 intro n;induction n using Nat.strongRecOn with
 |
  _ n ih=>
  intro hn
  by_cases h:∃i,i<n∧P i
  ·obtain⟨i,hi,hp⟩:=h;exact ih i hi hp
  ·exact⟨n,hn,λi hi hp=>h ⟨i,hi,hp⟩⟩
theorem QH {s:xJ} (h:sT s) {to:Int} (hn:s.1.now≤to) (XI:to≤1099511627776):∃N,Ends to s N:=by
 by_cases cq:∀i,kE (tr i s).1.1.timers to=true
 ·have:=(qF h hn XI (mu to s+1) (λi _=>cq i)).2.2.1;omega
 ·obtain⟨n,hn⟩:=Classical.not_forall.1 cq;obtain⟨m,hm,hl⟩:=acU (P:=λi=>kE (tr i s).1.1.timers to=false) n (by simpa using hn);exact⟨m,λi hi=>by simpa using hl i hi,hm⟩
theorem Ends.uniq {to:Int} {s:xJ} {M N:Nat} (h:Ends to s M) (g:Ends to s N):M=N:=by
 rcases Nat.lt_trichotomy M N with hl|e|hl
 ·exact absurd (g.1 M hl) (by rw[h.2];simp)
 ·exact e
 ·exact absurd (h.1 N hl) (by rw[g.2];simp)
def fin (to:Int) (s:xJ):xJ:=({s.1 with now:=to},s.2)
theorem sT.fin {s:xJ} (h:sT s) {to:Int} (hn:s.1.now≤to):sT (fin to s):=⟨by have:=h.n0;show 0≤to;omega,h.2,h.3,h.4,h.5,h.6,h.7,h.8,h.9,h.10⟩
theorem VS {s:xJ} {t1 t2:Int} (hn:s.1.now≤t1) (h1:kE s.1.timers t1=false) (h2:kE s.1.timers t2=true):y8 (Ab.fin t1 s)=y8 s:=by
 have hm:=VN h1 (Gr h2).1;have e1:max t1 (jZ s.1.timers).at_=(jZ s.1.timers).at_:=by omega
 have e2:max s.1.now (jZ s.1.timers).at_=(jZ s.1.timers).at_:=by omega
 have:kG (Ab.fin t1 s).1=kG s.1:=by simp only[kG,Ab.fin,e1,e2]
 show act (kG (Ab.fin t1 s).1) s.2 (jZ s.1.timers)=act (kG s.1) s.2 (jZ s.1.timers);rw[this]
theorem NG {s:xJ} (h:sT s) {t1 t2:Int} (h01:s.1.now≤t1) (Hh:t1≤t2) (hB:t2≤1099511627776) {N1 N2 N3:Nat} (e1:Ends t1 s N1) (e2:Ends t2 (fin t1 (tr N1 s).1) N2) (e3:Ends t2 s N3):
  fin t2 (tr N2 (fin t1 (tr N1 s).1)).1=fin t2 (tr N3 s).1∧(tr N1 s).2++(tr N2 (fin t1 (tr N1 s).1)).2=(tr N3 s).2:=by
 obtain⟨i1,⟨_,i2⟩,_⟩:=qF h h01 (by omega) N1 e1.1;have OE:=e1.2;by_cases hd:kE (tr N1 s).1.1.timers t2=true
 ·have hr:=VS i2 OE hd
  have hs:∀k,tr (k+1) (fin t1 (tr N1 s).1)=tr (k+1) (tr N1 s).1:=λk=>by
   rw[Nat.add_comm k 1,xt,xt];simp only[tr,hr]
  cases N2 with
  |
   zero=>
   have:=e2.2
   simp only[tr]at this
   have Ap:kE (fin t1 (tr N1 s).1).1.timers t2=true:=hd
   rw[Ap]at this;simp at this
  |
   succ k=>
   have e4:Ends t2 s (N1+(k+1)):=by
    refine⟨λi hi=> ?_,?_⟩
    ·by_cases hl:i<N1
     ·exact Ik (e1.1 i hl) Hh
     ·obtain⟨j,rfl⟩:∃j,i=N1+j:=⟨i-N1,by omega⟩
      rw[xt];cases j with
      |zero=>exact hd
      |
       succ j=>
       have:=e2.1 (j+1) (by omega)
       rw[hs]at this
       exact this
    ·rw[xt];have:=e2.2;rw[hs]at this;exact this
   have:=e3.uniq e4
   subst this
   rw[hs,xt N1 (k+1) s]
   exact⟨rfl,rfl⟩
 ·have hd:kE (tr N1 s).1.1.timers t2=false:=by simpa using hd
  have g2:Ends t2 (fin t1 (tr N1 s).1) 0:=⟨λi hi=>by omega,hd⟩
  have g3:Ends t2 s N1:=⟨λi hi=>Ik (e1.1 i hi) Hh,hd⟩
  have:=e2.uniq g2;subst this;have:=e3.uniq g3;subst this;simp[tr,fin]
@[simp↓] theorem aue (g:Bool) (k b:Nat) (K:PV->Prop):ed g (.mp k b) K=K (.mp k b):=_root_.id rfl
theorem lkA {kd:Int} (h1:1≤kd) (h5:kd≤5):Ax (.int .i64 kd) [(.int .i64 1,.fn (.func 157) [] []),(.int .i64 2,.fn (.func 112) [] []),(.int .i64 3,.fn (.func 148) [] []),(.int .i64 4,.fn (.func 158) [] []),(.int .i64 5,.fn (.func 159) [] [])]=some (.fn (.func (kF kd)) [] []):=by
 rcases(by omega:kd=1∨kd=2∨kd=3∨kd=4∨kd=5)with rfl|rfl|rfl|rfl|rfl<;>rfl
theorem acV (s:xJ) {i N:Nat} (h:i≤N):(tr i s).2.length≤(tr N s).2.length:=by
 obtain⟨k,rfl⟩:∃k,N=i+k:=⟨N-i,by omega⟩
 rw[xt,JaJ];omega
theorem al7 {s:xJ} (h:sT s) {to:Int} (h0:s.1.now≤to) (h1:to≤1099511627776) (h2:to≤s.1.now+60000) {N:Nat} (hE:Ends to s N):
  MC 28 [.int .i64 to] s.1 s.2 (.bl true) (fin to (tr N s).1).1 (tr N s).1.2 (tr N s).2:=by
 intro L hL hb;refine ae.intro T.gf (by simp[F.gf]) ?_;have hn:=h.n0;have n0:¬to<s.1.now:=by omega
 have n1:¬(1099511627776:Int)<to:=by omega
 have w:IntKind.i64.wrap (s.1.now+60000)=s.1.now+60000:=wrap_i64 (by omega);have n2:¬s.1.now+60000<to:=by omega
 simp[F.gf,aj,av,MB,n0,n1,n2,w];refine ai.gR [] [1] [] VI (by simp) (by simp) ?_;rintro r fp ⟨b,rfl,rfl⟩;refine⟨by simp[af,ab,VH],?_⟩;simp[aI,az,aE,VH];refine eW.fD N (λ_=>True) [0,1,5] (λ_=>[]) (λi=>[(KB,.box (tN (tr i s).1.1 (KB+1) (tr i s).1.2.length (KB+2) (L++(tr i s).2).length)),(KB+1,.arr 464 ((tr i s).1.2.map aQ)),(KB+2,.arr 86 (L++(tr i s).2))]) [.keep [0,1,5]] ?_;simp[show tr 0 s=(s,[]) from rfl];refine⟨λi hi K hK=> ?_,λK=> ?_⟩
 ·obtain⟨i1,⟨_,i2⟩,_,_,i5,_⟩:=qF h h0 h1 i (λj hj=>hE.1 j (by omega));have hd:=hE.1 i hi;have hle:=acV s (show i+1≤N by omega);obtain⟨hA,_⟩:=BR i1 hd i2 h1;simp only[show tr (i+1) s=((y8 (tr i s).1).1,(tr i s).2++(y8 (tr i s).1).2) from rfl]at hK hle;obtain⟨⟨k1,k5⟩,_⟩:=i1.VR _ (Gr hd).1;have Fw:=i1.tl;have oR:=i1.len;generalize y8 (tr i s).1=r at*;generalize tr i s=q at*;obtain⟨⟨d',Be⟩,O'⟩:=q;obtain⟨⟨d2,ps2⟩,O2⟩:=r;simp only at*;obtain⟨j,hj,hf,p',e,_,⟨hO1,_⟩,hM⟩:=hA;simp only at e hM hO1;subst e;have ux:an (L++O'):=hL.append i5;have hD:=al0 (l:=d'.timers) (by omega) to;rw[QE,if_pos hd]at hD;have hC:=alO (l:=d'.timers) (by omega) (jZ d'.timers).peer (jZ d'.timers).kind;have hF:=Zx (kG d') (ps:=Be) (by omega) (k:=(jZ d'.timers).peer) hj hf;unfold kG at hF hM;generalize jZ d'.timers=t at*;simp[↓al];refine ai.rA hD ?_;simp;refine aN.rA hC ?_;simp;have KQ:L.length+O'.length+O2.length≤1000000:=by simp only[JaJ]at hle;omega
  have hlk:=lkA k1 k5;refine Ym.run [] rfl rfl rfl ?_;simp[hlk];have Tn:fits (.i .i64) (.int .i64 t.kind)=true:=by simp[Ab.fits]
  have Bc:(L++O').length+O2.length≤1000000:=by simpa using KQ
  refine⟨⟨Tn,?_⟩,?_⟩
  all_goals
   refine ai.BP hF ux (by simp;omega) (by simp) ?_
   simp[hlk,Tn]
   refine ai.BP hM ux Bc hO1 ?_
   simp
   refine⟨[.keep [0,1,5],.dr 6],?_⟩
   simp[bt,b8,af,ab,hO1.refs]
   exact⟨⟨hL.refs _,i5.refs _⟩,hK _ (by simp)⟩
 ·have hd:=hE.2;obtain⟨i1,⟨_,i2⟩,_,_,i5,_⟩:=qF h h0 h1 N hE.1;have Fw:=i1.tl;have oR:=i1.len;have ux:an (L++(tr N s).2):=hL.append i5;unfold fin;generalize tr N s=q at*;obtain⟨⟨d',Be⟩,O'⟩:=q;simp only at*;have hD:=al0 (l:=d'.timers) (by omega) to;rw[QE,if_neg (by rw[hd];simp)]at hD;simp[↓al];refine ai.rA hD ?_;simp[↓al];refine aA.with [.keep [4],.dr 1,.dr 6] [KB,KB+1,KB+2] ?_;simp[ux.refs,ux.aE]
def oI (l:(List xG)):PV:= .sl 18 (l.map gC) false
@[simp] theorem acW (e:(List xG)):Pure (oI e):=by simp[oI]
@[simp] theorem al8 (e:(List xG)):wk (oI e)=oI e:=by simp[oI]
@[simp↓] theorem ahh (g:Bool) (e:(List xG)) (K:PV->Prop):ed g (oI e) K=K (oI e):=_root_.id rfl
@[simp] theorem ZD (e:(List xG)):(oI e).width=1:=_root_.id rfl
@[simp] theorem ahi (e:(List xG)):(oI e).isAgg=false:=_root_.id rfl
@[simp↓] theorem acX (s:St) (K:PV->Prop) (l:List xG):yA s K (oI l)=K (.int .i64 l.length):=by simp[oI]
structure Bo where
 cH:Key
 shared:Key
 iU:Bool
 ep:G6
 jg:Int
 allowed:List xG
def fN (c:Bo):PV:= .st 85 [aG c.cH,aG c.shared,.bl c.iU,ic c.ep,.int .i64 c.jg,oI c.allowed]
@[simp] theorem acY (e:Bo):Pure (fN e):=by simp[fN]
@[simp] theorem al9 (e:Bo):wk (fN e)=fN e:=by simp[fN]
@[simp↓] theorem ahj (g:Bool) (e:Bo) (K:PV->Prop):ed g (fN e) K=K (fN e):=_root_.id rfl
@[simp] theorem ZE (e:Bo):(fN e).width=85:=_root_.id rfl
@[simp] theorem ahk (e:Bo):(fN e).isAgg=true:=_root_.id rfl
@[simp] theorem acZ (e:Bo):(fN e).aT=true:=_root_.id rfl
@[simp↓] theorem VT (e:Bo) (r:List Step):aM (fN e) (.f 0 0::r)=aM (aG e.cH) r:=by simp[fN]
@[simp↓] theorem VU (e:Bo) (r:List Step):aM (fN e) (.f 1 32::r)=aM (aG e.shared) r:=by simp[fN,aB]
@[simp↓] theorem VV (e:Bo) (r:List Step):aM (fN e) (.f 2 64::r)=aM (.bl e.iU) r:=by simp[fN,aB]
@[simp↓] theorem VW (e:Bo) (r:List Step):aM (fN e) (.f 3 65::r)=aM (ic e.ep) r:=by simp[fN,aB]
@[simp↓] theorem VX (e:Bo) (r:List Step):aM (fN e) (.f 4 83::r)=aM (.int .i64 e.jg) r:=by simp[fN,aB]
@[simp↓] theorem VY (e:Bo) (r:List Step):aM (fN e) (.f 5 84::r)=aM (oI e.allowed) r:=by simp[fN,aB]
def oW (l:(List Bo)):PV:= .sl 85 (l.map fN) false
@[simp] theorem ZF (e:(List Bo)):Pure (oW e):=by simp[oW]
@[simp] theorem ahl (e:(List Bo)):wk (oW e)=oW e:=by simp[oW]
structure LB where
 jz:Key
 port:Int
 au:List Bo
def lR (c:LB):PV:= .st 34 [aG c.jz,.int .i64 c.port,oW c.au]
@[simp] theorem ac0 (e:LB):Pure (lR e):=by simp[lR]
@[simp] theorem ama (e:LB):wk (lR e)=lR e:=by simp[lR]
@[simp↓] theorem ahm (g:Bool) (e:LB) (K:PV->Prop):ed g (lR e) K=K (lR e):=_root_.id rfl
@[simp] theorem ZG (e:LB):(lR e).width=34:=_root_.id rfl
@[simp] theorem ahn (e:LB):(lR e).isAgg=true:=_root_.id rfl
@[simp] theorem ac1 (e:LB):(lR e).aT=true:=_root_.id rfl
@[simp↓] theorem VZ (e:LB) (r:List Step):aM (lR e) (.f 0 0::r)=aM (aG e.jz) r:=by simp[lR]
@[simp↓] theorem V2 (e:LB) (r:List Step):aM (lR e) (.f 1 32::r)=aM (.int .i64 e.port) r:=by simp[lR,aB]
@[simp↓] theorem V3 (e:LB) (r:List Step):aM (lR e) (.f 2 33::r)=aM (oW e.au) r:=by simp[lR,aB]
def qG (p:Bo):bO:=⟨p.cH,p.shared.fv,p.iU,p.ep,p.jg,zSm,false,0,yL,false,LC,0,LC,V4,[]⟩
def Dw (r:y7) (c:LB) (k:Key) (now sa:Int) (ps:List bO) (rt:List vi) (tm:List cV) (sec:FV xl):bc:=
 ⟨r,c.jz.fv,(kV c.jz iZ).fv,c.port,k.fv,now,ps,rt,[],tm,sec,sa,[],[],0⟩
def NH (p:Bo):PV:= .st 464 [aG p.cH,aG p.shared,.bl p.iU,ic p.ep,.int .i64 p.jg,(.ar 1 12 (zr 12 (.int .u8 0))),(.bl false),(.int .i64 0),(.st 100 [(.bl false),(.int .u32 0),(.ar 1 32 (zr 32 (.int .u8 0))),(.st 64 [(.ar 1 32 (zr 32 (.int .u8 0))),(.ar 1 32 (zr 32 (.int .u8 0)))]),(.int .i64 0),(.int .i64 0)]),(.bl false),(.ar 1 16 (zr 16 (.int .u8 0))),(.int .i64 0),(.ar 1 16 (zr 16 (.int .u8 0))),(.st 231 [(.st 77 [(.bl false),(.st 76 [(.int .u32 0),(.int .u32 0),(.ar 1 32 (zr 32 (.int .u8 0))),(.ar 1 32 (zr 32 (.int .u8 0))),(.int .u64 0),(.int .u64 0),(.st 6 [(.bl false),(.int .u64 0),(.ar 1 4 (zr 4 (.int .u64 0)))]),(.int .i64 0),(.bl false)])]),(.st 77 [(.bl false),(.st 76 [(.int .u32 0),(.int .u32 0),(.ar 1 32 (zr 32 (.int .u8 0))),(.ar 1 32 (zr 32 (.int .u8 0))),(.int .u64 0),(.int .u64 0),(.st 6 [(.bl false),(.int .u64 0),(.ar 1 4 (zr 4 (.int .u64 0)))]),(.int .i64 0),(.bl false)])]),(.st 77 [(.bl false),(.st 76 [(.int .u32 0),(.int .u32 0),(.ar 1 32 (zr 32 (.int .u8 0))),(.ar 1 32 (zr 32 (.int .u8 0))),(.int .u64 0),(.int .u64 0),(.st 6 [(.bl false),(.int .u64 0),(.ar 1 4 (zr 4 (.int .u64 0)))]),(.int .i64 0),(.bl false)])])]),.sl 1 [] true]
theorem auf (p:Bo):(.st 464 [aG p.cH,aG p.shared,.bl p.iU,ic p.ep,.int .i64 p.jg,(.ar 1 12 (zr 12 (.int .u8 0))),(.bl false),(.int .i64 0),(.st 100 [(.bl false),(.int .u32 0),(.ar 1 32 (zr 32 (.int .u8 0))),(.st 64 [(.ar 1 32 (zr 32 (.int .u8 0))),(.ar 1 32 (zr 32 (.int .u8 0)))]),(.int .i64 0),(.int .i64 0)]),(.bl false),(.ar 1 16 (zr 16 (.int .u8 0))),(.int .i64 0),(.ar 1 16 (zr 16 (.int .u8 0))),(.st 231 [(.st 77 [(.bl false),(.st 76 [(.int .u32 0),(.int .u32 0),(.ar 1 32 (zr 32 (.int .u8 0))),(.ar 1 32 (zr 32 (.int .u8 0))),(.int .u64 0),(.int .u64 0),(.st 6 [(.bl false),(.int .u64 0),(.ar 1 4 (zr 4 (.int .u64 0)))]),(.int .i64 0),(.bl false)])]),(.st 77 [(.bl false),(.st 76 [(.int .u32 0),(.int .u32 0),(.ar 1 32 (zr 32 (.int .u8 0))),(.ar 1 32 (zr 32 (.int .u8 0))),(.int .u64 0),(.int .u64 0),(.st 6 [(.bl false),(.int .u64 0),(.ar 1 4 (zr 4 (.int .u64 0)))]),(.int .i64 0),(.bl false)])]),(.st 77 [(.bl false),(.st 76 [(.int .u32 0),(.int .u32 0),(.ar 1 32 (zr 32 (.int .u8 0))),(.ar 1 32 (zr 32 (.int .u8 0))),(.int .u64 0),(.int .u64 0),(.st 6 [(.bl false),(.int .u64 0),(.ar 1 4 (zr 4 (.int .u64 0)))]),(.int .i64 0),(.bl false)])])]),.sl 1 [] false]:PV)=aQ (qG p):=rfl
def zPs:PV:= .st 148 [.st 10 [.int .u64 0,.int .u64 0,.int .i64 0,.int .i64 0,.int .i64 0,.int .i64 0,.int .i64 0,.int .i64 0,.int .i64 0,.int .i64 0],.ar 1 32 (zr 32 (.int .u8 0)),.ar 1 32 (zr 32 (.int .u8 0)),.int .i64 0,.ar 1 32 (zr 32 (.int .u8 0)),.int .i64 0,.sl 464 [] true,.sl 50 [] true,.sl 34 [] true,.sl 34 [] true,.ar 1 32 (zr 32 (.int .u8 0)),.int .i64 0,.sl 1 [] true,.sl 19 [] true,.int .i64 0]
@[simp] theorem ahp:zPs.width=148:=rfl
@[simp] theorem amb:Pure zPs:=by simp[zPs]
@[simp] theorem ahq (p:Bo):Pure (NH p):=by simp[NH]
noncomputable def F.Gs:cM:=⟨F.gu.nt,F.gu.res,mP F.gu.code [1]⟩
theorem T.Gs:nk Pg [] [] 7=some F.Gs.er:=E7 [1] T.gu
def tP (d:bc):xJ:=({d with au:=[]},d.au)
def Oz (s:xJ):bc:= {s.1 with au:=s.2}
theorem QI (d:bc) (k1 n k2 m:Nat):tN d k1 n k2 m=tN (tP d).1 k1 n k2 m:=rfl
theorem ae.aug {P:Program} {f:FuncId} {args:List PV} {sz:Nat} {l:List PV} {v:PV} (h:ae P f args [] (λr fp=>r=v∧fp=[.arr sz l])) (hl:an l):aK P f args (iQ KB sz l v):=by
 refine λΓ w vs h1 h2 h3 h4=>(h Γ w vs h1 h2 h3 h4).mono ?_;rintro e w' ⟨v',r,xD,Γ',e1,⟨rfl,rfl⟩,e3,e4,e5,e6,e7,e8⟩;have hg:get Γ'.bx KB=some (.arr sz l):=by rw[e5,fE];simp
 have hf:=Jt e4 hg (hl.refs _);refine⟨v',_,[],{Γ' with bx:=ma (Bk KB sz l) (del Γ'.bx KB)},e1,⟨rfl,rfl⟩,e3,BF e4 _ (λj blk cI hb=>(e4.blk j blk hb).iQ hf),?_,e6.iQ hf,?_,e8⟩
 ·rw[e5];simp[av]
 ·refine⟨e7.heap,λb hb hm=> ?_,e7.bX,e7.size,λk blk hk=> ?_⟩
  ·obtain⟨k,blk,g1,g2⟩:=hm;rw[e5]at g1;simp[av]at g1
  ·rw[h3]at hk;simp[av]at hk
theorem QJ {d:bc} (hm:Kb d) (h:sT (tP d)) {to:Int} (h0:d.now≤to) (h1:to≤1099511627776) (h2:to≤d.now+60000) {N:Nat} (hE:Ends to (tP d) N) (hN:(tr N (tP d)).2.length≤1000000)
  {x y:PV} {b:List UInt8} (hx:Pure x) (hw:x.width=18) (hwk:wk x=x) (hy:Pure y) (Tq:wk y=y):
  ae Pg 7 [eX d,.st 22 [.int .i64 3,x,aP b,.int .i64 to,y]] [] (λr fp=>r= .tup [eX (Oz (fin to (tr N (tP d)).1)),.rs KB [] 0 (tr N (tP d)).2.length (tr N (tP d)).2.length 86 .tip]∧fp=[.arr 86 (tr N (tP d)).2]):=by
 have hT:=al7 h h0 h1 h2 hE;have hO:=(qF h h0 h1 N hE.1).2.2.2.2.1;refine ae.intro T.Gs (by simp[F.Gs,F.gu]) ?_;simp[F.Gs,F.gu,mP,aj,av];refine SE.of (λs'=>s'=⟨[(3,.pt 3 [] 0),(4,.pt 4 [] 0),(5,.sl 86 [] true),(6,.pt 11 [] 0)],[(3,.box (.st 22 [.int .i64 3,x,aP b,.int .i64 to,y])),(4,.box zPs),(11,.box (tN d 108 d.au.length 200 0)),(108,.arr 464 (d.au.map aQ)),(200,.arr 86 [])]⟩) ?_ ?_
 ·simp;refine ai.gA [] [108] [] (kH hm) (by simp) (by simp) (by simp[ab,af,c9]) ?_;simp[aI,az,aE,cU];refine⟨[.keep [3,4,5,6],.dr 2,.vb 11 [.f 1 148] 200 86],?_⟩;simp[bt,b8,af,ab,ah];exact⟨⟨hx.refs _,hy.refs _⟩,rfl,rfl⟩
 rintro s' rfl;rw[QI];generalize hs:tP d=s at*;have hp:d.au=s.2:=by rw[←hs];rfl
 rw[hp];simp[hw];generalize tr N s=q at*;obtain⟨⟨d',Be⟩,O'⟩:=q;refine ai.mo 11 108 200 (L:=[]) (hT [] (by simp) (by simpa using hN)) (by simp) (by simp) (by simp) (by simp) vY (by simp[ah,af,bR,idx]) (by simp[aR,aE,bz,idx]) ?_;rintro r fp ⟨rfl,rfl⟩;refine⟨_,_,_,rfl,by simp,hO,?_⟩;simp;refine lH.run [4] rfl ?_;simp;refine aA.with [.keep [4,5],.dr 3,.dr 11,.fz 108] [200] ?_;simp[bt,b8,af,ab,ah,hO.refs,hO.iQ];exact⟨rfl,hO.aE _⟩
theorem QK {d:bc} (hm:Kb d) (h:sT (tP d)) {to:Int} (h0:d.now≤to) (h1:to≤1099511627776) (h2:to≤d.now+60000) {N:Nat} (hE:Ends to (tP d) N) (hN:(tr N (tP d)).2.length≤1000000)
  {x y:PV} {b:List UInt8} (hx:Pure x) (hw:x.width=18) (hwk:wk x=x) (hy:Pure y) (Tq:wk y=y):
  aK Pg 7 [eX d,.st 22 [.int .i64 3,x,aP b,.int .i64 to,y]] (.tup [eX (Oz (fin to (tr N (tP d)).1)),.sl 86 (tr N (tP d)).2 false]):=by
 have hO:=(qF h h0 h1 N hE.1).2.2.2.2.1;have:=ae.aug (QJ hm h h0 h1 h2 hE hN hx hw hwk hy Tq (b:=b)) hO;simpa[iQ,jh,(E2 _).iQ,tJ]using this
def Im:List UInt8:=[69,0,0,20,0,0,0,0,0,0,0,0,10,0,0,1,10,1,0,1]
theorem V5:aK Pg 34 [cP (gh 0 1),cP (gh 1 1),.int .i64 0,.int .u8 0] (aP Im):=by
 refine ae.intro (aC R.nu.2) (by simp[R.nu]) ?_;have h0:(gh 0 1).ip=[10,0,0,1,0,0,0,0,0,0,0,0,0,0,0,0]:=rfl;have h1:(gh 1 1).ip=[10,1,0,1,0,0,0,0,0,0,0,0,0,0,0,0]:=rfl;have w:IntKind.i64.wrap 20=20:=by decide
 have w2:IntKind.u8.wrap (Int.fdiv 20 (2^min 8 IntKind.i64.bits))=0:=by decide
 simp[R.nu,aj,av,w,h0,h1,w2];refine mM.G8 0 (mM.z ?_);simp[↓al];refine aA.plain [.keep [8],.dr 4,.dr 5,.fz 13,.wk 8] ?_;simp[bt,b8,af,ab,ah];rfl
def ad4 (a b c d:UInt8):iI:=⟨false,[a,b,c,d,0,0,0,0,0,0,0,0,0,0,0,0],rfl⟩
theorem auh:zr 16 (.int .u8 0)=[.int .u8 0,.int .u8 0,.int .u8 0,.int .u8 0,.int .u8 0,.int .u8 0,.int .u8 0,.int .u8 0,.int .u8 0,.int .u8 0,.int .u8 0,.int .u8 0,.int .u8 0,.int .u8 0,.int .u8 0,.int .u8 0]:=by rw[cg];rfl
theorem ZH (a b c d:UInt8):aK Pg 102 [aP [a,b,c,d]] (cP (ad4 a b c d)):=by
 refine ae.intro (aC R.xu.2) (by simp[R.xu]) ?_;simp[R.xu,aj,av,aP,auh];refine aA.plain [] ?_;simp;rfl
def V6:PV:= .st 35 [cP (ad4 10 0 0 1),cP (ad4 10 1 0 1),.int .i64 20]
theorem Io:aK Pg 62 [aP Im] (.tup [V6,.int .i64 0]):=by
 have h1:=ZH 10 0 0 1;have h2:=ZH 10 1 0 1;have h3:=QL (l:=[0,20]) (by simp);rw[show I8 [0,20]=20 by decide]at h3;have e:aP Im= .sl 1 [.int .u8 69,.int .u8 0,.int .u8 0,.int .u8 20,.int .u8 0,.int .u8 0,.int .u8 0,.int .u8 0,.int .u8 0,.int .u8 0,.int .u8 0,.int .u8 0,.int .u8 10,.int .u8 0,.int .u8 0,.int .u8 1,.int .u8 10,.int .u8 1,.int .u8 0,.int .u8 1] false:=rfl;have h1:aK Pg 102 [.sl 1 [.int .u8 10,.int .u8 0,.int .u8 0,.int .u8 1] false] (cP (ad4 10 0 0 1)):=h1;have h2:aK Pg 102 [.sl 1 [.int .u8 10,.int .u8 1,.int .u8 0,.int .u8 1] false] (cP (ad4 10 1 0 1)):=h2;have h3:aK Pg 103 [.sl 1 [.int .u8 0,.int .u8 20] false] (.int .u64 20):=h3;have s4:Int.fdiv 69 (2^min 4 IntKind.u8.bits)=4:=by decide
 have a15:bits .and .u8 69 15=5:=by decide
 have w20:IntKind.i64.wrap 20=20:=by decide
 have w5:IntKind.i64.wrap 5=5:=by decide
 rw[e];refine ae.intro T.oJ (by simp[F.oJ]) ?_;simp[F.oJ,aj,av,s4];refine aN.rA h1 ?_;simp;refine aN.rA h2 ?_;simp;refine aN.rA h3 ?_;simp[a15,w20,w5];refine aA.plain [] ?_;simp[V6]
theorem V7:aK Pg 61 [aP Im] (.tup [aP Im,.int .i64 0]):=by
 have hC:=Io;have hL:=Dx (b:=Im) (by decide);have hL:aK Pg 101 [.sl 1 (Im.map u8) false] (.sl 1 (Im.map u8) false):=hL;have hl:Im.length=20:=rfl;unfold V6 at hC;unfold aP at hC⊢;generalize Im=b at*;refine ae.intro (aC R.xv.2) (by simp[R.xv]) ?_;simp[R.xv,aj,av];refine ai.rA hC ?_;simp[hl,tJ];refine ai.rA hL ?_;simp;refine aA.plain [] ?_;simp
theorem QM:aK Pg 110 [.sl 1 [] false] (.sl 1 [] true):=by
 refine ae.intro (aC R.tQ.2) (by simp[R.tQ]) ?_;simp[R.tQ,aj,av];refine mM.G8 0 (mM.z ?_);simp[↓al];refine aA.plain [] ?_;simp
theorem ac3:aK Pg 65 [gz [],.int .i64 4,aP Im] (.tup [gz [Im],.int .i64 0]):=by
 have hC:=QM;have hL:=Dx (b:=Im) (by decide);unfold gz;refine ae.intro (aC R.xw.2) (by simp[R.xw]) ?_;have hm:max (0:Int) (IntKind.i64.wrap (1-max 0 4))=0:=by decide
 simp[R.xw,aj,av];refine ai.rA hC ?_;simp;refine ai.rA hL ?_;simp[hm];refine aA.plain [.keep [6,7],.fz 16,.wk 6] ?_;simp
def yP (p:bO):bO:= {p with dI:=[Im]}
theorem V8 {d d':bc} {ps:List bO} {i:Nat} (hi:i<ps.length) (he:ps[i].iU=true) (qT:ps[i].dI.length=1) (h0:0≤d.now) (h9:d.now≤9000000000000000000) (uf:0≤ps[i].ring.c.nn.born) (hc:J9 d ps[i]=false) {p':bO} {O:List PV} (hO:an O)
  (hM:MC 112 [.pt (KB+1) [.i i 464] ps.length] d ps (.tup []) d' (ps.set i p') O):MC 66 [.pt (KB+1) [.i i 464] ps.length] d ps (.tup []) d' (ps.set i p') O:=by
 have hx:ps[i]? =some ps[i]:=gJ hi;have hC:=Ih h0 h9 hi uf;rw[hc]at hC;intro L hL hb;have ux:=hL.append hO;refine ae.intro T.fF (by simp[F.fF]) ?_;simp[F.fF,aj,av,MB,hi,he,qT];refine ai.BP hC hL (by simp;omega) (by simp) ?_;simp;refine ai.BP hM hL hb hO ?_;simp;refine aA.with [] [KB,KB+1,KB+2] ?_;simp[dj,ux.refs,ux.aE]
theorem V9 {d d':bc} {a:iI} {k:Key} (hr:d.bH=[Dm a k]) (h6:a.sO=false) (hv:wD ⟨a,16⟩=true) (awh:∀i,i<16->rU (ad4 10 1 0 1) i=rU a i) {p p':bO} (hp:p.cH=k) (By:p.dI=[]) (h4:d.rules.vh=4) {O:List PV} (hO:an O)
  (hM:MC 66 [.pt (KB+1) [.i 0 464] 1] d [yP p] (.tup []) d' [p'] O):MC 26 [aP Im] d [p] (.bl true) d' [p'] O:=by
 have hT:=V7;have hC:=Io;have hL:=Vw (b:=ad4 10 1 0 1) h6 rfl (by decide) k hv awh;have hF:=Zx d (ps:=[p]) (by simp) (k:=k) (i:=0) (by simp) (by simp[lQ,hp]);have hP:=ac3;intro L hL0 hb;have ux:=hL0.append hO;unfold V6 at hC;rw[←hr]at hL;refine ae.intro T.fG (by simp[F.fG]) ?_;simp[F.fG,aj,av,MB];refine ai.rA hT ?_;simp;refine ai.rA hC ?_;simp;refine lH.run [9] rfl ?_;simp;refine aN.rA hL ?_;simp;refine ai.BP hF hL0 (by simp;omega) (by simp) ?_;simp[By,h4];refine aN.rA hP ?_;simp;unfold yP at hM;refine ai.BP hM hL0 hb hO ?_;simp;refine aA.with [.keep [4],.dr 7,.dr 9] [KB,KB+1,KB+2] ?_;simp[ux.refs,ux.aE,bt,b8,af,ab,ah]
def uE {α:Type} (n:Nat) (k:Nat->α):α:=Nat.rec (motive:=λ_=>α) (k 0) (λm _=>k (m+1)) n
theorem wU {α:Type} (n:Nat) (k:Nat->α):uE n k=k n:=by cases n<;>rfl
def NI {α:Type}:List Nat->(List Nat->α)->α
 |[],k=>k []
 |x::r,k=>uE x λy=>NI r λs=>k (y::s)
theorem uk {α:Type}:∀(l:List Nat) (k:List Nat->α),NI l k=k l
 |[],_=>rfl
 |x::r,k=>by rw[NI,wU,uk r]
def roN (n k:Nat):Nat:=n/2^k|||n*2^(32-k)%4294967296
theorem amc (x:UInt32) (k:Nat):(ro x k).toNat=roN x.toNat k:=by
 have hx:=x.toNat_lt;have l1:x.toNat/2^k<4294967296:=JfV (Nat.div_le_self _ _) hx;have l2:x.toNat*2^(32-k)%4294967296<4294967296:=JdZ _ (by decide);have l3:x.toNat/2^k|||x.toNat*2^(32-k)%4294967296<2^32:=JoV (n:=32) l1 l2;rw[ro,JpV,JiJ l3,roN]
def tb (n:Nat) (v:Nat->UInt32):List Nat:=(List.range n).map λi=>(v i).toNat
theorem vr {n:Nat} (v:Nat->UInt32) {i:Nat} (h:i<n):(tb n v).getD i 0=(v i).toNat:=by simp[tb,JaV,h]
theorem QN {n:Nat} {f g:Nat->UInt32} (h:∀i,i<n->f i=g i):tb n f=tb n g:=
 JpW λi hi=>by rw[h i (JiX.1 hi)]
theorem ac4 (n:Nat) (f:Nat->UInt32) (i:Nat) (x:UInt32):(tb n f).set i x.toNat=tb n (oD f i x):=by
 apply JjW;intro j;by_cases hj:j<n
 ·by_cases h:i=j
  ·subst h;simp[tb,hj,oD]
  ·simp[tb,h,hj,oD,Ne.symm h]
 ·rw[List.getElem?_eq_none (by simp[tb];omega),List.getElem?_eq_none (by simp[tb];omega)]
theorem aui (a b:UInt32):(a.toNat+b.toNat)%4294967296=(a+b).toNat:=(UInt32.toNat_add a b).symm
def Wa {α:Type} (l:List Nat) (a b c d x y:Nat) (k:List Nat->α):α:=
 uE (l.getD a 0) λva=>uE (l.getD b 0) λvb=>uE (l.getD c 0) λvc=>uE (l.getD d 0) λvd=>
 uE (((va+vb)%4294967296+x)%4294967296) λa1=>uE (roN (vd^^^a1) 16) λd1=>uE ((vc+d1)%4294967296) λc1=>uE (roN (vb^^^c1) 12) λb1=>
 uE (((a1+b1)%4294967296+y)%4294967296) λa2=>uE (roN (d1^^^a2) 8) λd2=>uE ((c1+d2)%4294967296) λc2=>uE (roN (b1^^^c2) 7) λb2=>
 NI ((((l.set a a2).set d d2).set c c2).set b b2) k
theorem QO {α:Type} (v:Nat->UInt32) {a b c d:Nat} (ha:a<16) (hb:b<16) (hc:c<16) (hd:d<16) (Sp:a≠b) (hac:a≠c) (had:a≠d) (hbc:b≠c) (hbd:b≠d) (hcd:c≠d) (x y:UInt32) (k:List Nat->α):
  Wa (tb 16 v) a b c d x.toNat y.toNat k=k (tb 16 (Dy v a b c d x y)):=by
 simp only[Wa,wU,uk,vr v ha,vr v hb,vr v hc,vr v hd];simp only[aui,←UInt32.toNat_xor,←amc,ac4];congr 1;apply QN;intro j _;simp only[Dy,mxA,mxC,S8,oD];simp only[Sp,hac,had,hbc,hbd,hcd,Ne.symm Sp,Ne.symm hac,Ne.symm had,Ne.symm hbc,Ne.symm hbd,Ne.symm hcd,if_true,if_false];by_cases h1:j=a
 ·subst h1;simp[Sp,hac,had]
 ·by_cases h2:j=b
  ·subst h2;simp
  ·by_cases h3:j=c
   ·subst h3;simp[h2]
   ·by_cases h4:j=d
    ·subst h4;simp[h2,h3]
    ·simp[h1,h2,h3,h4]
def h1N {α:Type} (ml row l:List Nat):Nat->(List Nat->α)->α
 |0,k=>k l
 |i+1,k=>h1N ml row l i λl'=>Wa l' i (4+i) (8+i) (12+i) (ml.getD (row.getD (2*i) 0) 0) (ml.getD (row.getD (2*i+1) 0) 0) k
def h2N {α:Type} (ml row l:List Nat):Nat->(List Nat->α)->α
 |0,k=>k l
 |i+1,k=>h2N ml row l i λl'=>Wa l' i (4+(i+1)%4) (8+(i+2)%4) (12+(i+3)%4) (ml.getD (row.getD (8+2*i) 0) 0) (ml.getD (row.getD (9+2*i) 0) 0) k
theorem ZI {α:Type} (m v:Nat->UInt32) {r:Nat} (hr:r<10):∀(i:Nat),i≤4->∀(k:List Nat->α),h1N (tb 16 m) (sgT.getD r []) (tb 16 v) i k=k (tb 16 (qV m (sg r) v i))
 |0,_,_=>rfl
 |
  i+1,h,k=>by
  rw[h1N,ZI m v hr i (by omega),qV]
  have e1:=vr m (Dz r hr (2*i) (by omega))
  have e2:=vr m (Dz r hr (2*i+1) (by omega))
  unfold sg at e1 e2
  rw[e1,e2,QO _ (by omega) (by omega) (by omega) (by omega) (by omega) (by omega) (by omega) (by omega) (by omega) (by omega)]
  rfl
theorem ZJ {α:Type} (m v:Nat->UInt32) {r:Nat} (hr:r<10):∀(i:Nat),i≤4->∀(k:List Nat->α),h2N (tb 16 m) (sgT.getD r []) (tb 16 v) i k=k (tb 16 (wH m (sg r) v i))
 |0,_,_=>rfl
 |
  i+1,h,k=>by
  rw[h2N,ZJ m v hr i (by omega),wH]
  have e1:=vr m (Dz r hr (8+2*i) (by omega))
  have e2:=vr m (Dz r hr (9+2*i) (by omega))
  unfold sg at e1 e2
  rw[e1,e2,QO _ (by omega) (by omega) (by omega) (by omega) (by omega) (by omega) (by omega) (by omega) (by omega) (by omega)]
  rfl
def rdN {α:Type} (ml l:List Nat):Nat->(List Nat->α)->α
 |0,k=>k l
 |r+1,k=>rdN ml l r λl'=>h1N ml (sgT.getD r []) l' 4 λl''=>h2N ml (sgT.getD r []) l'' 4 k
theorem ZK {α:Type} (m v:Nat->UInt32):∀(r:Nat),r≤10->∀(k:List Nat->α),rdN (tb 16 m) (tb 16 v) r k=k (tb 16 (uF m v r))
 |0,_,_=>rfl
 |r+1,h,k=>by rw[rdN,ZK m v r (by omega),ZI m _ (by omega) 4 (by omega),ZJ m _ (by omega) 4 (by omega)];rfl
def inN (h:List Nat) (t:Nat) (last:Bool):List Nat:=
 h++[1779033703,3144134277,1013904242,2773480762,1359893119^^^t%4294967296,2600822924^^^t/4294967296%4294967296,cond last 3766232660 528734635,1541459225]
theorem ac5:List.range 8=[0,1,2,3,4,5,6,7]:=rfl
theorem Wb:List.range 16=[0,1,2,3,4,5,6,7,8,9,10,11,12,13,14,15]:=rfl
theorem ame (h:Nat->UInt32) (t:Nat) (last:Bool):inN (tb 8 h) t last=tb 16 (Eh h t last):=by
 cases last<;>simp[inN,tb,ac5,Wb,Eh,Gt,uG,oD,Ls,ivT]
def cmN {α:Type} (h ml:List Nat) (t:Nat) (last:Bool) (k:List Nat->α):α:=
 NI (inN h t last) λl=>rdN ml l 10 λv=>NI ((List.range 8).map λi=>h.getD i 0^^^(v.getD i 0^^^v.getD (i+8) 0)) k
theorem amf {α:Type} (h m:Nat->UInt32) (t:Nat) (last:Bool) (k:List Nat->α):cmN (tb 8 h) (tb 16 m) t last k=k (tb 8 (vn h m t last)):=by
 rw[cmN,uk,ame,ZK m _ 10 (by omega),uk];congr 1
def nB (l:List UInt8):List Nat:=l.map UInt8.toNat
theorem rz (l:List UInt8) (i:Nat):(nB l).getD i 0=(l.getD i 0).toNat:=by
 simp only[nB,JaV,List.getElem?_map];cases l[i]? <;>rfl
def wdN (l:List Nat) (i:Nat):Nat:=l.getD (4*i) 0+l.getD (4*i+1) 0*256+l.getD (4*i+2) 0*65536+l.getD (4*i+3) 0*16777216
theorem amg {b:List UInt8} (hb:b.length=64) {i:Nat} (hi:i<16):wdN (nB b) i=(tG b i).toNat:=by
 have g:∀j,j<4->((b.drop (4*i)).take 4).getD j 0=b.getD (4*i+j) 0:=λj hj=>by
  simp[JaV,hj,List.getElem?_drop]
 have h0:=(b.getD (4*i) 0).toNat_lt;have h1:=(b.getD (4*i+1) 0).toNat_lt;have h2:=(b.getD (4*i+2) 0).toNat_lt;have h3:=(b.getD (4*i+3) 0).toNat_lt;rw[tG,JpV,wdN,rz,rz,rz,rz];simp only[te,g 0 (by omega),g 1 (by omega),g 2 (by omega),g 3 (by omega),JnQ];simp only[Nat.reducePow];rw[JiJ (by omega)];omega
def blN (d:List Nat) (i:Nat):List Nat:=(d.drop (64*i)).take 64++List.replicate (64-((d.drop (64*i)).take 64).length) 0
theorem amh (d:List UInt8) (i:Nat):blN (nB d) i=nB (tH d i):=by simp[blN,nB,tH]
def hsN {α:Type} (d:List Nat) (nb:Nat):Nat->(List Nat->α)->α
 |0,k=>k [1795745351,3144134277,1013904242,2773480762,1359893119,2600822924,528734635,1541459225]
 |i+1,k=>hsN d nb i λh=>NI (blN d i) λb=>NI ((List.range 16).map (wdN b)) λm=>cmN h m (cond (Nat.beq i nb) d.length (64*(i+1))) (Nat.beq i nb) k
theorem yQ (i n:Nat):Nat.beq i n=decide (i=n):=by
 rw[Bool.eq_iff_iff,decide_eq_true_iff];exact Iff.of_eq Nat.beq_eq
theorem ZL {α:Type} (d:List UInt8):∀(i:Nat) (k:List Nat->α),hsN (nB d) (qQ d) i k=k (tb 8 (Ip d i))
 |
  0,k=>by
  rw[hsN];congr 1
 |
  i+1,k=>by
  rw[hsN,ZL d i,uk,uk,amh]
  have e:(List.range 16).map (wdN (nB (tH d i)))=tb 16 (tG (tH d i)):=JpW λj hj=>amg (vo d i) (JiX.1 hj)
  rw[e,amf,Ip,yQ]
  congr 3
  by_cases h:i=qQ d<;>simp[h,nB]
def ouN (h:List Nat):List Nat:=h.flatMap λx=>[x%256,x/256%256,x/65536%256,x/16777216%256]
theorem aum (n:Nat):nB (cD n 4)=[n%256,n/256%256,n/65536%256,n/16777216%256]:=by
 simp[nB,cD,S9,show List.range 4=[0,1,2,3] from rfl,JnW]
theorem ZM (h:Nat->UInt32):∀i,ouN (tb i h)=nB (xH h i)
 |0=>rfl
 |
  i+1=>by
  have e:tb (i+1) h=tb i h++[(h i).toNat]:=by simp[tb,List.range_succ]
  rw[e,ouN,List.flatMap_append,←ouN,ZM h i,xH]
  rw[nB,nB,JeV,←nB,←nB,aum]
  simp
def haN {α:Type} (d:List Nat) (k:List Nat->α):α:=hsN d ((d.length-1)/64) ((d.length-1)/64+1) λh=>NI (ouN h) k
theorem ZN {α:Type} (d:List UInt8) (k:List Nat->α):haN (nB d) k=k (nB (iV d).l):=by
 rw[haN,show((nB d).length-1)/64=qQ d by simp[nB,qQ],ZL,uk,ZM];rfl
def ikN (key:List Nat) (c:Nat):List Nat:=(List.range 64).map λj=>key.getD j 0^^^c
theorem ZO (key:List UInt8) (c:UInt8):ikN (nB key) c.toNat=nB (uH key c):=by
 have e:nB (uH key c)=(List.range 64).map λj=>(kx key j^^^c).toNat:=by simp[nB,uH]
 rw[e,ikN];exact JpW λj _=>by rw[rz,UInt8.toNat_xor];rfl
def Vy {α:Type} (key ps:List Nat) (k:List Nat->α):α:=NI (ikN key 54++ps) λa=>haN a λh=>NI (ikN key 92++h) λb=>haN b k
theorem QP {α:Type} (key:List UInt8) (ps:List (List UInt8)) (k:List Nat->α):Vy (nB key) (nB ps.flatten) k=k (nB (qH key ps).l):=by
 have e1:ikN (nB key) 54++nB ps.flatten=nB (uH key 54++ps.flatten):=by rw[show(54:Nat)=(54:UInt8).toNat from rfl,ZO];simp[nB]
 rw[Vy,uk,e1,ZN,uk];have e2:∀h:Key,ikN (nB key) 92++nB h.l=nB (uH key 92++h.l):=λh=>by rw[show(92:Nat)=(92:UInt8).toNat from rfl,ZO];simp[nB]
 rw[e2,ZN];rfl
def xpN {α:Type} (key inp:List Nat) (k:List Nat->List Nat->α):α:=Vy key inp λt=>Vy t [1] λa=>NI (a++[2]) λa2=>Vy t a2 λb=>k a b
theorem amj {α:Type} (key inp:List UInt8) (k:List Nat->List Nat->α):xpN (nB key) (nB inp) k=k (nB (uD key inp).l) (nB (Gm key inp).l):=by
 have h0:= @QP α key [inp];simp only[JrW,List.flatten_nil,JgV]at h0;rw[xpN,h0];have h1:= @QP α (qH key [inp]).l [[],[1]];rw[show nB ([[],[1]]:List (List UInt8)).flatten=[1] from rfl]at h1;rw[h1,uk];have h2:= @QP α (qH key [inp]).l [(uD key inp).l,[2]];rw[show nB ([(uD key inp).l,[2]]:List (List UInt8)).flatten=nB (uD key inp).l++[2] by simp[nB]]at h2;exact h2 _
def pN:Nat:=57896044618658097711785492504343953926634992332820282019728792003956564819949
def Vl (a:Fe) (n:Nat):Prop:=vF a%Bp=(n:Int)
theorem Vl.mul {a b:Fe} {m n:Nat} (h1:Vl a m) (h2:Vl b n):Vl (gj a b) (m*n%pN):=by
 obtain⟨k,hk⟩:=Kc a b;unfold Vl at*;rw[hk,JjX,Int.mul_emod,h1,h2,Int.natCast_emod,JqZ];rfl
theorem Vl.add {a b:Fe} {m n:Nat} (h1:Vl a m) (h2:Vl b n):Vl (qW a b) ((m+n)%pN):=by
 unfold Vl Bp at*;rw[QQ];unfold pN;omega
theorem Vl.sub {a b:Fe} {m n:Nat} (h1:Vl a m) (h2:Vl b n) (hb:b.Le PB):Vl (pJ a b) ((m+(pN-n))%pN):=by
 unfold Vl at*;rw[QR (hb.mono (by decide))];unfold Bp at*;unfold pN;omega
def stN {α:Type} (x1 x2 z2 x3 z3 b:Nat) (k:Nat->Nat->Nat->Nat->Nat->α):α:=
 uE ((x2+z2)%pN) λa=>uE ((x2+(pN-z2))%pN) λc=>uE (a*a%pN) λaa=>uE (c*c%pN) λbb=>uE ((aa+(pN-bb))%pN) λe=>
 uE ((x3+(pN-z3))%pN) λf=>uE (f*a%pN) λda=>uE ((x3+z3)%pN) λg=>uE (g*c%pN) λcb=>uE ((da+cb)%pN) λs=>uE ((da+(pN-cb))%pN) λd=>
 uE (aa*bb%pN) λy2=>uE (e*121665%pN) λe2=>uE ((e2+aa)%pN) λe3=>uE (e3*e%pN) λw2=>uE (s*s%pN) λy3=>uE (d*d%pN) λdd=>uE (dd*x1%pN) λw3=>k y2 w2 y3 w3 b
structure VL (L:Lad) (x2 z2 x3 z3 b:Nat):Prop where
 x2:Vl L.x2 x2
 z2:Vl L.z2 z2
 x3:Vl L.x3 x3
 z3:Vl L.z3 z3
 l:L.last=(b:Int)
theorem ZP {X1 X2 Z2 X3 Z3:Fe} {x1 x2 z2 x3 z3 b:Nat} (h1:Vl X1 x1) (a2:X2.Le PB) (b2:Z2.Le PB) (a3:X3.Le PB) (b3:Z3.Le PB) (g2:Vl X2 x2) (f2:Vl Z2 z2) (g3:Vl X3 x3) (f3:Vl Z3 z3):
  ∃y2 w2 y3 w3,(∀ {α:Type} (k:Nat->Nat->Nat->Nat->Nat->α),stN x1 x2 z2 x3 z3 b k=k y2 w2 y3 w3 b)∧VL (Iq X1 X2 Z2 X3 Z3 b) y2 w2 y3 w3 b:=by
 have ha:=jU a2 b2;have hb:=kW (b:=Z2) a2;have Ft:=cZ hb hb;have Mp:=cZ (jU a3 b3) hb;have va:=g2.add f2;have vb:=g2.sub f2 b2;have vaa:=va.mul va;have vbb:=vb.mul vb;have ve:=vaa.sub vbb Ft;have vda:=(g3.sub f3 b3).mul va;have vcb:=(g3.add f3).mul vb;have vs:=vda.add vcb;have vd:=vda.sub vcb Mp;have vc:Vl cF 121665:=by unfold Vl;decide
 exact⟨_,_,_,_,λk=>by simp only[stN,wU],vaa.mul vbb,((ve.mul vc).add vaa).mul ve,vs.mul vs,(vd.mul vd).mul h1,rfl⟩
theorem QS:Vl xy 1:=by unfold Vl;decide
theorem ac8:Vl Ir 0:=by unfold Vl;decide
def QT {α:Type} (n:List Nat) (x1:Nat):Nat->(Nat->Nat->Nat->Nat->Nat->α)->α
 |0,k=>k 1 0 x1 1 0
 |i+1,k=>QT n x1 i λx2 z2 x3 z3 l=>uE (n.getD ((254-i)/8) 0/2^((254-i)%8)%2) λb=>cond (Nat.beq b l) (stN x1 x2 z2 x3 z3 b k) (stN x1 x3 z3 x2 z2 b k)
theorem aun (n:Key) (t:Nat):Ei n t=(((nB n.l).getD (t/8) 0/2^(t%8)%2:Nat):Int):=by
 have hx:=(n.l.getD (t/8) 0).toNat_lt;rw[rz,Ei];generalize (n.l.getD (t/8) 0).toNat=x at*;have h8:min (t%8) 8=t%8:=by omega
 rw[h8,show((2:Int)^(t%8))=((2^(t%8):Nat):Int) by simp,JgZ _ (JkV _),←JlV];have hq:x/2^(t%8)<256:=JfV (Nat.div_le_self _ _) hx;generalize x/2^(t%8)=y at*;rw[show(1:Int)=((1:Nat):Int) from rfl,u8_and_nat _ _ hq (by decide),Nat.and_one_is_mod]
theorem QU (n:Key) {X1:Fe} {x1:Nat} (h1:Vl X1 x1) (hX:X1.Le PB):∀i,∃x2 z2 x3 z3 b,(∀ {α:Type} (k:Nat->Nat->Nat->Nat->Nat->α),QT (nB n.l) x1 i k=k x2 z2 x3 z3 b)∧VL (jn n X1 i) x2 z2 x3 z3 b
 |0=>⟨1,0,x1,1,0,λ_=>rfl,QS,ac8,h1,QS,rfl⟩
 |
  i+1=>by
  obtain⟨x2,z2,x3,z3,b,hk,hv⟩:=QU n h1 hX i
  have ok:=BS n hX i
  have hb:=aun n (254-i)
  unfold jn
  rw[hb,hv.l]
  by_cases h:(nB n.l).getD ((254-i)/8) 0/2^((254-i)%8)%2=b
  ·obtain⟨y2,w2,y3,w3,e,g⟩:=ZP (b:=b) h1 ok.D0 ok.hz2 ok.hx3 ok.hz3 hv.x2 hv.z2 hv.x3 hv.z3
   refine⟨y2,w2,y3,w3,b,λk=> ?_,?_⟩
   ·rw[QT,hk,wU,h,yQ,decide_eq_true rfl];exact e k
   ·rw[h,if_pos rfl];exact g
  ·obtain⟨y2,w2,y3,w3,e,g⟩:=ZP (b:=(nB n.l).getD ((254-i)/8) 0/2^((254-i)%8)%2) h1 ok.hx3 ok.hz3 ok.D0 ok.hz2 hv.x3 hv.z3 hv.x2 hv.z2
   refine⟨y2,w2,y3,w3,(nB n.l).getD ((254-i)/8) 0/2^((254-i)%8)%2,λk=> ?_,?_⟩
   ·rw[QT,hk,wU,yQ,decide_eq_false h];exact e k
   ·rw[if_neg (λhh=>h (Int.natCast_inj.1 hh))];exact g
def viN {α:Type} (a:Nat):Nat->(Nat->α)->α
 |0,k=>k 1
 |i+1,k=>viN a i λv=>uE (v*v%pN) λw=>cond (Nat.beq i 252||Nat.beq i 250) (k w) (uE (w*a%pN) k)
theorem QV {A:Fe} {a:Nat} (h:Vl A a):∀i,∃v,(∀ {α:Type} (k:Nat->α),viN a i k=k v)∧Vl (mR A i) v
 |0=>⟨1,λ_=>rfl,QS⟩
 |
  i+1=>by
  obtain⟨v,hk,hv⟩:=QV h i
  unfold mR
  by_cases hi:i=252∨i=250
  ·refine⟨_,λk=> ?_,by rw[if_pos hi];exact hv.mul hv⟩
   rw[viN,hk,wU,yQ,yQ]
   rcases hi with rfl|rfl<;>rfl
  ·refine⟨_,λk=> ?_,by rw[if_neg hi];exact(hv.mul hv).mul h⟩
   rw[viN,hk,wU,yQ,yQ,decide_eq_false (λe=>hi (.inl e)),decide_eq_false (λe=>hi (.inr e)),wU]
   rfl
def Ta {α:Type} (n:List Nat) (x1:Nat) (k:Nat->α):α:=
 NI ((n.set 0 (n.getD 0 0&&&248)).set 31 (n.getD 31 0&&&127|||64)) λc=>QT c x1 255 λx2 z2 x3 z3 l=>cond (Nat.beq l 1) (viN z3 255 λv=>uE (x3*v%pN) k) (viN z2 255 λv=>uE (x2*v%pN) k)
theorem ac9 (s p:Key) {L:Lad} (h:jn (I9 s) (pw p) 255=L):kV s p=if L.last=1 then Ej (gj L.x3 (mR L.z3 255))else Ej (gj L.x2 (mR L.z2 255)):=by
 subst h;unfold kV;rfl
theorem amk (s p:Key) {x1:Nat} (h:Vl (pw p) x1):∃m,(∀ {α:Type} (k:Nat->α),Ta (nB s.l) x1 k=k m)∧te (kV s p).l 32=m:=by
 obtain⟨x2,z2,x3,z3,b,hk,hv⟩:=QU (I9 s) h (DB p) 255;have ok:=BS (I9 s) (DB p) 255
 have ec:((nB s.l).set 0 ((nB s.l).getD 0 0&&&248)).set 31 ((nB s.l).getD 31 0&&&127|||64)=nB (I9 s).l:=by
  rw[rz,rz];simp[nB,I9,JfJ]
 obtain⟨L,hL⟩:∃L,jn (I9 s) (pw p) 255=L:=⟨_,rfl⟩
 rw[hL]at hv ok;rw[ac9 s p hL];by_cases hb:b=1
 ·obtain⟨v,hi,hw⟩:=QV hv.z3 255;have g:=ZQ (cZ (ok.hx3.mono gW) ((tU (ok.hz3.mono gW) 255).mono gW));rw[if_pos (by rw[hv.l,hb];rfl)];refine⟨x3*v%pN,λk=> ?_,Int.ofNat.inj (g.trans (hv.x3.mul hw))⟩;rw[Ta,uk,ec,hk,yQ,decide_eq_true hb,cond_true,hi,wU]
 ·obtain⟨v,hi,hw⟩:=QV hv.z2 255;have g:=ZQ (cZ (ok.D0.mono gW) ((tU (ok.hz2.mono gW) 255).mono gW));rw[if_neg (by rw[hv.l];exact λhh=>hb (Int.ofNat.inj hh))];refine⟨x2*v%pN,λk=> ?_,Int.ofNat.inj (g.trans (hv.x2.mul hw))⟩;rw[Ta,uk,ec,hk,yQ,decide_eq_false hb,cond_false,hi,wU]
theorem QW {s p:Key} {x1:Nat} (h:Vl (pw p) x1) (hn:Ta (nB s.l) x1 (λm=> !Nat.beq m 0)=true):kV s p≠zK:=by
 obtain⟨m,hk,hm⟩:=amk s p h;rw[hk]at hn;intro e;rw[e,show te zK.l 32=0 by decide]at hm;rw[←hm]at hn;exact absurd hn (by decide)
def k1:Key:=⟨1::List.replicate 31 0,rfl⟩
def k2:Key:=⟨2::List.replicate 31 0,rfl⟩
def R1:Key:=uD k2.l fj
def R2:Key:=uD R1.l fj
def R3:Key:=uD R2.l fj
def R4:Key:=uD R3.l fj
def e1:Key:=Gm R2.l fj
def e2:Key:=Gm R4.l fj
def ada:Bool:=
 xpN (nB k2.l) [100,114,97,119] λr1 _=>xpN r1 [100,114,97,119] λr2 _=>xpN r2 [100,114,97,119] λr3 a=>xpN r3 [100,114,97,119] λr4 _=>xpN r4 [100,114,97,119] λ_ b=>
  Ta a 9 (λm=> !Nat.beq m 0)&&(Ta b 9 (λm=> !Nat.beq m 0)&&Ta (nB k1.l) 9 (λm=> !Nat.beq m 0))
theorem adb:ada=(Ta (nB e1.l) 9 (λm=> !Nat.beq m 0)&&(Ta (nB e2.l) 9 (λm=> !Nat.beq m 0)&&Ta (nB k1.l) 9 (λm=> !Nat.beq m 0))):=by
 have h:([100,114,97,119]:List Nat)=nB fj:=rfl;unfold ada;rw[h];simp only[amj];rfl
theorem ade:ada=true:=by decide+kernel
theorem Kd:Vl (pw iZ) 9:=by unfold Vl;decide
theorem nz3:kV e1 iZ≠zK∧kV e2 iZ≠zK∧kV k1 iZ≠zK:=by
 have h:=ade;rw[adb,aJ,aJ]at h;exact⟨QW Kd h.1,QW Kd h.2.1,QW Kd h.2.2⟩
theorem auo {a:iI} (h6:a.sO=false) (hs:uC a=true):aK Pg 118 [cP a] (.str (Ke a)):=by
 have hV:=Wc a;rw[hs]at hV;refine ae.intro T.ie (by simp[F.ie]) ?_;simp[F.ie,aj,av];refine ai.rA hV ?_;simp[h6,↓al];refine eW.fD 4 (λ_=>True) [1,2,3,36] (λi=>[(3,.rs 3 [] 0 i i 1 .tip),(36,.int .i64 i)]) (λi=>[(3,.arr 1 ((Tb a i).map PV.str))]) [.keep [1,2,3,36],.vt 3 3 1] ?_;simp[show Tb a 0=[] from rfl];refine⟨λi hi K hK=> ?_,λK=> ?_⟩
 ·have As:i<a.ip.length:=by rw[a.h];omega
  have hx:a.ip[i]? =some a.ip[i]:=gJ As;have hb:=(a.ip[i]).toNat_lt;have hw:IntKind.i64.wrap ((a.ip[i]).toNat:Int)=((a.ip[i]).toNat:Int):=wrap_i64 (by omega);have hi4:(i:Int)<4:=by omega
  have hl:=Gu (a:=a) (n:=i) (by omega);rw[QX a hx]at hK;have aeO:(i:Int)<16:=by omega
  simp[↓al,hi4,aeO,hx,u8,hw];refine ai.rA (aml (n:=(a.ip[i].toNat:Int)) (by omega) (by omega)) ?_;simp[dM hi (by omega),hl];refine⟨⟨by omega,by omega⟩,[.keep [1,2,3,36]],?_⟩;simp;exact hK _ (by simp)
 ·have hl:=Gu (a:=a) (n:=4) (by omega);have hle:=(QY a).2
  have hj:=amm (rest:=[.str [46]]) (aup (xs:=Tb a 4) (sep:=[46]) (λh=>by rw[h]at hl;simp at hl) (by omega) (by unfold Ke at hle;omega) false) (by omega) (λx hx=>by
   obtain⟨y,_,rfl⟩:=JhW.1 hx;rfl) ((Wd _).refs _) (by simp[ah,af]) (by simp[fL,lP]) (by simp)
  simp only[JaX,hl]at hj;simp[↓al];refine ai.gA [3] [] [.arr 1 ((Tb a 4).map PV.str)] hj (by simp[ab]) (by simp[az]) (by simp[ab,af]) ?_;simp[aI,az,aE];refine aA.plain [] ?_;simp[Ke]
theorem auq {e:G6} (h6:e.addr.sO=false) (hs:uC e.addr=true) (h1:1≤e.port) (h2:e.port≤65535):∃l,l≠[]∧aK Pg 67 [ic e] (.str l):=by
 have hA:=auo h6 hs;have hb:=QY e.addr;generalize Ke e.addr=m at*;have hm:m≠[]:=by intro e;rw[e]at hb;simp at hb
 have k1:¬e.port<1:=by omega
 have k2:¬65535<e.port:=by omega
 have Ba:=Lib.itoa_length_le e.port (by omega) (by omega);refine⟨m++[58]++Lib.itoa e.port,by simp,?_⟩;refine ae.intro (aC R.jN.2) (by simp[R.jN]) ?_;simp[R.jN,aj,av];refine ai.rA hA ?_;simp[hm,k1,k2,h6];refine⟨by omega,?_⟩;refine ai.rA (aml (n:=e.port) (by omega) (by omega)) ?_;simp;refine⟨by omega,?_⟩;refine aA.plain [] ?_;simp
theorem amn (p:xG):aK Pg 258 [gC p] (.bl (!wD p)):=by
 refine ae.intro (aC R.oX.2) (by simp[R.oX]) ?_;simp[R.oX,aj,av];refine ai.rA (Ac p) ?_;simp;refine aA.plain [] ?_;simp
theorem aur {x:xG} (h:wD x=true):aK Pg 257 [.sl 18 [gC x] false,.fn (.func 258) [] []] (.bl false):=by
 have hp:=amn x;rw[h]at hp
 have hI:aK Pg 328 [.sl 18 [gC x] false,.fn (.func 258) [] []] (.int .i64 (-1)):=by
  refine ae.intro (aC R.du.2) (by simp[R.du]) ?_;simp[R.du,aj,av];refine mM.G8 1 (mM.s ?_);simp[↓al];refine ai.rA hp ?_;simp;refine⟨[.keep [0,1,6,7,8]],?_⟩;simp;refine mM.z ?_;simp[↓al];refine aA.plain [] ?_;simp
 refine ae.intro (aC R.dc.2) (by simp[R.dc]) ?_;simp[R.dc,aj,av];refine ai.rA hI ?_;simp;refine aA.plain [] ?_;simp
theorem QZ {p:Bo} {x:xG} (he:p.iU=true) (h6:p.ep.addr.sO=false) (hs:uC p.ep.addr=true) (h1:1≤p.ep.port) (h2:p.ep.port≤65535) (hk:p.jg=0) (ha:p.allowed=[x]) (hx:wD x=true):aK Pg 169 [fN p] (.bl true):=by
 obtain⟨tx,cI,hE⟩:=auq h6 hs h1 h2;have hC:=aur hx;refine ae.intro (aC R.rZ.2) (by simp[R.rZ]) ?_;simp[R.rZ,aj,av,he];refine ai.rA hE ?_;simp[cI,hk,oI,ha];refine ai.rA hC ?_;simp;refine aA.plain [] ?_;simp
theorem We {c:LB} {p:Bo} {x:xG} (hp:aK Pg 169 [fN p] (.bl true)) (hc:c.au=[p]) (ha:p.allowed=[x]) (h0:0≤c.port) (h1:c.port≤65535):aK Pg 82 [lR c] (.int .i64 0):=by
 have hV1:aK Pg 168 [fN p] (.bl false):=by
  refine ae.intro (aC R.nv.2) (by simp[R.nv]) ?_;simp[R.nv,aj,av];refine ai.rA hp ?_;simp;refine aA.plain [] ?_;simp
 have hI1:aK Pg 256 [.sl 85 [fN p] false,.fn (.func 168) [] []] (.int .i64 (-1)):=by
  refine ae.intro (aC R.aY.2) (by simp[R.aY]) ?_;simp[R.aY,aj,av];refine mM.G8 1 (mM.s ?_);simp[↓al];refine ai.rA hV1 ?_;simp;refine⟨[.keep [0,1,6,7,8]],?_⟩;simp;refine mM.z ?_;simp[↓al];refine aA.plain [] ?_;simp
 have hC1:aK Pg 167 [.sl 85 [fN p] false,.fn (.func 168) [] []] (.bl false):=by
  refine ae.intro (aC R.aW.2) (by simp[R.aW]) ?_;simp[R.aW,aj,av];refine ai.rA hI1 ?_;simp;refine aA.plain [] ?_;simp
 have hI2:ae Pg 256 [.sl 85 [] false,.fn (.func 170) [] [.pt KB [] 0]] [.box (fN p)] (λr fp=>r= .int .i64 (-1)∧fp=[.box (fN p)]):=by
  refine ae.intro (aC R.aY.2) (by simp[R.aY]) ?_;simp[R.aY,aj,av];refine mM.G8 0 (mM.z ?_);simp[↓al];refine aA.with [.keep [4]] [KB] ?_;simp[ab,az]
 have hC2:ae Pg 167 [.sl 85 [] false,.fn (.func 170) [] [.pt KB [] 0]] [.box (fN p)] (λr fp=>r= .bl false∧fp=[.box (fN p)]):=by
  refine ae.intro (aC R.aW.2) (by simp[R.aW]) ?_;simp[R.aW,aj,av];refine ai.gA [KB] [] [.box (fN p)] hI2 (by simp[ab]) (by simp[az]) (by simp[ab,af]) ?_;simp[aI,az,aE];refine aA.with [.keep [4]] [KB] ?_;simp[ab,az]
 have hIx:aK Pg 259 [.sl 18 [] false,gC x] (.int .i64 (-1)):=by
  refine ae.intro (aC R.dW.2) (by simp[R.dW]) ?_;simp[R.dW,aj,av];refine mM.G8 0 (mM.z ?_);simp[↓al];refine aA.plain [] ?_;simp
 have hCx:aK Pg 171 [.sl 18 [] false,gC x] (.bl false):=by
  refine ae.intro (aC R.dE.2) (by simp[R.dE]) ?_;simp[R.dE,aj,av];refine ai.rA hIx ?_;simp;refine aA.plain [] ?_;simp
 have k3:¬c.port<0:=by omega
 have k4:¬(65535:Int)<c.port:=by omega
 refine ae.intro (aC R.oY.2) (by simp[R.oY]) ?_;simp[R.oY,aj,av,hc,oW];refine mM.G8 1 (mM.s ?_);simp[↓al,oI,ha];refine⟨[.keep [1,2,3,12,13,14],.dr 5],?_⟩;simp;refine mM.z ?_;simp[↓al,k3,k4,hc,oW];refine ai.rA hC1 ?_;simp[hc,oW];refine mM.G8 1 (mM.s ?_);simp[↓al,hc,oW];refine ai.gA [8] [] [.box (fN p)] hC2 (by simp[ab]) (by simp[az]) (by simp[ab,af]) ?_;simp[aI,az,aE,oI,ha];refine mM.G8 1 (mM.s ?_);simp[↓al];refine ai.rA hCx ?_;simp;refine⟨[.keep [1,2,6,46,47,48,60,61,62],.dr 10],?_⟩;simp;refine mM.z ?_;simp[↓al];refine⟨[.keep [1,2,46,47,48],.dr 8],?_⟩;simp;refine mM.z ?_;simp[↓al];refine aA.plain [] ?_;simp
theorem amo {g:FuncId} {v:PV} (hv:Pure v):ae Pg 174 [.rs KB [] 0 0 0 50 .tip,.fn (.func g) [] [.pt (KB+1) [] 0]] [.arr 50 [],.box v] (λr fp=>r= .int .i64 (-1)∧fp=[.arr 50 [],.box v]):=by
 refine ae.intro (aC R.dK.2) (by simp[R.dK]) ?_;simp[R.dK,aj,av];refine mM.G8 0 (mM.z ?_);simp[↓al];refine aA.with [.keep [4]] [KB,KB+1] ?_;simp[ab,ah,az,aR,hv.refs,hv.aE]
theorem amp (t:vi):ae Pg 178 [.rs KB [] 0 0 0 50 .tip,.int .i64 0,.sl 50 [fY t] false] [.arr 50 []] (λr fp=>r= .rs KB [] 0 1 1 50 .tip∧fp=[.arr 50 [fY t]]):=by
 refine ae.intro (aC R.eH.2) (by simp[R.eH]) ?_;simp[R.eH,aj,av];refine aA.with [.keep [6]] [KB] ?_;simp[ab,ah,az,aR]
theorem amq {p:xG} (hp:wD p=true) (k:Key):aK Pg 85 [cY [],gC p,aG k] (.tup [cY [⟨p,k⟩],.int .i64 0]):=by
 have hv:=Ac p;rw[hp]at hv;have hI:∀g,ae Pg 174 [.rs KB [] 0 0 0 50 .tip,.fn (.func g) [] [.pt (KB+1) [] 0]] [.arr 50 [],.box (gC p)] (λr fp=>r= .int .i64 (-1)∧fp=[.arr 50 [],.box (gC p)]):=λg=>amo (Np p);have rD:u9 Pg 56 [.sl 50 [] false] 50 []:=me (bytes:=64) (aC R.ig.2) (by omega) (by simp) (by simp) (by omega);have hs:=amp ⟨p,k⟩;refine ae.intro (aC R.r9.2) (by simp[R.r9]) ?_;simp[R.r9,aj,av,cY];refine ai.rA hv ?_;simp;have Hf:PV.st 50 [gC p,aG k]=fY ⟨p,k⟩:=rfl;rw[Hf];refine ai.own 19 rD (by simp) (by simp) (by simp) (by simp) ?_;simp;refine ai.gA [19,4] [] [.arr 50 [],.box (gC p)] (hI 175) (by simp[ab,ah]) (by simp[az,aR]) (by simp[ab,af,ah]) ?_;simp[aI,az,aE,aR];refine ai.gA [19,4] [] [.arr 50 [],.box (gC p)] (hI 176) (by simp[ab,ah]) (by simp[az,aR]) (by simp[ab,af,ah]) ?_;simp[aI,az,aE,aR];have OL:=C8 ⟨p,k⟩;have hwt:wk (fY ⟨p,k⟩)=fY ⟨p,k⟩:=by simp
 generalize fY ⟨p,k⟩=t at*;refine ai.gen [19] [] [.arr 50 []] hs (by simp[getAll]) (by simp) (by simp) (by simp[ah,af,bR,idx,OL.refs]) (by simp[ab,ah]) (by simp[aR,aE,bz,idx,OL.aE,hwt]) (by simp[az,aR]) (by simp[ab,af,ah,c9,OL.refs]) ?_;simp[aI,az,aE,aR,cU,OL.aE];refine aA.plain [.keep [6,7],.fz 19] ?_;simp[OL]
end Go.Ab
