/- Each acting operation and each call does what its abstract reading says. No condition. -/
import Derived.Test.YtlcojgogfjlceaaGreatDoorEA2
import Derived.Laws.Append
import Derived.Laws.IdiomStrings
import Derived.OrdersIn
import Derived.RangeFuncSeq
import Derived.RangeFuncLeaves
import Derived.RangeFuncRecord
import Derived.MapKept
set_option linter.all false
namespace Go.Ab
variable [cK]
variable {P:Program} {nt:Nat} {ds:List Deferred} {s:St} {Γ:Cx} {a:Act} {w:World}
structure WF (w w':World):Prop where
 os:w'.os=w.os
 tape:w'.tape=w.tape
 output:w'.output=w.output
theorem WF.refl (w:World):WF w w:=⟨rfl,rfl,rfl⟩
theorem WF.trans {a b c:World} (h:WF a b) (k:WF b c):WF a c:=⟨k.os.trans h.os,k.tape.trans h.tape,k.output.trans h.output⟩
theorem aK.pW {Γ Γ':Cx} (hle:Ou Γ Γ'):∀ {p:PV} {v:Value},aK Γ p v->aK Γ' p v:=by
 have h1:∀ {p:PV} {v:Value},gI Γ p v->gI Γ' p v:=by
  intro p v h;cases p
  case un=>trivial
  case st w l=>obtain⟨cs,h1,h2⟩:=h;exact⟨cs,h1,h2.pW hle⟩
  case ar sz n l=>obtain⟨cs,h1,h2⟩:=h;exact⟨cs,h1,h2.pW hle⟩
  all_goals exact aD.pW hle h
 have h2:∀ {l:List PV} {vs:List Value},kI Γ l vs->kI Γ' l vs:=by
  intro l;induction l with
  |nil=>intro vs h;cases vs<;>simp_all [kI]
  |
   cons p l ih=>
   intro vs h
   cases vs with
   |nil=>simp[kI]at h
   |cons v vs=>simp only[kI]at h⊢;exact⟨h1 h.1,ih h.2⟩
 intro p;induction p using PV.rec (motive_2:=λ_=>True)with
 |gd b p ih=>intro v h;rw[aK]at h⊢;exact⟨λhb=>ih (h.1 hb),h.2⟩
 |tup l=>intro v h;simp only[aK]at h⊢;obtain⟨vs,e,h⟩:=h;exact⟨vs,e,h2 h⟩
 |un=>intro v h;simp[aK]
 |st w l=>intro v h;obtain⟨cs,e,h⟩:=h;exact⟨cs,e,h.pW hle⟩
 |ar sz n l=>intro v h;obtain⟨cs,e,h⟩:=h;exact⟨cs,e,h.pW hle⟩
 |nil=>trivial
 |cons=>trivial
 |_=>intro v h;exact aD.pW hle h
theorem aU.xz.pW {Γ Γ':Cx} (hle:Ou Γ Γ') {ob:Option Nat} {blk:aU} (hh:∀b,ob=some b->Γ'.heap[b]? =Γ.heap[b]?) (h:blk.xz Γ ob):blk.xz Γ' ob:=by
 cases blk with
 |
  box v=>
  obtain⟨b,c,e,h1,h2,h3⟩:=h
  exact⟨b,c,e,h1,by rw[hh b h1];exact h2,h3.pW hle⟩
 |
  arr sz l=>
  obtain⟨h1,h2,h3⟩:=h
  refine⟨h1,h2,?_⟩
  cases ob with
  |none=>exact h3
  |
   some b=>
   obtain⟨c,e,cs,rest,h4,h5,h6,h7⟩:=h3
   exact⟨c,e,cs,rest,by rw[hh b rfl];exact h4,h5,h6.pW hle,h7⟩
 |
  map b ks vs l=>
  obtain⟨h1,h2⟩:=h
  exact⟨h1,by rw[hh b h1];exact h2⟩
theorem aK.mono {Γ Γ':Cx} (hle:Le Γ Γ') {p:PV} {v:Value} (h:aK Γ p v):aK Γ' p v:=h.pW hle.c
theorem aU.xz.mono {Γ Γ':Cx} (hle:Le Γ Γ') {ob:Option Nat} {blk:aU} (hh:∀b,ob=some b->Γ'.heap[b]? =Γ.heap[b]?) (h:blk.xz Γ ob):blk.xz Γ' ob:=h.pW hle.c hh
theorem bS {h:Array Obj} {b:Nat} {o:Obj} (e:h[b]? =some o):b<h.size:=(Array.getElem?_eq_some_iff.1 e).1
theorem aU.xz.lt {blk:aU} {b:Nat} (h:blk.xz Γ (some b)):b<Γ.heap.size:=by
 cases blk with
 |box v=>obtain⟨b',c,e,h1,h2,h3⟩:=h;cases h1;exact bS h2
 |arr sz l=>obtain⟨_,_,c,e,cs,rest,h4,_⟩:=h;exact bS h4
 |map b0 ks vs l=>obtain⟨h1,es,clock,h2,_⟩:=h;cases h1;exact bS h2
theorem Mem.lt (hm:Mem Γ) {b:Nat} (h:Γ.gn b):b<Γ.heap.size:=by
 obtain⟨k,blk,hg,hb⟩:=h;have:=hm.blk k blk hg;rw[hb]at this;exact this.lt
theorem Mem.An (hm:Mem Γ):¬Γ.own Γ.heap.size:=by
 rintro(h|h)
 ·exact JtW _ (hm.lt h)
 ·exact JtW _ (hm.b9 _ h)
def Cx.push (Γ:Cx) (o:Obj):Cx:= {Γ with heap:=Γ.heap.push o}
def Cx.ext (Γ:Cx) (o:Obj) (k:Nat) (blk:aU):Cx:=
 {heap:=Γ.heap.push o,ι:=λi=>if i=k then some Γ.heap.size else Γ.ι i,bx:=put Γ.bx k blk,b9:=Γ.b9}
def Cx.mG (Γ:Cx) (k:Nat) (blk:aU):Cx:=
 {Γ with ι:=λi=>if i=k then none else Γ.ι i,bx:=put Γ.bx k blk}
theorem mM (h:Array Obj) (o:Obj) {b:Nat} (hb:b<h.size):(h.push o)[b]? =h[b]? :=by
 rw[Array.getElem?_push,if_neg (by omega)]
theorem xG (Γ:Cx) (o:Obj):Le Γ (Γ.push o) where
 heap b hb _:=mM _ _ hb
 gn b _ h:=h
 b9:=rfl
 size:=by simp[Cx.push]
 ref k blk h:=⟨blk,h,JaQ _,λ_=>⟨rfl,λb _ cs e hc=>⟨cs,by rw[←hc];exact mM _ _ (bS hc),rfl⟩⟩⟩
theorem yY (Γ:Cx) (o:Obj) {k:Nat} (blk:aU) (hk:get Γ.bx k=none):Le Γ (Γ.ext o k blk) where
 heap b hb _:=mM _ _ hb
 gn b hb h:=by
  obtain⟨i,bl,hg,hi⟩:=h;simp only[Cx.ext]at hg hi;by_cases fO:i=k
  ·subst fO;simp at hi;omega
  ·rw[if_neg fO]at hi;rw[bp _ _ _ _ (λh=>fO h.symm)]at hg;exact⟨i,bl,hg,hi⟩
 b9:=rfl
 size:=by simp[Cx.ext]
 ref i bl h:=by
  have fO:i≠k:=by intro h';subst h';rw[hk]at h;simp at h
  refine⟨bl,by simp only[Cx.ext];rw[bp _ _ _ _ (λh=>fO h.symm)];exact h,JaQ _,λ_=>⟨by simp[Cx.ext,fO],λb _ cs e hc=>⟨cs,by rw[←hc];exact mM _ _ (bS hc),rfl⟩⟩⟩
theorem vu (Γ:Cx) {k:Nat} (blk:aU) (hk:get Γ.bx k=none):Le Γ (Γ.mG k blk) where
 heap b hb _:=rfl
 gn b hb h:=by
  obtain⟨i,bl,hg,hi⟩:=h;simp only[Cx.mG]at hg hi;by_cases fO:i=k
  ·subst fO;simp at hi
  ·rw[if_neg fO]at hi;rw[bp _ _ _ _ (λh=>fO h.symm)]at hg;exact⟨i,bl,hg,hi⟩
 b9:=rfl
 size:=JaQ _
 ref i bl h:=by
  have fO:i≠k:=by intro h';subst h';rw[hk]at h;simp at h
  exact⟨bl,by simp only[Cx.mG];rw[bp _ _ _ _ (λh=>fO h.symm)];exact h,JaQ _,λ_=>⟨by simp[Cx.mG,fO],λb _ cs e hc=>⟨cs,hc,rfl⟩⟩⟩
theorem Mem.kZ {Γ Γ':Cx} (hm:Mem Γ) (hl:Le Γ Γ') (b:Nat) (cs:Array Value) (h:cK.xA b=some cs):¬Γ'.gn b∧∃e x,Γ'.heap[b]? =some (.cells cs e x):=by
 obtain⟨h1,e,x,h2⟩:=hm.xA b cs h;refine⟨λhb=>h1 (hl.gn b (bS h2) hb),e,x,?_⟩;rw[hl.heap b (bS h2) h1];exact h2
theorem mem_push (hm:Mem Γ) (o:Obj):Mem (Γ.push o) where
 blk k blk h:=by
  have:=hm.blk k blk h
  exact this.mono (xG Γ o) (λb hb=>by
   rw[show(Γ.push o).ι k=Γ.ι k from rfl]at hb;rw[hb]at this;exact mM _ _ this.lt)
 inj:=hm.inj
 b9 b h:=by have:=hm.b9 b h;simp only[Cx.push,Array.size_push];omega
 apart:=hm.apart
 xA:=hm.kZ (xG Γ o)
theorem FC (hm:Mem Γ) {o:Obj} {k:Nat} {blk:aU} (hk:get Γ.bx k=none) (hr:blk.xz (Γ.ext o k blk) (some Γ.heap.size)):Mem (Γ.ext o k blk) where
 blk i bl h:=by
  by_cases fO:i=k
  ·subst fO;simp only[Cx.ext,bG,sJ]at h;subst h;have:(Γ.ext o i blk).ι i=some Γ.heap.size:=by simp[Cx.ext]
   rw[this];exact hr
  ·simp only[Cx.ext]at h;rw[bp _ _ _ _ (λh=>fO h.symm)]at h;have:=hm.blk i bl h;have e:(Γ.ext o k blk).ι i=Γ.ι i:=by simp[Cx.ext,fO]
   rw[e];exact this.mono (yY Γ o blk hk) (λb hb=>by rw[hb]at this;exact mM _ _ this.lt)
 inj i j b hi hj h1 h2:=by
  simp only[Cx.ext,eg]at hi hj h1 h2;by_cases fO:i=k<;>by_cases yO:j=k
  ·rw[fO,yO]
  ·rw[if_pos fO]at h1;rw[if_neg yO]at h2;rw[if_neg (λh=>yO h.symm)]at hj;obtain⟨bl,tI⟩:=JaW.1 hj;have:=hm.lt ⟨j,bl,tI,h2⟩;simp at h1;omega
  ·rw[if_neg fO]at h1;rw[if_pos yO]at h2;rw[if_neg (λh=>fO h.symm)]at hi;obtain⟨bl,tI⟩:=JaW.1 hi;have:=hm.lt ⟨i,bl,tI,h1⟩;simp at h2;omega
  ·rw[if_neg fO]at h1;rw[if_neg yO]at h2;rw[if_neg (λh=>fO h.symm)]at hi;rw[if_neg (λh=>yO h.symm)]at hj;exact hm.inj i j b hi hj h1 h2
 b9 b h:=by have:=hm.b9 b h;simp only[Cx.ext,Array.size_push];omega
 apart b h hp:=by
  have dk:=hm.b9 b hp;exact hm.apart b ((yY Γ o blk hk).gn b dk h) hp
 xA:=hm.kZ (yY Γ o blk hk)
theorem Ce (hm:Mem Γ) {k:Nat} {blk:aU} (hk:get Γ.bx k=none) (hr:blk.xz (Γ.mG k blk) none):Mem (Γ.mG k blk) where
 blk i bl h:=by
  by_cases fO:i=k
  ·subst fO;simp only[Cx.mG,bG,sJ]at h;subst h;have:(Γ.mG i blk).ι i=none:=by simp[Cx.mG]
   rw[this];exact hr
  ·simp only[Cx.mG]at h;rw[bp _ _ _ _ (λh=>fO h.symm)]at h;have:=hm.blk i bl h;have e:(Γ.mG k blk).ι i=Γ.ι i:=by simp[Cx.mG,fO]
   rw[e];exact this.mono (vu Γ blk hk) (λb hb=>rfl)
 inj i j b hi hj h1 h2:=by
  simp only[Cx.mG,eg]at hi hj h1 h2;by_cases fO:i=k
  ·rw[if_pos fO]at h1;simp at h1
  ·by_cases yO:j=k
   ·rw[if_pos yO]at h2;simp at h2
   ·rw[if_neg fO]at h1;rw[if_neg yO]at h2;rw[if_neg (λh=>fO h.symm)]at hi;rw[if_neg (λh=>yO h.symm)]at hj;exact hm.inj i j b hi hj h1 h2
 b9 b h:=hm.b9 b h
 apart b h hp:=by
  have dk:=hm.b9 b hp;exact hm.apart b ((vu Γ blk hk).gn b dk h) hp
 xA:=hm.kZ (vu Γ blk hk)
def Cx.gm (Γ:Cx) (b:Nat) (o:Obj) (k:Nat) (blk:aU):Cx:=
 {Γ with heap:=Γ.heap.setIfInBounds b o,bx:=put Γ.bx k blk}
theorem mQ {k b:Nat} {blk bq:aU} {c c':Array Value} {e:TypeId} (hg:get Γ.bx k=some blk) (hb:Γ.ι k=some b) (hc:Γ.heap[b]? =some (.cells c e (0,0))) (hs:c'.size=c.size) (ht:blk.aN≤bq.aN):
  Le Γ (Γ.gm b (.cells c' e (0,0)) k bq) where
 heap b' sN cS:=by
  have:b≠b':=by intro h;subst h;exact cS ⟨k,blk,hg,hb⟩
  simp only[Cx.gm];rw[Array.getElem?_setIfInBounds_ne this]
 gn b' sN h:=by
  obtain⟨i,bl,RX,hi⟩:=h;simp only[Cx.gm,eg]at RX hi;by_cases fO:k=i
  ·subst fO;exact⟨k,blk,hg,hi⟩
  ·rw[if_neg fO]at RX;exact⟨i,bl,RX,hi⟩
 b9:=rfl
 size:=by simp[Cx.gm]
 ref i bl h:=by
  have keep:∀b2,Γ.ι i=some b2->∀cs e',Γ.heap[b2]? =some (.cells cs e' (0,0))->∃DH,(Γ.gm b (.cells c' e (0,0)) k bq).heap[b2]? =some (.cells DH e' (0,0))∧DH.size=cs.size:=by
   intro b2 AU cs e' DU;by_cases Fk:b=b2
   ·subst Fk;rw[hc]at DU;simp only[sJ,Obj.cells.injEq]at DU;obtain⟨rfl,rfl,_⟩:=DU;exact⟨c',by simp only[Cx.gm];rw[uJ (bS hc)],hs⟩
   ·exact⟨cs,by simp only[Cx.gm];rw[Array.getElem?_setIfInBounds_ne Fk];exact DU,rfl⟩
  by_cases fO:k=i
  ·subst fO;rw[hg]at h;cases h;exact⟨bq,by simp[Cx.gm,bG],ht,λ_=>⟨rfl,keep⟩⟩
  ·exact⟨bl,by simp only[Cx.gm];rw[bp _ _ _ _ fO];exact h,JaQ _,λ_=>⟨rfl,keep⟩⟩
theorem pv (hm:Mem Γ) {k b:Nat} {blk bq:aU} {c c':Array Value} {e:TypeId} (hg:get Γ.bx k=some blk) (hb:Γ.ι k=some b) (hc:Γ.heap[b]? =some (.cells c e (0,0))) (hs:c'.size=c.size) (ht:blk.aN≤bq.aN)
  (hr:bq.xz (Γ.gm b (.cells c' e (0,0)) k bq) (some b)):Mem (Γ.gm b (.cells c' e (0,0)) k bq) where
 blk i bl h:=by
  by_cases fO:k=i
  ·subst fO;simp only[Cx.gm,bG,sJ]at h;subst h;have:(Γ.gm b (.cells c' e (0,0)) k bq).ι k=some b:=hb;rw[this];exact hr
  ·simp only[Cx.gm]at h;rw[bp _ _ _ _ fO]at h;have:=hm.blk i bl h
   exact this.mono (mQ hg hb hc hs ht) (λb2 AU=>by
    have cS:b≠b2:=by
     intro h';subst h';exact fO (hm.inj k i b (by simp[hg]) (by simp[h]) hb AU)
    simp only[Cx.gm];rw[Array.getElem?_setIfInBounds_ne cS])
 inj i j b2 hi hj h1 h2:=by
  refine hm.inj i j b2 ?_ ?_ h1 h2
  ·simp only[Cx.gm,eg]at hi;split at hi
   ·subst_vars;simp[hg]
   ·exact hi
  ·simp only[Cx.gm,eg]at hj;split at hj
   ·subst_vars;simp[hg]
   ·exact hj
 b9 b2 h:=by have:=hm.b9 b2 h;simpa[Cx.gm]using this
 apart b2 h hp:=hm.apart b2 ((mQ hg hb hc hs ht).gn b2 (hm.b9 b2 hp) h) hp
 xA:=hm.kZ (mQ hg hb hc hs ht)
end Go.Ab
namespace Go.Ab
variable [cK]
variable {P:Program} {nt:Nat} {ds:List Deferred} {s:St} {Γ:Cx} {a:Act} {w:World}
theorem Jk (v:Value):v.oneCell'=ew v:=by cases v<;>rfl
theorem FD {b o:Nat} {c:Array Value} {e:TypeId} {v:Value} (h:w.heap[b]? =some (.cells c e (0,0))):
  (w.setCell ⟨b,o,none⟩ v).heap=w.heap.setIfInBounds b (.cells (c.setIfInBounds o v) e (0,0)):=by
 have hb:=bS h;have he:w.heap[b]= .cells c e (0,0):=(Array.getElem?_eq_some_iff.1 h).2;simp only[World.setCell];apply Array.ext
 ·simp
 ·intro i h1 h2;rw[Array.getElem_modify,Array.getElem_setIfInBounds];split
  ·subst_vars;simp[he]
  ·rfl
theorem WF.setCell (w:World) (ad:Addr) (v:Value):WF w (w.setCell ad v):=⟨rfl,rfl,rfl⟩
theorem FE {b o:Nat} {c:Array Value} {e:TypeId} {v:Value} (h:w.heap[b]? =some (.cells c e (0,0))) (ho:o<c.size) (hv:ew v=true):
  (store ⟨b,o,none⟩ v).run P w= .ok () (w.setCell ⟨b,o,none⟩ v):=by
 rw[run_store P w _ v _ (by rw[Jk];exact hv)];rw[cell?_eq];simp[cell,h,ho,World.frozen?]
theorem j6:∀(vs:List Value) (w:World) (b o i:Nat) (c:Array Value) (e:TypeId),w.heap[b]? =some (.cells c e (0,0))->o+i+vs.length≤c.size->(∀v∈vs,ew v=true)->
  ∃w',(storeCells ⟨b,o,none⟩ vs i).run P w= .ok () w'∧w'.heap=w.heap.setIfInBounds b (.cells (bj c.toList (o+i) vs).toArray e (0,0))∧WF w w'
 |
  [],w,b,o,i,c,e,h,hl,hv=>by
  refine⟨w,rfl,?_,WF.refl w⟩
  have:(bj c.toList (o+i) []).toArray=c:=by simp[bj]
  rw[this]
  have he:w.heap[b]? =some (.cells c e (0,0)):=h
  apply Array.ext
  ·simp
  ·intro j h1 h2
   rw[Array.getElem_setIfInBounds]
   split
   ·subst_vars;exact(Array.getElem?_eq_some_iff.1 he).2
   ·rfl
 |
  v::vs,w,b,o,i,c,e,h,hl,hv=>by
  simp only[JcQ]at hl
  have hb:=bS h
  have h1:=FE (P:=P) h (show o+i<c.size by omega) (hv v (by simp))
  have hh:=FD (v:=v) (o:=o+i) h
  have b6:(w.setCell ⟨b,o+i,none⟩ v).heap[b]? =some (.cells (c.setIfInBounds (o+i) v) e (0,0)):=by
   rw[hh,uJ hb]
  obtain⟨w',h2,h3,h4⟩:=j6 vs (w.setCell ⟨b,o+i,none⟩ v) b o (i+1) (c.setIfInBounds (o+i) v) e b6 (by simp;omega) (λx hx=>hv x (by simp[hx]))
  refine⟨w',?_,?_,(WF.setCell w _ v).trans h4⟩
  ·simp only[storeCells,bJ,iN,h1,rJ]
   exact h2
  ·rw[h3,hh]
   have GR:bj (c.setIfInBounds (o+i) v).toList (o+(i+1)) vs=bj c.toList (o+i) (v::vs):=by
    rw[Array.toList_setIfInBounds];have dk:o+i<c.toList.length:=by simp;omega
    obtain⟨A,x,B,hA,nE⟩:∃A x B,A.length=o+i∧c.toList=A++x::B:=
     ⟨c.toList.take (o+i),c.toList[o+i],c.toList.drop (o+i+1),by rw[lJ];omega,by rw[JsJ,JcJ]⟩
    rw[nE,←hA,JsW (h:=JaQ _)];rw[show o+(i+1)=A.length+1 by omega];simp only[Nat.sub_self,JqW,bj,JcQ];have e1:(A++v::B).take (A.length+1)=A++[v]:=by rw[List.take_append,tJ (by omega)];simp
    have e2:(A++v::B).drop (A.length+1+vs.length)=B.drop vs.length:=by
     rw[List.drop_append,List.drop_eq_nil_of_le (by omega),show A.length+1+vs.length-A.length=vs.length+1 by omega];simp
    have e3:(A++x::B).drop (A.length+(vs.length+1))=B.drop vs.length:=by
     rw[←JiW];simp
    rw[e1,e2,e3];simp
   rw[GR]
   simp
theorem FF {t:TypeId} {b o n:Nat} {c:Array Value} {e:TypeId} {v:Value} (h:w.heap[b]? =some (.cells c e (0,0))) (hn:gL P t=some n) (hs:v.cells.size=n) (ho:o+n≤c.size) (hv:∀x∈v.cells.toList,ew x=true):
  ∃w',(storeVar t ⟨b,o,none⟩ v).run P w= .ok () w'∧w'.heap=w.heap.setIfInBounds b (.cells (bj c.toList o v.cells.toList).toArray e (0,0))∧WF w w':=by
 obtain⟨w',h1,h2,h3⟩:=j6 (P:=P) v.cells.toList w b o 0 c e h (by simp;omega) hv;refine⟨w',?_,by simpa using h2,h3⟩;simp only[storeVar,bJ,run_sizeOf hn,rJ];rw[if_neg (by simp[hs])];exact h1
def sd (w:World) (size n:Nat) (v:Value) (cs:List Value):Prop:=
 (∃ad rc,v= .slice ad n rc∧(0<n->∃b o,ad=some ⟨b,o,none⟩∧∀i c,cs[i]? =some c->cell w.heap b (o+i)=some c))∨
 (∃str,v= .string str∧n=str.size∧size=1∧cs=str.data.toList.map λb=> .int .u8 b.toNat)
theorem j7 {size n:Nat} {v:Value} {cs:List Value} (h:sd w size n v cs) (hl:cs.length=n*size):(Builtin.firstCells size n v).run P w= .ok cs.toArray w:=by
 rcases h with⟨ad,rc,rfl,h⟩|⟨str,rfl,rfl,rfl,rfl⟩
 ·cases ad with
  |
   none=>
   have:n=0:=by
    rcases JnZ n with h0|h0
    ·exact h0
    ·obtain⟨b,o,h1,_⟩:=h h0;simp at h1
   subst this
   have:cs=[]:=JdV (by simpa using hl)
   subst this;rfl
  |
   some ad=>
   simp only[Builtin.firstCells]
   rw[←hl]
   by_cases h0:0<n
   ·obtain⟨b,o,h1,h2⟩:=h h0
    simp only[sJ]at h1;subst h1
    exact run_loadCells_list w _ cs (λj v hj=>by rw[iN,cell?_eq];exact h2 j v hj)
   ·have:n=0:=by omega
    subst this
    have:cs=[]:=JdV (by simpa using hl)
    subst this;rfl
 ·simp only[Builtin.firstCells,JbW];congr 1;apply Array.ext';rw[JmW];congr 2;have:str.extract 0 str.size=str:=by simp
  rw[this]
theorem se {size n:Nat} {v:Value} {cs:List Value} (h:sd w size n v cs):(Builtin.lenOf v).run P w= .ok n w:=by
 rcases h with⟨ad,rc,rfl,_⟩|⟨str,rfl,rfl,_⟩<;>rfl
theorem sf (z:Array Value) (n:Nat):(Builtin.zeroCells z n).size=n*z.size:=by simp[Builtin.zeroCells]
theorem si {t u e:TypeId} {d:TypeDesc} {i:TypeInfo} {ty:TypeId} (ht:P.underlying t=some (.slice e)) (hu:P.underlying u=some d) (hd:(∃x,d= .slice x)∨d= .string) (hi:P.info? e=some i)
  {b o sLen sCap n:Nat} {y:Value} {news:List Value} {c:Array Value} {ce:TypeId} (hy:sd w i.size n y news) (hl:news.length=n*i.size) (h1:∀v∈news,ew v=true) (wK:sLen+n≤sCap)
  (hb:w.heap[b]? =some (.cells c ce (0,0))) (A0:o+sLen*i.size+n*i.size≤c.size):
  ∃
   w',(Builtin.append_ #[t,u] ty #[.slice (some ⟨b,o,none⟩) sLen sCap,y]).run P w= .ok (.slice (some ⟨b,o,none⟩) (sLen+n) sCap) w'∧
   w'.heap=w.heap.setIfInBounds b (.cells (bj c.toList (o+sLen*i.size) news).toArray ce (0,0))∧WF w w':=by
 obtain⟨w',g1,g2,g3⟩:=j6 (P:=P) news w b (o+sLen*i.size) 0 c ce hb (by omega) h1;refine⟨w',?_,by simpa using g2,g3⟩;have hf:=j7 (P:=P) hy hl;have hlen:=se (P:=P) hy;rcases hd with⟨x,rfl⟩|rfl
 ·simp[Builtin.append_,run_underlying ht,run_underlying hu,sizeOf,typeInfo,hi,hlen,wK,hf,iN,g1]
 ·simp[Builtin.append_,run_underlying ht,run_underlying hu,sizeOf,typeInfo,hi,hlen,wK,hf,iN,g1]
theorem nN {t u e:TypeId} {d:TypeDesc} {i:TypeInfo} {ty:TypeId} (ht:P.underlying t=some (.slice e)) (hu:P.underlying u=some d) (hd:(∃x,d= .slice x)∨d= .string) (hi:P.info? e=some i)
  {ad:Option Addr} {sLen sCap:Nat} {y:Value} (hy:sd w i.size 0 y []) (hle:sLen≤sCap):
  (Builtin.append_ #[t,u] ty #[.slice ad sLen sCap,y]).run P w= .ok (.slice ad sLen sCap) w:=by
 have hf:=j7 (P:=P) hy (by simp);have hlen:=se (P:=P) hy;rcases hd with⟨x,rfl⟩|rfl
 ·cases ad<;>simp[Builtin.append_,run_underlying ht,run_underlying hu,sizeOf,typeInfo,hi,hlen,hle,hf,storeCells]
 ·cases ad<;>simp[Builtin.append_,run_underlying ht,run_underlying hu,sizeOf,typeInfo,hi,hlen,hle,hf,storeCells]
theorem yZ {t u e:TypeId} {d:TypeDesc} {i:TypeInfo} {z:Value} {ty:TypeId} (ht:P.underlying t=some (.slice e)) (hu:P.underlying u=some d) (hd:(∃x,d= .slice x)∨d= .string) (hi:P.info? e=some i) (hz:i.zero=some z)
  {ad:Option Addr} {sLen sCap n:Nat} {y:Value} {olds news:List Value} (hs:sd w i.size sLen (.slice ad sLen sCap) olds) (ZU:olds.length=sLen*i.size)
  (hy:sd w i.size n y news) (hl:news.length=n*i.size) (hg:sCap<sLen+n) (h63:sLen+n≤9223372036854775807) (GS:(sLen+n)*i.bytes≤140737488355328):
  ∃
   w' cap,(Builtin.append_ #[t,u] ty #[.slice ad sLen sCap,y]).run P w= .ok (.slice (some ⟨w.heap.size,0,none⟩) (sLen+n) cap) w'∧sLen+n≤cap∧
   w'.heap=w.heap.push (.cells (olds++news++(Builtin.zeroCells z.cells (cap-(sLen+n))).toList).toArray e (0,0))∧WF w w':=by
 have hn:¬(sLen+n≤sCap):=by omega
 have WW:¬(9223372036854775807<((sLen:Int)+(n:Int))):=by omega
 have WX:¬(281474976710656<Builtin.nextslicecap (sLen+n) sCap*i.bytes):=by have:=growslice_fits hg GS;omega
 have Bk:sd w.drew i.size sLen (.slice ad sLen sCap) olds:=hs;have hy':sd w.drew i.size n y news:=hy;have hfo:=j7 (P:=P) Bk ZU;have hf:=j7 (P:=P) hy' hl;have hlen:=se (P:=P) hy;refine⟨w.drew.alloc (.cells (olds++news++(Builtin.zeroCells z.cells (grownCap w (sLen+n) sCap e-(sLen+n))).toList).toArray e),grownCap w (sLen+n) sCap e,?_,grownCap_ge w _ _ _,rfl,⟨rfl,rfl,rfl⟩⟩;rcases hd with⟨x,rfl⟩|rfl
 ·simp[Builtin.append_,run_underlying ht,run_underlying hu,sizeOf,typeInfo,zeroValue,hi,hz,hlen,hn,WW,WX,Question.forced,hf,hfo,newRow,grownCap];congr 2;apply Array.ext';simp
 ·simp[Builtin.append_,run_underlying ht,run_underlying hu,sizeOf,typeInfo,zeroValue,hi,hz,hlen,hn,WW,WX,Question.forced,hf,hfo,newRow,grownCap];congr 2;apply Array.ext';simp
theorem y5 {t u e:TypeId} {kn kv:IntKind} {i:TypeInfo} {z:Value} {ty:TypeId} (ht:P.underlying t=some (.slice e)) (hu:P.underlying u=some (.int kn)) (hi:P.info? e=some i) (hz:i.zero=some z)
  {ad:Option Addr} {sLen sCap n:Nat} {olds:List Value} (hs:sd w i.size sLen (.slice ad sLen sCap) olds) (ZU:olds.length=sLen*i.size) (h0:0<n) (jW:0<i.size)
  (hg:sCap<sLen+n) (h63:sLen+n≤9223372036854775807) (GS:(sLen+n)*i.bytes≤140737488355328):
  ∃
   w' cap,(Builtin.append_ #[t,u] ty #[.slice ad sLen sCap,.int kv n]).run P w= .ok (.slice (some ⟨w.heap.size,0,none⟩) (sLen+n) cap) w'∧sLen+n≤cap∧
   w'.heap=w.heap.push (.cells (olds++(Builtin.zeroCells z.cells n).toList++(Builtin.zeroCells z.cells (cap-(sLen+n))).toList).toArray e (0,0))∧WF w w':=by
 have hn:¬(sLen+n≤sCap):=by omega
 have WW:¬(9223372036854775807<((sLen:Int)+(n:Int))):=by omega
 have WX:¬(281474976710656<Builtin.nextslicecap (sLen+n) sCap*i.bytes):=by have:=growslice_fits hg GS;omega
 have auP:¬(281474976710656<(n:Int)*(i.bytes:Int)):=by
  rw[←JrJ];have:n*i.bytes≤(sLen+n)*i.bytes:=JcV _ (by omega);omega
 have hw:IntKind.i64.wrap (n:Int)=n:=by rw[IntKind.wrap_i64];omega
 have auQ:¬((n:Int)<0):=by omega
 have SZ:¬(n*i.size=0):=Nat.mul_ne_zero (by omega) (by omega);have Bk:sd w.drew i.size sLen (.slice ad sLen sCap) olds:=hs;have hfo:=j7 (P:=P) Bk ZU;refine⟨w.drew.alloc (.cells (olds++(Builtin.zeroCells z.cells n).toList++(Builtin.zeroCells z.cells (grownCap w (sLen+n) sCap e-(sLen+n))).toList).toArray e),grownCap w (sLen+n) sCap e,?_,grownCap_ge w _ _ _,rfl,⟨rfl,rfl,rfl⟩⟩;simp[Builtin.append_,run_underlying ht,run_underlying hu,sizeOf,typeInfo,zeroValue,hi,hz,asInt,asIntOf,hw,hn,auQ,SZ,WW,WX,auP,Question.forced,hfo,newRow,grownCap];congr 2;apply Array.ext';simp
theorem Ev {t u e:TypeId} {ty:TypeId} {sz:Nat} (ht:P.underlying t=some (.slice e)) (fA:gL P e=some sz)
  {b o dLen dCap n:Nat} {y:Value} {news:List Value} {c:Array Value} {ce:TypeId} {ysz:Nat} (hy:sd w sz ysz y news) (hl:news.length=ysz*sz) (hn:n=min ysz dLen) (h1:∀v∈news,ew v=true)
  (hb:w.heap[b]? =some (.cells c ce (0,0))) (A0:o+n*sz≤c.size):
  ∃
   w',(Builtin.copy_ #[t,u] ty #[.slice (some ⟨b,o,none⟩) dLen dCap,y]).run P w= .ok (.int .i64 n) w'∧
   w'.heap=w.heap.setIfInBounds b (.cells (bj c.toList o (news.take (n*sz))).toArray ce (0,0))∧WF w w':=by
 have dk:(news.take (n*sz)).length=n*sz:=by
  rw[lJ,hl];exact JdW (JcV _ (by omega))
 obtain⟨w',g1,g2,g3⟩:=j6 (P:=P) (news.take (n*sz)) w b o 0 c ce hb (by omega) (λv hv=>h1 v (JbX hv));refine⟨w',?_,by simpa using g2,g3⟩;have hlen:=se (P:=P) hy
 have hf:(Builtin.firstCells sz n y).run P w= .ok (news.take (n*sz)).toArray w:=by
  rcases hy with⟨ad,rc,rfl,h⟩|⟨str,rfl,h2,rfl,rfl⟩
  ·by_cases h0:0<n
   ·obtain⟨b',o',h3,h4⟩:=h (by omega);subst h3;simp only[Builtin.firstCells]
    have:=run_loadCells_list (P:=P) w ⟨b',o',none⟩ (news.take (n*sz)) (λj v hj=>by
     rw[iN,cell?_eq];rw[List.getElem?_take]at hj;split at hj
     ·exact h4 j v hj
     ·simp at hj)
    rw[dk]at this;exact this
   ·have:n=0:=by omega
    rw[this];cases ad<;>simp[Builtin.firstCells,loadCells,loadCellsFrom]
  ·simp only[Builtin.firstCells,JbW];congr 1;apply Array.ext';rw[JmW];simp[ByteArray.data_extract]
 have NW:Nat.min ysz dLen=n:=hn.symm;simp[Builtin.copy_,run_underlying ht,run_sizeOf fA,hlen,NW,hf,g1,goInt]
end Go.Ab
namespace Go.Ab
variable [cK]
variable {P:Program} {nt:Nat} {ds:List Deferred} {s:St} {Γ:Cx} {a:Act} {w:World}
def St.put (s:St) (d:Option Nat) (p:PV):St:=
 match d with
 |some d=> {s with env:=Ab.put s.env d p}
 |none=>s
mutual
def wk:PV->PV
 | .sl sz l _=> .sl sz (fP l) false
 | .st w l=> .st w (fP l)
 | .ar z n l=> .ar z n (fP l)
 | .tup l=> .tup (fP l)
 |p=>p
def fP:List PV->List PV
 |[]=>[]
 |p::l=>wk p::fP l
end
def wkb:aU->PV->PV
 | .arr _ _,v=>wk v
 | .box _,v=>v
 | .map ..,v=>v
def u8 (b:UInt8):PV:= .int .u8 b.toNat
def fQ (s:St) (d:Option Nat) (sz bytes:Nat) (p:PV) (ys:List PV) (K:St->Prop):Prop:=
 match d with
 |none=>False
 |
  some d=>match p with
  | .sl sz0 l true=>(get s.bx d=none∧(l=[]∨(sz0=sz∧ys≠[]))∧(l.length+ys.length)*bytes≤140737488355328∧l.length+ys.length≤9223372036854775807)∧
    K {env:=put s.env d (.rs d [] 0 (l.length+ys.length) (l.length+ys.length) sz .tip),bx:=put s.bx d (.arr sz (l++ys))}
  |
   .rs k [] 0 len aN bN .tip=>(match get s.bx k with
   |
    some (.arr sz'' l)=>(aN=l.length∧len=l.length∧bN=sz∧sz''=sz∧(l.length+ys.length)*bytes≤140737488355328∧l.length+ys.length≤9223372036854775807)∧
    K {env:=put s.env d (.rs k [] 0 (l.length+ys.length) (l.length+ys.length) sz .tip),bx:=put s.bx k (.arr sz (l++ys))}
   |_=>False)
  |
   .rs k [] 0 len aN bN (.full n)=>(match get s.bx k with
   |
    some (.arr sz'' l)=>(aN=l.length∧bN=sz∧sz''=sz∧len≤n∧n≤l.length∧ys≠[]∧get s.bx d=none∧(len+ys.length)*bytes≤140737488355328∧len+ys.length≤9223372036854775807)∧
    (len+ys.length≤n->K {env:=put s.env d (.rs k [] 0 (len+ys.length) aN sz (.full n)),bx:=put s.bx k (.arr sz (l.take len++ys++l.drop (len+ys.length)))})∧
    (n<len+ys.length->K {env:=put s.env d (.rs d [] 0 (len+ys.length) (len+ys.length) sz .tip),bx:=put s.bx d (.arr sz (l.take len++ys))})
   |_=>False)
  | .rs k p off len aN bN .clip=>content s (.rs k p off len aN bN .clip) λsz'' l=>(get s.bx d=none∧sz''=sz∧ys≠[]∧(l.length+ys.length)*bytes≤140737488355328∧l.length+ys.length≤9223372036854775807)∧
    K {env:=put s.env d (.rs d [] 0 (l.length+ys.length) (l.length+ys.length) sz .tip),bx:=put s.bx d (.arr sz (l++ys))}
  |_=>False
def pY (s:St) (d:Option Nat) (sz bytes:Nat) (z p:PV) (m:Int) (K:St->Prop):Prop:=
 match d with
 |none=>False
 |
  some d=>match p with
  |
   .rs k [] 0 len aN bN (.full n)=>(match get s.bx k with
   |
    some (.arr sz'' l)=>(get s.bx d=none∧aN=l.length∧bN=sz∧sz''=sz∧len≤n∧n≤l.length∧0<m∧n<len+m.toNat∧(len+m.toNat)*bytes≤140737488355328∧len+m.toNat≤9223372036854775807)∧
    K {env:=put s.env d (.rs d [] 0 (len+m.toNat) (len+m.toNat) sz .tip),bx:=put s.bx d (.arr sz (l.take len++List.replicate m.toNat z))}
   |_=>False)
  |_=>False
def src (s:St) (str:Bool) (sz:Nat) (q:PV) (K:List PV->Prop):Prop:=
 if str then(match q with| .str bs=>sz=1∧K (bs.map u8)|_=>False)
 else content s q λbN ys=>(ys=[]∨bN=sz)∧K ys
def j8 (s:St) (d:Option Nat) (sz:Nat) (p:PV) (ys:List PV) (K:St->Prop):Prop:=
 match p with
 |
  .rs k pth off len aN bN _=>(match get s.bx k with
  |some (.arr sz'' l)=>(aN=l.length∧pth=[]∧bN=sz∧sz''=sz∧off+len≤l.length)∧
    K ({s with bx:=put s.bx k (.arr sz (l.take off++ys.take (min ys.length len)++l.drop (off+min ys.length len)))}.put d (.int .i64 (min ys.length len:Nat)))
  |
   some (.box v)=>(match aO v pth with
   |
    some (.ar sz'' n l)=>(match bO v pth (.ar sz'' n (l.take off++ys.take (min ys.length len)++l.drop (off+min ys.length len)))with
    |some v'=>(aN=0∧bN=sz∧sz''=sz∧off+len≤n)∧K ({s with bx:=put s.bx k (.box v')}.put d (.int .i64 (min ys.length len:Nat)))
    |none=>False)
   |_=>False)
  |_=>False)
 |_=>False
def OH (s:St) (d:Option Nat) (sz:Nat) (z p:PV) (K:St->Prop):Prop:=
 d=none∧match p with
 | .rs k pth off len aN bN c=>j8 s none sz (.rs k pth off len aN bN c) (List.replicate len z) K
 |_=>False
def Ao (p:PV):List (PV×PV)->Option PV
 |[]=>none
 |(k,v)::r=>if PV.beq p k=true then some v else Ao p r
def vU (p v:PV):List (PV×PV)->List (PV×PV)
 |[]=>[(p,v)]
 |(k,w)::r=>if PV.beq p k=true then(p,v)::r else(k,w)::vU p v r
def ex (s:St) (d:Option Nat):AK->(St->Prop)->Prop
 |
  .alloc z,K=>(match d with
  |some k=>get s.bx k=none∧K {env:=put s.env k (.pt k [] 0),bx:=put s.bx k (.box z)}
  |none=>False)
 |
  .box x,K=>(match d with
  |some k=>vg true s x λp=>(get s.bx k=none∧p.aT=true)∧K {env:=put s.env k (.pt k [] 0),bx:=put s.bx k (.box p)}
  |none=>False)
 |
  .buildSlice own sz z n parts,K=>B8 true s parts λps=>(match cA (List.replicate n z) (ps.map λx=>(x.1,wk x.2))with
  |some l=>if own=true then(match d with
    |some k=>get s.bx k=none∧K {env:=put s.env k (.rs k [] 0 n n sz .tip),bx:=put s.bx k (.arr sz l)}
    |none=>False)else K (s.put d (.sl sz l true))
  |none=>False)
 |
  .makeSlice sz bytes z len cap,K=>vg true s len λp=>pq p λl=>vg true s cap λq=>pq q λc=>
  (match d with
  |some k=>(get s.bx k=none∧0≤l∧l≤c∧c*bytes≤281474976710656∧c≤9223372036854775807)∧
    K {env:=put s.env k (.rs k [] 0 l.toNat l.toNat sz .tip),bx:=put s.bx k (.arr sz (List.replicate l.toNat z))}
  |none=>False)
 |
  .store n x y,K=>vg true s x λp=>vg true s y λv=>(match p with
  |
   .pt k pth aN=>(match get s.bx k with
   |
    some blk=>(match uv blk pth (wkb blk v)with
    |some bq=>(aN=blk.aN∧v.width=n∧v.aT=true)∧K {s with bx:=put s.bx k bq}
    |none=>False)
   |none=>False)
  |_=>False)
 |
  .isNil ng x,K=>vg true s x λp=>(match p with
  | .sl _ l _=>∀b:Bool,(b=true->l=[])->K (s.put d (.bl (b !=ng)))
  | .rs k _ _ len aN _ _=>(match get s.bx k with|some blk=>aN=blk.aN∧∀b:Bool,(b=true->len=0)->K (s.put d (.bl (b !=ng)))|none=>False)
  |_=>False)
 | .append sz bytes str x y,K=>vg true s x λp=>vg true s y λq=>src s str sz q λys=>fQ s d sz bytes p ys K
 | .appendZ sz bytes z x y,K=>vg true s x λp=>vg true s y λq=>pq q λm=>pY s d sz bytes z p m K
 |
  .copy sz x y,K=>vg true s x λp=>vg true s y λq=>(match q with
  | .str _=>src s true sz q λys=>j8 s d sz p ys K
  |_=>src s false sz q λys=>j8 s d sz p ys K)
 | .fill sz z x,K=>vg true s x λp=>OH s d sz z p K
 |
  .mkMap ks vs,K=>(match d with
  |some k=>get s.bx k=none∧∀b:Nat,K {env:=put s.env k (.mp k b),bx:=put s.bx k (.map b ks vs [])}
  |none=>False)
 |
  .mapGet ks vs z ok m x,K=>vg true s m λpm=>vg true s x λp=>(match pm with
  |
   .mp k b=>(match get s.bx k with
   |some (.map b' BR DV l)=>(b'=b∧BR=ks∧DV=vs∧fits ks p=true)∧K (s.put d (if ok=true then .tup [(Ao p l).getD z,.bl (Ao p l).isSome]else(Ao p l).getD z))
   |_=>False)
  |_=>False)
 |
  .mapSet ks vs m x y,K=>vg true s m λpm=>vg true s x λp=>vg true s y λv=>(match pm with
  |
   .mp k b=>(match get s.bx k with
   |some (.map b' BR DV l)=>(d=none∧b'=b∧BR=ks∧DV=vs∧fits ks p=true∧oL v=true)∧K {s with bx:=put s.bx k (.map b' BR DV (vU p v l))}
   |_=>False)
  |_=>False)
 | .convB x,K=>vg true s x λp=>(match p with| .str bs=>K (s.put d (.sl 1 (bs.map u8) false))|_=>False)
 |
  .convL x,K=>vg true s x λp=>(match p with
  |
   .rs k pth off len aN sz c=>(match get s.bx k with
   |some (.arr bN l)=>(pth=[]∧off=0∧sz=1∧bN=1∧c= .tip∧len=l.length∧aN=l.length∧l≠[]∧l.all PV.isNum=true)∧
     K (St.put {s with bx:=put s.bx k (.arr 1 (l++[.int .u8 0]))} d (.sl 1 l false))
   |_=>False)
  |_=>False)
 |_,_=>False
def jO (P:Program) (nt:Nat) (ds:List Deferred) (o:Oper) (a:Act) (w:World) (Γ:Cx) (K:St->Prop):Prop:=
 ∃nx v w' s' Γ',(execOp a.eval o).run P w= .ok nx w'∧(nx= .value v∨nx= .skip∧v=undef)∧fX nt ds s' Γ' (a.put o.dst v)∧w'.heap=Γ'.heap∧Le Γ Γ'∧WF w w'∧K s'
theorem fX.put (hs:fX nt ds s Γ a) {d:Option Nat} (hd:∀k,d=some k->k<nt) {p:PV} {v:Value} (hr:aK Γ p v):fX nt ds (s.put d p) Γ (a.put d v):=by
 cases d with
 |none=>exact hs
 |
  some d=>
  refine⟨hs.bx,by simp[Act.put,hs.size],hs.defers,λk q hk=> ?_,hs.mem⟩
  simp only[St.put,eg]at hk
  have dk:=hd d rfl
  split at hk
  ·rename_i hdk
   simp only[sJ]at hk;subst hk hdk
   simp only[Act.put]
   have:(a.tmps.setIfInBounds d v).getD d undef=v:=by
    rw[JbQ,uJ (by rw[hs.size];exact dk)];rfl
   rw[this];exact hr
  ·rename_i cS
   have:=hs.env k q hk
   simp only[Act.put]
   rw[JbQ,Array.getElem?_setIfInBounds_ne cS,←JbQ]
   exact this
theorem fX.le (hs:fX nt ds s Γ a) {Γ':Cx} {xH:List (Nat×aU)} (hle:Le Γ Γ') (hm:Mem Γ') (hb:Γ'.bx=xH):fX nt ds {s with bx:=xH} Γ' a:=
 ⟨hb,hs.size,hs.defers,λk p h=>(hs.env k p h).mono hle,hm⟩
theorem Tp {k:Nat} {b:Nat} {v:PV} (hb:get Γ.bx k=some (.box v)) (hι:Γ.ι k=some b):aK Γ (.pt k [] 0) (.pointer (some ⟨b,0,none⟩)):=
 aK.Ox hb rfl hι rfl
theorem Hk {o:Oper} {k:Nat} {p:PV} {cs:Array Value} {e:TypeId} {K:St->Prop} (hs:fX nt ds s Γ a) (hw:w.heap=Γ.heap) (hk:o.dst=some k) (dk:k<nt) (gK:get s.bx k=none)
  (hr:aD Γ [p] cs.toList) (fN:(execOp a.eval o).run P w= .ok (.value (.pointer (some ⟨w.heap.size,0,none⟩))) (w.alloc (.cells cs e))) (hK:K {env:=put s.env k (.pt k [] 0),bx:=put s.bx k (.box p)}):
  jO P nt ds o a w Γ K:=by
 rw[←hs.bx]at gK;have hle:=yY Γ (.cells cs e) (k:=k) (.box p) gK;have iA:Mem (Γ.ext (.cells cs e) k (.box p)):=FC hs.mem gK ⟨Γ.heap.size,cs,e,rfl,by simp[Cx.ext],hr.mono hle⟩;have h1:=hs.le hle iA (xH:=put s.bx k (.box p)) (by simp[Cx.ext,hs.bx])
 have h2:aK (Γ.ext (.cells cs e) k (.box p)) (.pt k [] 0) (.pointer (some ⟨w.heap.size,0,none⟩)):=by
  rw[hw];exact Tp (v:=p) (by simp[Cx.ext,bG]) (by simp[Cx.ext])
 have h3:=h1.put (d:=some k) (λj hj=>by cases hj;exact dk) h2;exact⟨_,_,_,_,_,fN,.inl rfl,by rw[hk];exact h3,by simp[World.alloc,Cx.ext,hw],hle,⟨rfl,rfl,rfl⟩,hK⟩
theorem pZ {o:Oper} {k sz:Nat} {l:List PV} {cs rest:List Value} {e:TypeId} {cap:Nat} {w':World} {K:St->Prop} (hs:fX nt ds s Γ a) (hw:w.heap=Γ.heap) (hk:o.dst=some k) (dk:k<nt) (gK:get s.bx k=none) (fA:0<sz)
  (hr:aD Γ l cs) (nD:∀x∈l,x.width=sz) (Ad:cap*sz=(cs++rest).length) (El:l.length≤cap) (Jb:∀v∈rest,ew v=true)
  (fN:(execOp a.eval o).run P w= .ok (.value (.slice (some ⟨w.heap.size,0,none⟩) l.length cap)) w') (vp:w'.heap=w.heap.push (.cells (cs++rest).toArray e (0,0))) (ua:WF w w')
  (hK:K {env:=put s.env k (.rs k [] 0 l.length l.length sz .tip),bx:=put s.bx k (.arr sz l)}):jO P nt ds o a w Γ K:=by
 rw[←hs.bx]at gK;have hle:=yY Γ (.cells (cs++rest).toArray e (0,0)) (k:=k) (.arr sz l) gK;have hh:(Γ.ext (.cells (cs++rest).toArray e (0,0)) k (.arr sz l)).heap[Γ.heap.size]? =some (.cells (cs++rest).toArray e (0,0)):=by simp[Cx.ext]
 have iA:Mem (Γ.ext (.cells (cs++rest).toArray e (0,0)) k (.arr sz l)):=FC hs.mem gK ⟨nD,fA,_,e,cs,rest,hh,rfl,hr.mono hle,Jb⟩;have h1:=hs.le hle iA (xH:=put s.bx k (.arr sz l)) (by simp[Cx.ext,hs.bx])
 have h2:aK (Γ.ext (.cells (cs++rest).toArray e (0,0)) k (.arr sz l)) (.rs k [] 0 l.length l.length sz .tip) (.slice (some ⟨w.heap.size,0,none⟩) l.length cap):=by
  rw[hw];simp only[aK];refine .rs k [] 0 _ _ sz _ _ (.arr sz l) ⟨by simp[Cx.ext,bG],by simp[aU.aN]⟩ rfl (λ_=>⟨_,_,rfl,?_⟩) .nil;unfold gX;have:(Γ.ext (.cells (cs++rest).toArray e (0,0)) k (.arr sz l)).ι k=some Γ.heap.size:=by simp[Cx.ext]
  rw[this];exact⟨El,.inr (by simp[bI]),trivial,λ_=>⟨rfl,_,e,hh,by simpa using Ad⟩⟩
 have h3:=h1.put (d:=some k) (λj hj=>by cases hj;exact dk) h2;exact⟨_,_,_,_,_,fN,.inl rfl,by rw[hk];exact h3,by rw[vp,hw];rfl,hle,ua,hK⟩
theorem Mx {o:Oper} {k sz:Nat} {ad:Option Addr} {K:St->Prop} (hs:fX nt ds s Γ a) (hw:w.heap=Γ.heap) (hk:o.dst=some k) (dk:k<nt) (gK:get s.bx k=none) (fA:0<sz)
  (fN:(execOp a.eval o).run P w= .ok (.value (.slice ad 0 0)) w)
  (hK:K {env:=put s.env k (.rs k [] 0 0 0 sz .tip),bx:=put s.bx k (.arr sz [])}):jO P nt ds o a w Γ K:=by
 rw[←hs.bx]at gK;have hle:=vu Γ (k:=k) (.arr sz []) gK;have iA:Mem (Γ.mG k (.arr sz [])):=Ce hs.mem gK ⟨by simp,fA,trivial⟩;have h1:=hs.le hle iA (xH:=put s.bx k (.arr sz [])) (by simp[Cx.mG,hs.bx])
 have h2:aK (Γ.mG k (.arr sz [])) (.rs k [] 0 0 0 sz .tip) (.slice ad 0 0):=by
  simp only[aK];refine .rs k [] 0 _ _ sz _ _ (.arr sz []) ⟨by simp[Cx.mG,bG],by simp[aU.aN]⟩ rfl (λ_=>⟨_,_,rfl,?_⟩) .nil;unfold gX;have:(Γ.mG k (.arr sz [])).ι k=none:=by simp[Cx.mG]
  rw[this];exact⟨rfl,rfl,trivial⟩
 have h3:=h1.put (d:=some k) (λj hj=>by cases hj;exact dk) h2;exact⟨_,_,_,_,Γ.mG k (.arr sz []),fN,.inl rfl,by rw[hk];exact h3,hw,hle,WF.refl w,hK⟩
theorem p7 {o:Oper} {p:PV} {v:Value} {w':World} {Γ':Cx} {K:St->Prop} (hs:fX nt ds s Γ a) (hd:∀k,o.dst=some k->k<nt) (hle:Le Γ Γ') (hm:Mem Γ') (hb:Γ'.bx=Γ.bx)
  (fN:(execOp a.eval o).run P w= .ok (.value v) w') (hh:w'.heap=Γ'.heap) (ua:WF w w') (hr:aK Γ' p v) (hK:K (s.put o.dst p)):jO P nt ds o a w Γ K:=by
 have h1:=hs.le hle hm (xH:=s.bx) (by rw[hb,hs.bx]);exact⟨_,v,w',_,_,fN,.inl rfl,h1.put hd hr,hh,hle,ua,hK⟩
theorem OI (p:PV):(wk p).width=p.width:=by cases p<;>simp[wk,PV.width]
theorem wN (l:List PV):(fP l).length=l.length:=by induction l<;>simp[fP, *]
theorem Cf (l:List PV):fP l=l.map wk:=by induction l<;>simp[fP, *]
theorem Tq {l:List PV} {q:PV} (h:q∈fP l):∃p∈l,q=wk p:=by
 rw[Cf]at h;obtain⟨p,hp,e⟩:=JgX.1 h;exact⟨p,hp,e.symm⟩
theorem Ew {l:List PV} {sz:Nat} (h:∀x∈l,x.width=sz):∀x∈fP l,x.width=sz:=by
 intro x hx;obtain⟨p,hp,rfl⟩:=Tq hx;rw[OI];exact h p hp
theorem aD.fP {l:List PV} {cs:List Value} (h:aD Γ l cs):aD Γ (fP l) cs:=by
 induction h with
 |nil=>exact .nil
 |un h hr ih=>simp only[Ab.fP,Ab.wk];exact .un h ih
 |bl x hr ih=>simp only[Ab.fP,Ab.wk];exact .bl x ih
 |int k n hr ih=>simp only[Ab.fP,Ab.wk];exact .int k n ih
 |str l s h hr ih=>simp only[Ab.fP,Ab.wk];exact .str l s h ih
 |st w l hl hw hr ihl ih=>simp only[Ab.fP,Ab.wk];exact .st w _ ihl hw ih
 |ar sz n l hl hn hs hr ihl ih=>simp only[Ab.fP,Ab.wk];exact .ar sz n _ ihl (by rw[wN];exact hn) (Ew hs) ih
 |
  sl sz l clip a aX hl hw hc hk hb hr ihl ih=>
  simp only[Ab.fP,Ab.wk]
  have:=aD.sl sz (Ab.fP l) false a aX ihl (Ew hw) (by rw[wN];exact hc) (by simp) (λcS=>hb (λhe=>cS (by rw[he];rfl))) ih
  rwa [wN]at this
 |rs k p off len aN sz c v blk hg h1 hv hr ih=>simp only[Ab.fP,Ab.wk];exact .rs k p off len aN sz c v blk hg h1 hv ih
 |np hr ih=>simp only[Ab.fP,Ab.wk];exact .np ih
 |pt k p aN v blk hg h1 hv hr ih=>simp only[Ab.fP,Ab.wk];exact .pt k p aN v blk hg h1 hv ih
 |fp sz l p b o hl hw hm hc hr ihl ih=>simp only[Ab.fP,Ab.wk];exact .fp sz l p b o hl hw hm hc ih
 |fn f first cap h1 h2 h3 h4 hr i1 i2 ih=>simp only[Ab.fP,Ab.wk];exact .fn f first cap h1 h2 h3 h4 ih
 |nf hr ih=>simp only[Ab.fP,Ab.wk];exact .nf ih
 |ifc t v h1 h2 hr i1 ih=>simp only[Ab.fP,Ab.wk];exact .ifc t v h1 h2 ih
 |ni hr ih=>simp only[Ab.fP,Ab.wk];exact .ni ih
 |mp k b hr ih=>simp only[Ab.fP,Ab.wk];exact .mp k b ih
theorem aD.wk {p:PV} {cs:List Value} (h:aD Γ [p] cs):aD Γ [wk p] cs:=by
 have:=h.fP;simpa[Ab.fP]using this
theorem gI.wk {p:PV} {v:Value} (h:gI Γ p v):gI Γ (wk p) v:=by
 cases p
 case st w l=>obtain⟨cs,h1,h2⟩:=h;simp only[Ab.wk];exact⟨cs,h1,by simpa[Ab.wk]using aD.wk h2⟩
 case ar z n l=>obtain⟨cs,h1,h2⟩:=h;simp only[Ab.wk];exact⟨cs,h1,by simpa[Ab.wk]using aD.wk h2⟩
 case sl z l c=>have:=aD.wk (show aD Γ [.sl z l c] [v] from h);simp only[Ab.wk]at this⊢;exact this
 case tup l=>have:=aD.wk (show aD Γ [.tup l] [v] from h);cases h
 all_goals (simp only[Ab.wk];exact h)
theorem kI.fP:∀ {l:List PV} {vs:List Value},kI Γ l vs->kI Γ (Ab.fP l) vs
 |[],[],_=>trivial
 |[],_::_,h=>by simp[kI]at h
 |_::_,[],h=>by simp[kI]at h
 |p::l,v::vs,h=>by simp only[kI,Ab.fP]at h⊢;exact⟨h.1.wk,kI.fP h.2⟩
theorem aK.wk {p:PV} {v:Value} (h:aK Γ p v):aK Γ (wk p) v:=by
 cases p
 case st w l=>obtain⟨cs,h1,h2⟩:=h;simp only[Ab.wk];exact⟨cs,h1,by simpa[Ab.wk]using aD.wk h2⟩
 case ar z n l=>obtain⟨cs,h1,h2⟩:=h;simp only[Ab.wk];exact⟨cs,h1,by simpa[Ab.wk]using aD.wk h2⟩
 case sl z l c=>simp only[aK,Ab.wk]at h⊢;simpa[Ab.wk]using aD.wk h
 case tup l=>simp only[aK,Ab.wk]at h⊢;obtain⟨vs,e,h⟩:=h;exact⟨vs,e,h.fP⟩
 all_goals (simp only[Ab.wk];exact h)
theorem My {o:Oper} {t:TypeId} {z:PV} {K:St->Prop} (ho:o.op= .alloc t) (hz:zeroOf P t=some z) (hs:fX nt ds s Γ a) (hw:w.heap=Γ.heap) (hd:∀k,o.dst=some k->k<nt) (he:ex s o.dst (.alloc z) K):
  jO P nt ds o a w Γ K:=by
 simp only[ex]at he;split at he
 ·rename_i k hk;obtain⟨v,hv,hr,_,_,_⟩:=jZ (Γ:=Γ) hz;refine Hk (cs:=v.cells) (e:=t) hs hw hk (hd k hk) he.1 hr ?_ he.2;simp only[execOp,ho,Instr.alloc,bJ,hv,rJ,newVar,newRow];rfl
 ·exact he.elim
theorem Tr {o:Oper} {t:TypeId} {x:Operand} {y:AX} {K:St->Prop} (ho:o.op= .box t x) (hx:gk x=some y) (hs:fX nt ds s Γ a) (hw:w.heap=Γ.heap) (hd:∀k,o.dst=some k->k<nt) (he:ex s o.dst (.box y) K):
  jO P nt ds o a w Γ K:=by
 simp only[ex]at he;split at he
 ·rename_i k hk;obtain⟨p,⟨⟨h1,h2⟩,h3⟩,hr⟩:=bw hx hs rfl he;refine Hk (cs:=(a.eval x).cells) (e:=t) hs hw hk (hd k hk) h1 (hr.B9 h2) ?_ h3;simp only[execOp,ho,Instr.box,bJ,newVar,newRow];rfl
 ·exact he.elim
theorem iO {z:PV} {cs:List Value} (h:aD Γ [z] cs):∀n,aD Γ (List.replicate n z) (List.replicate n cs).flatten
 |0=> .nil
 |n+1=>by rw[List.replicate_succ,List.replicate_succ,JsQ];exact h.cons (iO h n)
theorem lL (z:Array Value) (n:Nat):((Array.range (n*z.size)).map (z[·%z.size]!)).toList=(List.replicate n z.toList).flatten:=by
 induction n with
 |zero=>simp
 |
  succ n ih=>
  have e:(n+1)*z.size=n*z.size+z.size:=by rw[JgZ];omega
  rw[List.replicate_succ',List.flatten_append,←ih,e]
  simp only[JmW,Array.toList_range,List.range_add,JeV,List.map_map,JsQ,List.flatten_nil,JhQ]
  congr 1
  apply JkJ
  intro i
  by_cases hi:i<z.size
  ·simp[hi,JiJ hi,Nat.add_mod,JtQ]
  ·simp[hi]
end Go.Ab
namespace Go.Ab
variable [cK]
variable {P:Program} {nt:Nat} {ds:List Deferred} {s:St} {Γ:Cx} {a:Act} {w:World}
theorem Cg {o:Oper} {t e:TypeId} {n sz:Nat} {parts:Array (Nat×Operand)} {ps:List (Nat×AX)} {z:PV} {own:Bool} {K:St->Prop} (ho:o.op= .buildSlice t n parts) (hu:P.underlying t=some (.slice e))
  (hp:sR parts.toList=some ps) (hz:zeroOf P e=some z) (fA:gL P e=some sz) (jW:0<sz) (NX:n*sz≤2^24)
  (hs:fX nt ds s Γ a) (hw:w.heap=Γ.heap) (hd:∀k,o.dst=some k->k<nt) (he:ex s o.dst (.buildSlice own sz z n ps) K):jO P nt ds o a w Γ K:=by
 simp only[ex]at he;obtain⟨qs,hq,hlen,cy⟩:=Bs hs rfl hp he;obtain⟨zv,Oh,S0,DL,_,ZX⟩:=jZ (Γ:=Γ) hz;have WY:z.width=sz:=by rw[fA]at DL;exact(Option.some.inj DL).symm
 split at hq
 ·rename_i l hl;have hzc:zv.cells.size=sz:=by rw[ZX,WY]
  have anv:aD Γ (List.replicate n z) ((Array.range (n*sz)).map (zv.cells[·%zv.cells.size]!)).toList:=by
   have:=lL zv.cells n;rw[hzc]at this⊢;rw[this];exact iO S0 n
  have hwr:∀x∈List.replicate n z,x.width=sz:=by intro x hx;rw[(JrQ.1 hx).2];exact WY
  obtain⟨cells,h1,h2⟩:=xF (Γ:=Γ) (qs.map λx=>(x.1,wk x.2)) (parts.toList.map λp=>(p.1,a.eval p.2)) (λi=>some (i*sz,sz)) (List.replicate n z) l _ anv hl (by simp[hlen])
   (λi j p k u h3 h4=>by
    rw[List.getElem?_map,mJ]at h3 h4;obtain⟨⟨k',x⟩,h5,h6⟩:=h4;obtain⟨⟨j',q⟩,h7,h8⟩:=h3;simp only[Prod.mk.injEq]at h6 h8;obtain⟨rfl,rfl⟩:=h6;obtain⟨rfl,rfl⟩:=h8;have:=cy i j' q k' x h7 h5;exact⟨this.1,this.2.wk⟩)
   (λi q hi=>by
    have hil:=(iJ.1 hi).1;rw[fY hwr (by omega),hwr q (JeQ hi)])
  have RY:l.length=n:=by rw[yW.setParts_length hl];simp
  have hlw:=yW.setParts_width hl hwr;have DU:cells.toList.length=n*sz:=by rw[h2.length,bf hlw,RY]
  have dk:¬n*sz>2^24:=by omega
  have Me:Instr.fill (λi=>some (i*sz,sz)) ((Array.range (n*sz)).map ((if n*sz=0 then #[]else zv.cells)[·%(if n*sz=0 then #[]else zv.cells).size]!)) (parts.map λp=>(p.1,a.eval p.2)).toList=some cells:=by
   have e1:(parts.map λp=>(p.1,a.eval p.2)).toList=parts.toList.map λp=>(p.1,a.eval p.2):=by simp
   rw[e1];by_cases h0:n*sz=0
   ·rw[if_pos h0];rw[h0]at h1⊢;have em:∀f:Nat->Value,Array.map f (Array.range 0)= #[]:=λf=>by apply Array.ext';simp
    rw[em]at h1⊢;exact h1
   ·rw[if_neg h0];exact h1
  have hb:(Instr.buildSlice t n (parts.map λp=>(p.1,a.eval p.2))).run P w= .ok (.slice (some ⟨w.heap.size,0,none⟩) n n) (w.alloc (.cells cells e)):=by
   simp only[Instr.buildSlice,bJ,run_underlying hu,rJ,run_sizeOf fA];rw[if_neg dk];by_cases h0:n*sz=0
   ·rw[if_pos h0];rw[if_pos h0]at Me;simp only[bJ,JbW,rJ];rw[Me];rfl
   ·rw[if_neg h0];rw[if_neg h0]at Me;simp only[bJ,Oh,JbW,rJ];rw[Me];rfl
  have fN:(execOp a.eval o).run P w= .ok (.value (.slice (some ⟨w.heap.size,0,none⟩) n n)) (w.alloc (.cells cells e)):=by
   have e2:execOp a.eval o=(do Pure.pure (Next.value (←Instr.buildSlice t n (parts.map λp=>(p.1,a.eval p.2))))):=by unfold execOp;rw[ho]
   rw[e2,bJ,hb];rfl
  split at hq
  ·rename_i WR;split at hq
   ·rename_i k hk;refine pZ (P:=P) (cs:=cells.toList) (rest:=[]) (e:=e) (cap:=n) (w':=w.alloc (.cells cells e)) hs hw hk (hd k hk) hq.1 jW h2 hlw (by rw[JhQ];exact DU.symm) (by omega) (by simp) (by rw[RY];exact fN) (by rw[JhQ];rfl) ⟨rfl,rfl,rfl⟩ (by rw[RY];exact hq.2)
   ·exact hq.elim
  ·refine p7 hs hd (xG Γ (.cells cells e)) (mem_push hs.mem _) rfl fN (by show w.heap.push _=Γ.heap.push _;rw[hw]) ⟨rfl,rfl,rfl⟩ ?_ hq;simp only[aK]
   have:=aD.sl (Γ:=Γ.push (.cells cells e)) sz l true (some ⟨w.heap.size,0,none⟩) n (h2.mono (xG Γ _)) hlw (by omega) (λ_=>RY.symm) (λ_=>⟨w.heap.size,0,rfl,by simp[Cx.push,hw],by
    rw[hw];have:=hs.mem.An
    exact this,λi c hc=>by
     have hi:=(iJ.1 hc).1;simp only[cell,Cx.push,hw,JhX,Array.getElem?_push_size];rw[←Array.getElem?_toList];exact hc⟩) .nil
   rw[RY]at this;exact this
 ·exact hq.elim
theorem D1 {o:Oper} {t e:TypeId} {i:TypeInfo} {ln cp:Operand} {ln' cp':AX} {z:PV} {K:St->Prop} (ho:o.op= .makeSlice t ln cp) (hu:P.underlying t=some (.slice e)) (hl:gk ln=some ln') (hc:gk cp=some cp')
  (hz:zeroOf P e=some z) (hi:P.info? e=some i) (jW:0<i.size)
  (hs:fX nt ds s Γ a) (hw:w.heap=Γ.heap) (hd:∀k,o.dst=some k->k<nt) (he:ex s o.dst (.makeSlice i.size i.bytes z ln' cp') K):jO P nt ds o a w Γ K:=by
 simp only[ex]at he;obtain⟨p,hp,sQ⟩:=bw hl hs rfl he;obtain⟨k1,l,xw,hp⟩:=eX hp sQ;obtain⟨q,hq,qP⟩:=bw hc hs rfl hp;obtain⟨k2,c,nJ,hK⟩:=eX hq qP;obtain⟨zv,Oh,S0,DL,_,ZX⟩:=jZ (Γ:=Γ) hz;have WY:z.width=i.size:=by rw[yX hi]at DL;exact(Option.some.inj DL).symm
 have hzc:zv.cells.size=i.size:=by rw[ZX,WY]
 split at hK
 ·rename_i k hk;obtain⟨⟨h1,h2,h3,h4,h5⟩,hK⟩:=hK
  have hwl:IntKind.i64.wrap l=l:=by
   have e1:(2:Int)^IntKind.i64.bits=18446744073709551616:=by decide
   have e2:(2:Int)^(IntKind.i64.bits-1)=9223372036854775808:=by decide
   simp only[IntKind.wrap,e1,e2];have:l%18446744073709551616=l:=Int.emod_eq_of_lt h2 (by omega);rw[this];rw[if_neg (by simp;intro _;omega)]
  have hwc:IntKind.i64.wrap c=c:=by
   have e1:(2:Int)^IntKind.i64.bits=18446744073709551616:=by decide
   have e2:(2:Int)^(IntKind.i64.bits-1)=9223372036854775808:=by decide
   simp only[IntKind.wrap,e1,e2];have:c%18446744073709551616=c:=Int.emod_eq_of_lt (by omega) (by omega);rw[this];rw[if_neg (by simp;intro _;omega)]
  have nE:((Array.range (c.toNat*i.size)).map (zv.cells[·%zv.cells.size]!)).toList=(List.replicate c.toNat zv.cells.toList).flatten:=by
   have:=lL zv.cells c.toNat;rw[hzc]at this⊢;exact this
  have GU:(List.replicate c.toNat zv.cells.toList).flatten=(List.replicate l.toNat zv.cells.toList).flatten++(List.replicate (c.toNat-l.toNat) zv.cells.toList).flatten:=by
   rw[←List.flatten_append,List.replicate_append_replicate,show l.toNat+(c.toNat-l.toNat)=c.toNat by omega]
  refine pZ (P:=P) (l:=List.replicate l.toNat z) (cs:=(List.replicate l.toNat zv.cells.toList).flatten) (rest:=(List.replicate (c.toNat-l.toNat) zv.cells.toList).flatten) (e:=e) (cap:=c.toNat) (w':=w.alloc (.cells ((Array.range (c.toNat*i.size)).map (zv.cells[·%zv.cells.size]!)) e)) hs hw hk (hd k hk) h1 jW (iO S0 _)
   (by intro x hx;rw[(JrQ.1 hx).2];exact WY) ?_ (by simp;omega) (iO S0 _).one ?_ ?_ ⟨rfl,rfl,rfl⟩ (by simpa using hK)
  ·rw[←GU,←nE];simp
  ·simp only[JcW]
   have hb:¬((i.bytes:Int)*c>2^48):=by
    have:(2:Int)^48=281474976710656:=by decide
    rw[this,Int.mul_comm];omega
   have hm:(Instr.makeSlice t (a.eval ln) (a.eval cp)).run P w= .ok (.slice (some ⟨w.heap.size,0,none⟩) l.toNat c.toNat) (w.alloc (.cells ((Array.range (c.toNat*i.size)).map (zv.cells[·%zv.cells.size]!)) e)):=by
    have tZ:((decide (c<0)||decide ((i.bytes:Int)*c>2^48))||decide (l<0)||decide (l>c))=false:=by
     have e1:decide (c<0)=false:=decide_eq_false (by omega);have e2:decide ((i.bytes:Int)*c>2^48)=false:=decide_eq_false hb;have e3:decide (l<0)=false:=decide_eq_false (by omega);have e4:decide (l>c)=false:=decide_eq_false (by omega);rw[e1,e2,e3,e4];rfl
    have fA:=yX hi;have ZY:(typeInfo e).run P w= .ok i w:=by simp[typeInfo,hi]
    simp only[Instr.makeSlice,bJ,run_underlying hu,rJ,xw,nJ,asInt,asIntOf,JbW,ZY,hwl,hwc];rw[if_neg (by rw[tZ];simp)];simp only[bJ,run_askRoom,rJ,run_sizeOf fA];by_cases h0:c.toNat*i.size=0
    ·rw[if_pos h0];have em:∀f:Nat->Value,Array.map f (Array.range (c.toNat*i.size))= #[]:=by intro f;rw[h0];apply Array.ext';simp
     simp only[bJ,JbW,rJ,em];rfl
    ·rw[if_neg h0];simp only[bJ,Oh,rJ,JbW];rfl
   have e2:execOp a.eval o=(do Pure.pure (Next.value (←Instr.makeSlice t (a.eval ln) (a.eval cp)))):=by unfold execOp;rw[ho]
   rw[e2,bJ,hm];rfl
  ·rw[←GU,←nE];rfl
 ·exact hK.elim
theorem OJ (l:List UInt8):aD Γ (l.map u8) (l.map λb=>Value.int .u8 b.toNat):=by
 induction l with
 |nil=>exact .nil
 |cons b l ih=>exact .int .u8 _ ih
theorem Mz {o:Oper} {t d e:TypeId} {x:Operand} {x':AX} {K:St->Prop} (ho:o.op= .convert t d x) (h1:P.underlying t=some .string) (h2:P.underlying d=some (.slice e)) (h3:P.underlying e=some (.int .u8))
  (hx:gk x=some x') (hs:fX nt ds s Γ a) (hw:w.heap=Γ.heap) (hd:∀k,o.dst=some k->k<nt) (he:ex s o.dst (.convB x') K):jO P nt ds o a w Γ K:=by
 simp only[ex]at he;obtain⟨p,hp,hr⟩:=bw hx hs rfl he;cases p<;>simp only at hp<;>first|exact hp.elim|skip
 rename_i l;simp only[aK]at hr
 obtain⟨bs,hv,hl⟩:∃bs:ByteArray,a.eval x= .string bs∧bs.data.toList=l:=by
  generalize a.eval x=v at hr;cases hr with
  |str l s h _=>exact⟨s,rfl,h⟩
 subst hl;have ZZ:=run_bytes_of_string (P:=P) w t d e bs h1 h2 h3;generalize hC:bytesRow bs (grownCap w bs.size 0 e)=C at ZZ
 have fN:(execOp a.eval o).run P w= .ok (.value (.slice (some ⟨w.heap.size,0,none⟩) bs.size (grownCap w bs.size 0 e))) (w.drew.alloc (.cells C e (C.size,C.size+1))):=by
  have e2:execOp a.eval o=(do Pure.pure (Next.value (←convert t d (a.eval x)))):=by unfold execOp;rw[ho]
  rw[e2,bJ,hv,ZZ];rfl
 refine p7 hs hd (xG Γ (.cells C e (C.size,C.size+1))) (mem_push hs.mem _) rfl fN (by show w.heap.push _=Γ.heap.push _;rw[hw]) ⟨rfl,rfl,rfl⟩ ?_ hp;simp only[aK];have fA:(bs.data.toList.map u8).length=bs.size:=by rw[JaX,JbZ];rfl
 have:=aD.sl (Γ:=Γ.push (.cells C e (C.size,C.size+1))) 1 (bs.data.toList.map u8) false (some ⟨w.heap.size,0,none⟩) (grownCap w bs.size 0 e) (OJ _) (by
   intro x hx;obtain⟨b,_,rfl⟩:=JgX.1 hx
   rfl) (by rw[fA];have:=grownCap_ge w bs.size 0 e;omega) (by simp) (λ_=>⟨w.heap.size,0,rfl,by simp[Cx.push,hw],by
    rw[hw]
    exact hs.mem.An,λi c hc=>by
     simp only[cell,Cx.push,hw,JhX,Array.getElem?_push_size];rw[←hC];simp only[bytesRow];have hi:=(iJ.1 hc).1;rw[Array.getElem?_append_left (by simpa using hi)];rw[←hc];simp⟩) .nil
 rw[fA]at this;exact this
end Go.Ab
namespace Go.Ab
variable [cK]
variable {P:Program} {nt:Nat} {ds:List Deferred} {s:St} {Γ:Cx} {a:Act} {w:World}
theorem uz (hm:Mem Γ) {k b:Nat} {blk bq:aU} {pth:List Step} {x:PV} {us:List Value} (hg:get Γ.bx k=some blk) (hb:Γ.ι k=some b) (hx:aD Γ [x] us) (kQ:uv blk pth x=some bq):
  ∃
   c e,Γ.heap[b]? =some (.cells c e (0,0))∧bI pth+us.length≤c.size∧bq.aN=blk.aN∧
   ∀c',c'.toList=bj c.toList (bI pth) us->bq.xz (Γ.gm b (.cells c' e (0,0)) k bq) (some b):=by
 have h:=hm.blk k blk hg;cases blk with
 |
  box v=>
  obtain⟨b',c,e,h1,h2,h3⟩:=h
  rw[hb]at h1;cases h1
  simp only[uv]at kQ
  split at kQ
  ·rename_i v' WV
   simp only[sJ]at kQ;subst kQ
   obtain⟨g1,g2,g3⟩:=BZ hx pth h3 WV
   refine⟨c,e,h2,by simpa using g1,rfl,λc' GP=> ?_⟩
   have fA:c'.size=c.size:=by rw[←JbZ,GP,dI g1,JbZ]
   refine⟨b,c',e,rfl,by simp only[Cx.gm];rw[uJ (bS h2)],?_⟩
   rw[GP]
   exact g3.mono (mQ (bq:= .box v') hg hb h2 fA (JaQ _))
  ·simp at kQ
 |
  arr sz l=>
  obtain⟨h1,h2,h3⟩:=h
  rw[hb]at h3
  obtain⟨c,e,cs,rest,h4,h5,h6,Jb⟩:=h3
  cases pth with
  |nil=>simp[uv]at kQ
  |cons st r=>
  cases st with
  |f=>simp[uv]at kQ
  |
   i j sz''=>
   simp only[uv]at kQ
   split at kQ
   ·rename_i hs;subst hs
    split at kQ
    ·rename_i cj hc
     split at kQ
     ·rename_i c2 yR
      simp only[sJ]at kQ;subst kQ
      have r3:=h6.at hc
      obtain⟨g4,g5,g6⟩:=BZ hx r r3 yR
      have g7:=r3.fK
      have:=BY h6 hc (by omega) g5 g6
      have hj:=(iJ.1 hc).1
      rw[fY h1 (by omega)]at this
      have hle:bI (Step.i j sz''::r)+us.length≤cs.length:=by simp only[bI];exact this.1
      have RZ:c.size=cs.length+rest.length:=by rw[←JbZ,h5];simp
      refine⟨c,e,h4,by omega,by simp[aU.aN],λc' GP=> ?_⟩
      have fA:c'.size=c.size:=by rw[←JbZ,GP,dI (by simp;omega),JbZ]
      have KF:=mQ (Γ:=Γ) (bq:= .arr sz'' (l.set j c2)) hg hb h4 fA (by simp[aU.aN])
      refine⟨rl h1 (by rw[g5];exact h1 cj (JeQ hc)),h2,c',e,bj cs (bI (Step.i j sz''::r)) us,rest,by simp only[Cx.gm];rw[uJ (bS h4)],?_,?_,Jb⟩
      ·rw[GP,h5];exact splice_append hle
      ·exact(by simpa only[bI]using this.2:aD Γ _ _).mono KF
     ·simp at kQ
    ·simp at kQ
   ·simp at kQ
  |w o n s=>simp[uv]at kQ
 |map b0 ks vs l=>simp[uv]at kQ
where
 splice_append {cs rest us:List Value} {o:Nat} (h:o+us.length≤cs.length):bj (cs++rest) o us=bj cs o us++rest:=by
  simp only[bj];rw[JfW (by omega),JmQ (by omega)];simp
theorem MA {o:Oper} {t:TypeId} {n:Nat} {x y:Operand} {x' y':AX} {K:St->Prop} (ho:o.op= .store t x y) (hn:gL P t=some n) (hx:gk x=some x') (hy:gk y=some y')
  (hs:fX nt ds s Γ a) (hw:w.heap=Γ.heap) (hd:o.dst=none) (he:ex s o.dst (.store n x' y') K):jO P nt ds o a w Γ K:=by
 simp only[ex]at he;obtain⟨p,hp,sQ⟩:=bw hx hs rfl he;obtain⟨v,hv,qP⟩:=bw hy hs rfl hp;split at hv
 ·rename_i k pth aN;split at hv
  ·rename_i blk hg;split at hv
   ·rename_i bq kQ;obtain⟨⟨h1,h2,h3⟩,hK⟩:=hv;rw[←hs.bx]at hg;obtain⟨b,hι,hpv⟩:=sQ.pt hg h1;have nE:=qP.B9 h3
    have WZ:aD Γ [wkb blk v] (a.eval y).cells.toList:=by
     cases blk
     ·exact nE
     ·exact nE.wk
     ·exact nE
    obtain⟨c,e,g1,g2,g3,g4⟩:=uz hs.mem hg hι WZ kQ;have hvs:(a.eval y).cells.size=n:=by rw[←h2,←nE.fK];simp
    obtain⟨w',r1,r2,r3⟩:=FF (P:=P) (w:=w) (t:=t) (b:=b) (o:=bI pth) (c:=c) (e:=e) (v:=a.eval y) (by rw[hw];exact g1) hn hvs (by have:=g2;simp at this;omega) (λz hz=>nE.one z hz);have fA:(bj c.toList (bI pth) (a.eval y).cells.toList).toArray.size=c.size:=by simp[dI (show bI pth+(a.eval y).cells.toList.length≤c.toList.length by simpa using g2)]
    have hle:=mQ (Γ:=Γ) (bq:=bq) hg hι g1 fA (by omega);have iA:=pv (Γ:=Γ) (bq:=bq) hs.mem hg hι g1 fA (by omega) (g4 _ (by simp));have h1:=hs.le hle iA (xH:=put s.bx k bq) (by simp[Cx.gm,hs.bx]);refine⟨.skip,undef,w',_,_,?_,.inr ⟨rfl,rfl⟩,by rw[hd];exact h1,by rw[r2,hw];rfl,hle,r3,hK⟩;have e2:execOp a.eval o=(do Instr.storeAt t (a.eval x) (a.eval y);Pure.pure Next.skip):=by unfold execOp;rw[ho]
    rw[e2,bJ];simp only[Instr.storeAt,hpv,Instr.sureAddr,bJ,JbW,rJ,r1]
   ·exact hv.elim
  ·exact hv.elim
 ·exact hv.elim
theorem FG {str:Bool} {sz:Nat} {q:PV} {v:Value} {K:List PV->Prop} (hs:fX nt ds s Γ a) (hw:w.heap=Γ.heap) (h:src s str sz q K) (hr:aK Γ q v):
  ∃ys news,K ys∧sd w sz ys.length v news∧aD Γ ys news∧(∀x∈ys,x.width=sz):=by
 unfold src at h;split at h
 ·split at h
  ·rename_i bs;obtain⟨st,hv,hd⟩:=hr.str;obtain⟨rfl,hK⟩:=h;have hlen:bs.length=st.size:=by rw[←hd];exact JbZ
   refine⟨_,_,hK,.inr ⟨st,hv,by simp[hlen],rfl,rfl⟩,?_,?_⟩
   ·rw[hd];clear hK hlen hd hv hr;induction bs with
    |nil=>exact .nil
    |cons b bs ih=>exact .int _ _ ih
   ·intro x hx;obtain⟨b,_,rfl⟩:=JgX.1 hx;rfl
  ·exact h.elim
 ·obtain⟨bN,l,cs,ad,aX,⟨h1,hK⟩,hv,hl,nC,hle,nD⟩:=qS hs h hr;refine⟨l,cs,hK,.inl ⟨ad,aX,hv,λjW=> ?_⟩,hl,λx hx=> ?_⟩
  ·obtain⟨b,o,e1,e2⟩:=nC (by intro h;subst h;simp at jW);exact⟨b,o,e1,by rw[hw];exact e2⟩
  ·rcases h1 with rfl|rfl
   ·simp at hx
   ·exact nD x hx
end Go.Ab
namespace Go.Ab
variable [cK]
variable {P:Program} {nt:Nat} {ds:List Deferred} {s:St} {Γ:Cx} {a:Act} {w:World}
theorem Bt (Γ:Cx) (o:Obj) {k:Nat} {blk bq:aU} (hk:get Γ.bx k=some blk) (ht:blk.aN<bq.aN):Le Γ (Γ.ext o k bq) where
 heap b hb _:=mM _ _ hb
 gn b hb h:=by
  obtain⟨i,bl,hg,hi⟩:=h;simp only[Cx.ext]at hg hi;by_cases fO:i=k
  ·subst fO;simp at hi;omega
  ·rw[if_neg fO]at hi;rw[bp _ _ _ _ (λh=>fO h.symm)]at hg;exact⟨i,bl,hg,hi⟩
 b9:=rfl
 size:=by simp[Cx.ext]
 ref i bl h:=by
  by_cases fO:i=k
  ·subst fO;rw[hk]at h;cases h;exact⟨bq,by simp[Cx.ext,bG],by omega,λe=>by omega⟩
  ·exact⟨bl,by simp only[Cx.ext];rw[bp _ _ _ _ (λh=>fO h.symm)];exact h,JaQ _,λ_=>⟨by simp[Cx.ext,fO],λb _ cs e hc=>⟨cs,by rw[←hc];exact mM _ _ (bS hc),rfl⟩⟩⟩
theorem OK (hm:Mem Γ) {o:Obj} {k:Nat} {blk bq:aU} (hk:get Γ.bx k=some blk) (ht:blk.aN<bq.aN) (hr:bq.xz (Γ.ext o k bq) (some Γ.heap.size)):Mem (Γ.ext o k bq) where
 blk i bl h:=by
  by_cases fO:i=k
  ·subst fO;simp only[Cx.ext,bG,sJ]at h;subst h;have:(Γ.ext o i bq).ι i=some Γ.heap.size:=by simp[Cx.ext]
   rw[this];exact hr
  ·simp only[Cx.ext]at h;rw[bp _ _ _ _ (λh=>fO h.symm)]at h;have:=hm.blk i bl h;have e:(Γ.ext o k bq).ι i=Γ.ι i:=by simp[Cx.ext,fO]
   rw[e];exact this.mono (Bt Γ o hk ht) (λb hb=>by rw[hb]at this;exact mM _ _ this.lt)
 inj i j b hi hj h1 h2:=by
  simp only[Cx.ext,eg]at hi hj h1 h2;by_cases fO:i=k<;>by_cases yO:j=k
  ·rw[fO,yO]
  ·rw[if_pos fO]at h1;rw[if_neg yO]at h2;rw[if_neg (λh=>yO h.symm)]at hj;obtain⟨bl,tI⟩:=JaW.1 hj;have:=hm.lt ⟨j,bl,tI,h2⟩;simp at h1;omega
  ·rw[if_neg fO]at h1;rw[if_pos yO]at h2;rw[if_neg (λh=>fO h.symm)]at hi;obtain⟨bl,tI⟩:=JaW.1 hi;have:=hm.lt ⟨i,bl,tI,h1⟩;simp at h2;omega
  ·rw[if_neg fO]at h1;rw[if_neg yO]at h2;rw[if_neg (λh=>fO h.symm)]at hi;rw[if_neg (λh=>yO h.symm)]at hj;exact hm.inj i j b hi hj h1 h2
 b9 b h:=by have:=hm.b9 b h;simp only[Cx.ext,Array.size_push];omega
 apart b h hp:=by
  have dk:=hm.b9 b hp;exact hm.apart b ((Bt Γ o hk ht).gn b dk h) hp
 xA:=hm.kZ (Bt Γ o hk ht)
theorem p9 {bx:List (Nat×aU)} (h:∀i,get bx i=get Γ.bx i):Le Γ {Γ with bx:=bx} where
 heap _ _ _:=rfl
 gn b _ hm:=by obtain⟨k,blk,hg,hk⟩:=hm;exact⟨k,blk,by rw[←h];exact hg,hk⟩
 b9:=rfl
 size:=JaQ _
 ref k blk hg:=⟨blk,by show get bx k=_;rw[h];exact hg,JaQ _,λ_=>⟨rfl,λ_ _ cs _ hc=>⟨cs,hc,rfl⟩⟩⟩
theorem Ch (hm:Mem Γ) {bx:List (Nat×aU)} (h:∀i,get bx i=get Γ.bx i):Mem {Γ with bx:=bx} where
 blk k blk hg:=(hm.blk k blk (by rw[←h];exact hg)).mono (p9 h) (λ_ _=>rfl)
 inj i j b hi hj h1 h2:=hm.inj i j b (by rw[←h];exact hi) (by rw[←h];exact hj) h1 h2
 b9:=hm.b9
 apart b hb:=hm.apart b ((p9 h).gn b (hm.lt (by obtain⟨k,blk,hg,hk⟩:=hb;exact⟨k,blk,by rw[←h];exact hg,hk⟩)) hb)
 xA:=hm.kZ (p9 h)
theorem mR {α:Type} {l:List (Nat×α)} {k:Nat} {x:α} (h:get l k=some x):∀i,get (put l k x) i=get l i:=by
 intro i;rw[eg];split
 ·subst_vars;exact h.symm
 ·rfl
theorem Ex {o:Oper} {k d sz:Nat} {blk:aU} {l:List PV} {cs rest:List Value} {e:TypeId} {cap:Nat} {w':World} {K:St->Prop} (hs:fX nt ds s Γ a) (hw:w.heap=Γ.heap) (hk:o.dst=some d) (dk:d<nt) (hg:get s.bx k=some blk)
  (ht:blk.aN<l.length) (fA:0<sz) (hr:aD Γ l cs) (nD:∀x∈l,x.width=sz) (Ad:cap*sz=(cs++rest).length) (El:l.length≤cap) (Jb:∀v∈rest,ew v=true)
  (fN:(execOp a.eval o).run P w= .ok (.value (.slice (some ⟨w.heap.size,0,none⟩) l.length cap)) w') (vp:w'.heap=w.heap.push (.cells (cs++rest).toArray e (0,0))) (ua:WF w w')
  (hK:K {env:=put s.env d (.rs k [] 0 l.length l.length sz .tip),bx:=put s.bx k (.arr sz l)}):jO P nt ds o a w Γ K:=by
 rw[←hs.bx]at hg;have hle:=Bt Γ (.cells (cs++rest).toArray e (0,0)) (k:=k) (bq:= .arr sz l) hg (by simpa[aU.aN]using ht);have hh:(Γ.ext (.cells (cs++rest).toArray e (0,0)) k (.arr sz l)).heap[Γ.heap.size]? =some (.cells (cs++rest).toArray e (0,0)):=by simp[Cx.ext]
 have iA:Mem (Γ.ext (.cells (cs++rest).toArray e (0,0)) k (.arr sz l)):=OK hs.mem hg (by simpa[aU.aN]using ht) ⟨nD,fA,_,e,cs,rest,hh,rfl,hr.mono hle,Jb⟩;have h1:=hs.le hle iA (xH:=put s.bx k (.arr sz l)) (by simp[Cx.ext,hs.bx])
 have h2:aK (Γ.ext (.cells (cs++rest).toArray e (0,0)) k (.arr sz l)) (.rs k [] 0 l.length l.length sz .tip) (.slice (some ⟨w.heap.size,0,none⟩) l.length cap):=by
  rw[hw];simp only[aK];refine .rs k [] 0 _ _ sz _ _ (.arr sz l) ⟨by simp[Cx.ext,bG],by simp[aU.aN]⟩ rfl (λ_=>⟨_,_,rfl,?_⟩) .nil;unfold gX;have:(Γ.ext (.cells (cs++rest).toArray e (0,0)) k (.arr sz l)).ι k=some Γ.heap.size:=by simp[Cx.ext]
  rw[this];exact⟨El,.inr (by simp[bI]),trivial,λ_=>⟨rfl,_,e,hh,by simpa using Ad⟩⟩
 have h3:=h1.put (d:=some d) (λj hj=>by cases hj;exact dk) h2;exact⟨_,_,_,_,_,fN,.inl rfl,by rw[hk];exact h3,by rw[vp,hw];rfl,hle,ua,hK⟩
theorem wC {o:Oper} {b:Builtin} {x y:Operand} {t u:TypeId} {f:Array TypeId->TypeId->Array Value->Sem Value} (ho:o.op= .call {callee:= .builtin b,args:= #[x,y],argTypes:= #[t,u]})
  (hb:∀ {c:Array Bool} {args:Array Value},builtin b #[t,u] o.type c args=(do Pure.pure (Next.value (←f #[t,u] o.type args)))):
  execOp a.eval o=(do Pure.pure (Next.value (←f #[t,u] o.type #[a.eval x,a.eval y]))):=by
 have e1:Array.map a.eval #[x,y]= #[a.eval x,a.eval y]:=by simp
 rw[←e1,←hb (c:=(#[x,y]:Array Operand).map λ| .const _=>true|_=>false)];unfold execOp;rw[ho];rfl
theorem j9 {o:Oper} {x y:Operand} {t u:TypeId} (ho:o.op= .call {callee:= .builtin .append,args:= #[x,y],argTypes:= #[t,u]}) {r:Value} {w':World}
  (h:(Builtin.append_ #[t,u] o.type #[a.eval x,a.eval y]).run P w= .ok r w'):(execOp a.eval o).run P w= .ok (.value r) w':=by
 have e2:execOp a.eval o=(do Pure.pure (Next.value (←Builtin.append_ #[t,u] o.type #[a.eval x,a.eval y]))):=wC ho rfl;rw[e2,bJ,h];rfl
theorem aD.Hl {l:List PV} {cs:List Value} {sz:Nat} (h:aD Γ l cs) (hw:∀x∈l,x.width=sz) (n:Nat) (hn:n≤l.length):aD Γ (l.take n) (cs.take (n*sz)):=by
 have e1:l=l.take n++l.drop n:=by rw[JcJ]
 rw[e1]at h;obtain⟨c1,v1,rfl,r1,r2⟩:=h.split;have l1:c1.length=n*sz:=by rw[r1.length,fY hw hn]
 rw[←l1,List.take_left];exact r1
theorem aD.Xp {l:List PV} {cs:List Value} {sz:Nat} (h:aD Γ l cs) (hw:∀x∈l,x.width=sz) (n:Nat) (hn:n≤l.length):aD Γ (l.drop n) (cs.drop (n*sz)):=by
 have e1:l=l.take n++l.drop n:=by rw[JcJ]
 rw[e1]at h;obtain⟨c1,v1,rfl,r1,r2⟩:=h.split;have l1:c1.length=n*sz:=by rw[r1.length,fY hw hn]
 rw[←l1,List.drop_left];exact r2
theorem aD.over {l ys:List PV} {cs news:List Value} {sz:Nat} (h:aD Γ l cs) (hw:∀x∈l,x.width=sz) (hy:aD Γ ys news) (hyw:∀x∈ys,x.width=sz) (off n:Nat) (hn:n≤ys.length) (ho:off+n≤l.length):
  aD Γ (l.take off++ys.take n++l.drop (off+n)) (bj cs (off*sz) (news.take (n*sz))):=by
 have hl:(news.take (n*sz)).length=n*sz:=by
  rw[lJ,hy.length,bf hyw];exact JdW (JcV _ hn)
 simp only[bj,hl];rw[show off*sz+n*sz=(off+n)*sz by rw[JgZ]];exact((h.Hl hw off (by omega)).append (hy.Hl hyw n hn)).append (h.Xp hw (off+n) ho)
theorem Ci {cs rest us:List Value} {o:Nat} (h:o+us.length≤cs.length):bj (cs++rest) o us=bj cs o us++rest:=by
 simp only[bj];rw[JfW (by omega),JmQ h,JeJ,JeJ,JeJ]
theorem wD {z:Array Value} (h0:0<z.size) (h:z.toList.all ew=true) {n:Nat}:∀v∈(Builtin.zeroCells z n).toList,ew v=true:=by
 intro v hv;simp only[Builtin.zeroCells,JmW,JgX]at hv;obtain⟨j,_,rfl⟩:=hv;have dk:j%z.size<z.size:=JdZ _ h0;rw[getElem!_pos z _ dk];exact JeX.1 h _ (by simp)
theorem Cj {o:Oper} {t u e:TypeId} {d:TypeDesc} {i:TypeInfo} {z:Value} {x y:Operand} {x' y':AX} {str:Bool} {K:St->Prop} (ho:o.op= .call {callee:= .builtin .append,args:= #[x,y],argTypes:= #[t,u]})
  (ht:P.underlying t=some (.slice e)) (hu:P.underlying u=some d) (DW:(∃x,d= .slice x)∨d= .string) (hi:P.info? e=some i) (hz:i.zero=some z) (ZX:z.cells.size=i.size) (jW:0<i.size) (adN:z.cells.toList.all ew=true)
  (hx:gk x=some x') (hy:gk y=some y') (hs:fX nt ds s Γ a) (hw:w.heap=Γ.heap) (hd:∀k,o.dst=some k->k<nt) (he:ex s o.dst (.append i.size i.bytes str x' y') K):jO P nt ds o a w Γ K:=by
 simp only[ex]at he;obtain⟨p,hp,sQ⟩:=bw hx hs rfl he;obtain⟨q,hq,qP⟩:=bw hy hs rfl hp;obtain⟨ys,news,hA,AT,yP,BS⟩:=FG hs hw hq qP;have lK:news.length=ys.length*i.size:=by rw[yP.length,bf BS]
 have Z0:=yP.one;have Z1:∀ {n:Nat},∀v∈(Builtin.zeroCells z.cells n).toList,ew v=true:=wD (by omega) adN
 --a fresh array out of what is there and what comes
 have fresh:∀ {k:Nat} {ad:Option Addr} {l:List PV} {cs:List Value} {aX:Nat},o.dst=some k->a.eval x= .slice ad l.length aX->aX<l.length+ys.length->aD Γ l cs->(∀x∈l,x.width=i.size)->
   (l≠[]->∃b o,ad=some ⟨b,o,none⟩∧∀i c,cs[i]? =some c->cell Γ.heap b (o+i)=some c)->(l.length+ys.length)*i.bytes≤140737488355328->l.length+ys.length≤9223372036854775807->
   ∃
    w' cap,(execOp a.eval o).run P w= .ok (.value (.slice (some ⟨w.heap.size,0,none⟩) (l++ys).length cap)) w'∧(l++ys).length≤cap∧WF w w'∧
    w'.heap=w.heap.push (.cells ((cs++news)++(Builtin.zeroCells z.cells (cap-(l.length+ys.length))).toList).toArray e (0,0))∧cap*i.size=((cs++news)++(Builtin.zeroCells z.cells (cap-(l.length+ys.length))).toList).length:=by
  intro k ad l cs aX hk hv dk hl nD nC hb h63
  have rh:cs.length=l.length*i.size:=by rw[hl.length,bf nD]
  obtain⟨w',cap,r1,r2,r3,r4⟩:=yZ (P:=P) (w:=w) (ty:=o.type) ht hu DW hi hz (ad:=ad) (sLen:=l.length) (sCap:=aX) (n:=ys.length) (y:=a.eval y) (olds:=cs) (news:=news)
   (.inl ⟨ad,aX,rfl,λjW=>by rw[hw];exact nC (by intro h;subst h;simp at jW)⟩) rh AT lK dk h63 hb
  refine⟨w',cap,?_,by simpa using r2,r4,by simpa using r3,?_⟩
  ·rw[←hv]at r1
   rw[JaJ]
   exact j9 ho r1
  ·simp only[JaJ,JbZ,sf,ZX,rh,lK,←JgZ]
   congr 1;omega
 unfold fQ at hA;split at hA
 ·exact hA.elim
 ·rename_i k hk;split at hA
  ·rename_i sz0 l;obtain⟨⟨h1,h2,h3,h4⟩,hK⟩:=hA;obtain⟨ad,aX,cs,hv,hl,nD,hc,RT,hb⟩:=sQ.sl;have hrc:=RT rfl;subst hrc;by_cases Fl:ys=[]
   ·subst Fl;have RR:l=[]:=by rcases h2 with h2|h2;exact h2;exact absurd rfl h2.2
    subst RR;have NY:news=[]:=JdV (by simpa using lK);subst NY;have:=nN (P:=P) (w:=w) (ty:=o.type) ht hu DW hi (ad:=ad) (sLen:=0) (sCap:=0) AT (JaQ _);rw[show Value.slice ad 0 0=a.eval x from hv.symm]at this;exact Mx (ad:=ad) hs hw hk (hd k hk) h1 jW (by rw[j9 ho this,hv];rfl) hK
   ·have anz:∀x∈l,x.width=i.size:=by
     rcases h2 with h2|h2
     ·subst h2;simp
     ·rw[←h2.1];exact nD
    have Fm:0<ys.length:=JkQ.2 Fl;obtain⟨w',cap,r1,r2,r3,r4,r5⟩:=fresh hk hv (by omega) hl anz (λcS=>let⟨b,o,g1,_,_,g4⟩:=hb cS;⟨b,o,g1,g4⟩) h3 h4;exact pZ hs hw hk (hd k hk) h1 jW (hl.append yP) (λx hx=>(JaZ.1 hx).elim (anz x) (BS x)) r5 r2 Z1 r1 r4 r3 (by rw[JaJ];exact hK)
  ·rename_i k2 len aN bN;split at hA
   ·rename_i sz'' l hg;obtain⟨⟨h1,h2,h3,h4,h5,h6⟩,hK⟩:=hA;subst h1 h2 h3 h4;have lx:=hg;rw[←hs.bx]at lx;obtain⟨ad,aX,hv,df⟩:=sQ.rs lx rfl;obtain⟨nD,_,lu⟩:=hs.mem.blk k2 _ lx;unfold gX at df;cases hι:Γ.ι k2 with
    |
     none=>
     rw[hι]at df
     have RR:l=[]:=JdV df.1
     subst RR
     obtain⟨_,rfl,_⟩:=df
     by_cases Fl:ys=[]
     ·subst Fl
      have NY:news=[]:=JdV (by simpa using lK)
      subst NY
      have:=nN (P:=P) (w:=w) (ty:=o.type) ht hu DW hi (ad:=ad) (sLen:=0) (sCap:=0) AT (JaQ _)
      rw[show Value.slice ad 0 0=a.eval x from hv.symm]at this
      have kW:=mR lx
      have q1:=hs.le (p9 kW) (Ch hs.mem kW) (xH:=put s.bx k2 (.arr i.size [])) (by rw[hs.bx])
      have q2:=(sQ.mono (p9 kW))
      have q3:=q1.put (d:=some k) (λj hj=>by cases hj;exact hd k hk) q2
      exact⟨_,_,w,_,{Γ with bx:=put Γ.bx k2 (.arr i.size [])},j9 ho this,.inl rfl,by rw[hk];exact q3,hw,p9 kW,WF.refl w,hK⟩
     ·have Fm:0<ys.length:=JkQ.2 Fl
      obtain⟨w',cap,r1,r2,r3,r4,r5⟩:=fresh (l:=[]) (cs:=[]) hk hv (by simpa using Fm) .nil (by simp) (by simp) (by simpa using h5) (by simpa using h6)
      exact Ex (l:=[]++ys) hs hw hk (hd k hk) hg (by simpa[aU.aN]using Fm) jW (aD.nil.append yP) (by simpa using BS) r5 r2 Z1 r1 r4 r3 (by rw[JaJ];exact hK)
    |
     some b=>
     rw[hι]at df lu
     obtain⟨o1,o2,_,o4⟩:=df
     obtain⟨_,Mf,e0,q1,q2⟩:=o4 rfl
     obtain⟨c,ce,cs,rest,h7,h8,h9,Jb⟩:=lu
     rw[q1]at h7
     simp only[sJ,Obj.cells.injEq]at h7
     obtain⟨rfl,rfl,_⟩:=h7
     have rh:cs.length=l.length*i.size:=by rw[h9.length,bf nD]
     have RZ:Mf.size=cs.length+rest.length:=by rw[←JbZ,h8];simp
     simp only[JhX]at q2
     by_cases wK:l.length+ys.length≤aX
     ·by_cases hz0:aX=0
      ·have RR:l=[]:=JdV (by omega)
       have hy0:ys=[]:=JdV (by omega)
       subst RR hy0 hz0
       have NY:news=[]:=JdV (by simpa using lK)
       subst NY
       have:=nN (P:=P) (w:=w) (ty:=o.type) ht hu DW hi (ad:=ad) (sLen:=0) (sCap:=0) AT (JaQ _)
       rw[show Value.slice ad 0 0=a.eval x from hv.symm]at this
       have kW:=mR lx
       have q1:=hs.le (p9 kW) (Ch hs.mem kW) (xH:=put s.bx k2 (.arr i.size [])) (by rw[hs.bx])
       have q2:=(sQ.mono (p9 kW))
       have q3:=q1.put (d:=some k) (λj hj=>by cases hj;exact hd k hk) q2
       exact⟨_,_,w,_,{Γ with bx:=put Γ.bx k2 (.arr i.size [])},j9 ho this,.inl rfl,by rw[hk];exact q3,hw,p9 kW,WF.refl w,hK⟩
      ·rcases o2 with o2|rfl
       ·exact absurd o2 hz0
       simp only[bI,Nat.zero_mul,JnX]at hv
       have A0:0+l.length*i.size+ys.length*i.size≤Mf.size:=by
        rw[←q2,JhX,←JgZ];exact JcV _ wK
       obtain⟨w',r1,r2,r3⟩:=si (P:=P) (w:=w) (ty:=o.type) ht hu DW hi (b:=b) (o:=0) (sLen:=l.length) (sCap:=aX) (n:=ys.length) (c:=Mf) (ce:=e0) AT lK Z0 wK (by rw[hw];exact q1) A0
       rw[←hv]at r1
       have KG:bj Mf.toList (0+l.length*i.size) news=(cs++news)++rest.drop news.length:=by
        rw[h8,JhX,←rh];simp only[bj];rw[List.take_left,←JiW,List.drop_left]
       have NZ:(bj Mf.toList (0+l.length*i.size) news).toArray.size=Mf.size:=by
        have:=dI (cs:=Mf.toList) (us:=news) (o:=0+l.length*i.size) (by rw[lK];simpa using A0);simpa using this
       have hle:=mQ (Γ:=Γ) (bq:= .arr i.size (l++ys)) lx hι q1 NZ (by simp[aU.aN])
       have Ep:(aU.arr i.size (l++ys)).xz (Γ.gm b (.cells (bj Mf.toList (0+l.length*i.size) news).toArray e0 (0,0)) k2 (.arr i.size (l++ys))) (some b):=
        ⟨λx hx=>(JaZ.1 hx).elim (nD x) (BS x),jW,_,e0,cs++news,rest.drop news.length,by simp only[Cx.gm];rw[uJ (bS q1)],by simpa using KG,(h9.append yP).mono hle,λv hv=>Jb v (JdJ hv)⟩
       have iA:=pv (Γ:=Γ) (bq:= .arr i.size (l++ys)) hs.mem lx hι q1 NZ (by simp[aU.aN]) Ep
       have t1:=hs.le hle iA (xH:=put s.bx k2 (.arr i.size (l++ys))) (by simp[Cx.gm,hs.bx])
       have t2:aK (Γ.gm b (.cells (bj Mf.toList (0+l.length*i.size) news).toArray e0 (0,0)) k2 (.arr i.size (l++ys))) (.rs k2 [] 0 (l.length+ys.length) (l.length+ys.length) i.size .tip) (.slice (some ⟨b,0,none⟩) (l.length+ys.length) aX):=by
        simp only[aK];refine .rs k2 [] 0 _ _ i.size _ _ (.arr i.size (l++ys)) ⟨by simp[Cx.gm,bG],by simp[aU.aN]⟩ rfl (λ_=>⟨_,_,rfl,?_⟩) .nil;unfold gX;rw[show(Γ.gm b (.cells (bj Mf.toList (0+l.length*i.size) news).toArray e0 (0,0)) k2 (.arr i.size (l++ys))).ι k2=some b from hι];refine⟨wK,.inr (by simp[bI]),trivial,λ_=>⟨rfl,_,e0,by simp only[Cx.gm];rw[uJ (bS q1)],by rw[NZ,JhX];exact q2⟩⟩
       have t3:=t1.put (d:=some k) (λj hj=>by cases hj;exact hd k hk) t2
       exact⟨_,_,w',_,_,j9 ho r1,.inl rfl,by rw[hk];exact t3,by rw[r2,hw];rfl,hle,r3,hK⟩
     ·have nC:l≠[]->∃b o,ad=some ⟨b,o,none⟩∧∀i c,cs[i]? =some c->cell Γ.heap b (o+i)=some c:=by
       intro cS;have:=JkQ.2 cS;rcases o2 with o2|rfl
       ·omega
       exact⟨b,_,rfl,by simpa[bI]using mb q1 cs rest h8⟩
      obtain⟨w',cap,r1,r2,r3,r4,r5⟩:=fresh hk hv (by omega) h9 nD nC h5 h6;have hy0:0<ys.length:=by omega
      exact Ex (l:=l++ys) hs hw hk (hd k hk) hg (by simp[aU.aN];omega) jW (h9.append yP) (λx hx=>(JaZ.1 hx).elim (nD x) (BS x)) r5 r2 Z1 r1 r4 r3 (by rw[JaJ];exact hK)
   ·exact hA.elim
  ·rename_i k2 len aN bN n;split at hA
   ·rename_i sz'' l hg;obtain⟨⟨h1,h2,h3,hln,auV,Fl,gK,h5,h6⟩,hK1,qQ⟩:=hA;subst h1 h2 h3;have lx:=hg;rw[←hs.bx]at lx;obtain⟨ad,aX,hv,df⟩:=sQ.rs lx rfl;obtain⟨nD,_,lu⟩:=hs.mem.blk k2 _ lx;have Fm:0<ys.length:=JkQ.2 Fl;have Z4:∀x∈l.take len,x.width=i.size:=λx hx=>nD x (JbX hx);have Fo:(l.take len).length=len:=by rw[lJ];omega
    unfold gX at df;cases hι:Γ.ι k2 with
    |
     none=>
     rw[hι]at df
     obtain⟨rfl,rfl,xr⟩:=df
     simp only[pg]at xr
     subst xr
     obtain⟨w',cap,r1,r2,r3,r4,r5⟩:=fresh (l:=[]) (cs:=[]) hk hv (by simpa using Fm) .nil (by simp) (by simp) (by simpa using h5) (by simpa using h6)
     exact pZ (l:=[]++ys) hs hw hk (hd k hk) gK jW (aD.nil.append yP) (by simpa using BS) r5 r2 Z1 r1 r4 r3 (by
      have:=qQ (by omega);rw[JnJ]at this;rw[JaJ];simpa using this)
    |
     some b=>
     rw[hι]at df lu
     obtain⟨o1,o2,xr,_⟩:=df
     simp only[pg]at xr
     subst xr
     obtain⟨c,ce,cs,rest,h7,h8,h9,Jb⟩:=lu
     have rh:cs.length=l.length*i.size:=by rw[h9.length,bf nD]
     have RZ:c.size=cs.length+rest.length:=by rw[←JbZ,h8];simp
     have h9t:=h9.Hl nD len (by omega)
     by_cases wK:len+ys.length≤aX
     ·have hz0:aX≠0:=by omega
      rcases o2 with o2|rfl
      ·exact absurd o2 hz0
      simp only[bI,Nat.zero_mul,JnX]at hv
      have A0:0+len*i.size+ys.length*i.size≤cs.length:=by
       rw[rh,JhX,←JgZ];exact JcV _ (by omega)
      obtain⟨w',r1,r2,r3⟩:=si (P:=P) (w:=w) (ty:=o.type) ht hu DW hi (b:=b) (o:=0) (sLen:=len) (sCap:=aX) (n:=ys.length) (c:=c) (ce:=ce) AT lK Z0 wK (by rw[hw];exact h7) (by omega)
      rw[←hv]at r1
      have W4:=h9.over nD yP BS len ys.length (JaQ _) (by omega)
      rw[JcX]at W4
      have KG:bj c.toList (0+len*i.size) news=bj cs (len*i.size) news++rest:=by
       rw[h8,JhX];exact Ci (by rw[lK];omega)
      have NZ:(bj c.toList (0+len*i.size) news).toArray.size=c.size:=by
       have:=dI (cs:=c.toList) (us:=news) (o:=0+len*i.size) (by simp only[JbZ,lK];omega);simpa using this
      have adO:(aU.arr i.size l).aN=(aU.arr i.size (l.take len++ys++l.drop (len+ys.length))).aN:=by simp[aU.aN];omega
      have hle:=mQ (Γ:=Γ) (bq:= .arr i.size (l.take len++ys++l.drop (len+ys.length))) lx hι h7 NZ (by omega)
      have auW:∀x∈l.take len++ys++l.drop (len+ys.length),x.width=i.size:=by
       intro x hx;rcases JaZ.1 hx with hx|hx
       ·rcases JaZ.1 hx with hx|hx
        ·exact Z4 x hx
        ·exact BS x hx
       ·exact nD x (JdJ hx)
      rw[show news.take (ys.length*i.size)=news from tJ (by omega)]at W4
      have Ep:(aU.arr i.size (l.take len++ys++l.drop (len+ys.length))).xz (Γ.gm b (.cells (bj c.toList (0+len*i.size) news).toArray ce (0,0)) k2 (.arr i.size (l.take len++ys++l.drop (len+ys.length)))) (some b):=
       ⟨auW,jW,_,ce,bj cs (len*i.size) news,rest,by simp only[Cx.gm];rw[uJ (bS h7)],by simpa using KG,W4.mono hle,Jb⟩
      have iA:=pv (Γ:=Γ) (bq:= .arr i.size (l.take len++ys++l.drop (len+ys.length))) hs.mem lx hι h7 NZ (by omega) Ep
      have t1:=hs.le hle iA (xH:=put s.bx k2 (.arr i.size (l.take len++ys++l.drop (len+ys.length)))) (by simp[Cx.gm,hs.bx])
      have t2:aK (Γ.gm b (.cells (bj c.toList (0+len*i.size) news).toArray ce (0,0)) k2 (.arr i.size (l.take len++ys++l.drop (len+ys.length)))) (.rs k2 [] 0 (len+ys.length) l.length i.size (.full aX)) (.slice (some ⟨b,0,none⟩) (len+ys.length) aX):=by
       simp only[aK];refine .rs k2 [] 0 _ _ i.size _ _ (.arr i.size (l.take len++ys++l.drop (len+ys.length))) ⟨by simp[Cx.gm,bG],by rw[←adO];simp[aU.aN]⟩ rfl (λ_=>⟨_,_,rfl,?_⟩) .nil;unfold gX;rw[show(Γ.gm b (.cells (bj c.toList (0+len*i.size) news).toArray ce (0,0)) k2 (.arr i.size (l.take len++ys++l.drop (len+ys.length)))).ι k2=some b from hι];exact⟨wK,.inr (by simp[bI]),rfl,λhc=>by cases hc⟩
      have t3:=t1.put (d:=some k) (λj hj=>by cases hj;exact hd k hk) t2
      exact⟨_,_,w',_,_,j9 ho r1,.inl rfl,by rw[hk];exact t3,by rw[r2,hw];rfl,hle,r3,hK1 wK⟩
     ·have nC:l.take len≠[]->∃b o,ad=some ⟨b,o,none⟩∧∀j x,(cs.take (len*i.size))[j]? =some x->cell Γ.heap b (o+j)=some x:=by
       intro cS;have:=JkQ.2 cS;rcases o2 with o2|rfl
       ·omega
       refine⟨b,_,rfl,λj x hj=> ?_⟩;have hb:=mb h7 cs rest h8
       have Er:cs[j]? =some x:=by
        rw[List.getElem?_take]at hj;split at hj
        ·exact hj
        ·cases hj
       simpa[bI]using hb j x Er
      obtain⟨w',cap,r1,r2,r3,r4,r5⟩:=fresh (l:=l.take len) hk (by rw[Fo];exact hv) (by rw[Fo];omega) h9t Z4 nC (by rw[Fo];exact h5) (by rw[Fo];exact h6);exact pZ (l:=l.take len++ys) hs hw hk (hd k hk) gK jW (h9t.append yP) (λx hx=>(JaZ.1 hx).elim (Z4 x) (BS x)) r5 r2 Z1 r1 r4 r3 (by rw[JaJ,Fo];exact qQ (by omega))
   ·exact hA.elim
  ·rename_i k2 p off len aN bN;obtain⟨sz'',l,cs,ad,aX,⟨⟨h1,rfl,h3,h4,h5⟩,hK⟩,hv,hl,nC,hle,nD⟩:=qS hs hA sQ
   have hrc:aX=l.length:=by
    have S3:=hA;simp only[content]at S3;split at S3
    ·rename_i hb;rw[←hs.bx]at hb;obtain⟨ad2,anA,nJ,df⟩:=sQ.rs hb (by simpa[aU.aN]using S3.1.1);rw[hv]at nJ;simp only[Value.slice.injEq]at nJ;obtain⟨rfl,KF,rfl⟩:=nJ;unfold gX at df;split at df
     ·omega
     ·have:=df.2.2.1.clip rfl;omega
    ·rename_i hb;split at S3
     ·rw[←hs.bx]at hb;obtain⟨ad2,anA,nJ,df⟩:=sQ.rs hb (by simpa[aU.aN]using S3.1.1);rw[hv]at nJ;simp only[Value.slice.injEq]at nJ;obtain⟨rfl,KF,rfl⟩:=nJ;unfold gX at df;split at df
      ·omega
      ·have:=df.2.2.1.clip rfl;omega
     ·exact S3.elim
    ·exact S3.elim
   have Fm:0<ys.length:=JkQ.2 h3;obtain⟨w',cap,r1,r2,r3,r4,r5⟩:=fresh hk hv (by omega) hl nD nC h4 h5;exact pZ hs hw hk (hd k hk) h1 jW (hl.append yP) (λx hx=>(JaZ.1 hx).elim (nD x) (BS x)) r5 r2 Z1 r1 r4 r3 (by rw[JaJ];exact hK)
  ·exact hA.elim
end Go.Ab
namespace Go.Ab
variable [cK]
variable {P:Program} {nt:Nat} {ds:List Deferred} {s:St} {Γ:Cx} {a:Act} {w:World}
theorem OL {o:Oper} {t u e:TypeId} {sz:Nat} {x y:Operand} {x' y':AX} {K:St->Prop} (ho:o.op= .call {callee:= .builtin .copy,args:= #[x,y],argTypes:= #[t,u]})
  (ht:P.underlying t=some (.slice e)) (fA:gL P e=some sz) (hx:gk x=some x') (hy:gk y=some y') (hs:fX nt ds s Γ a) (hw:w.heap=Γ.heap) (hd:∀k,o.dst=some k->k<nt) (he:ex s o.dst (.copy sz x' y') K):jO P nt ds o a w Γ K:=by
 simp only[ex]at he;obtain⟨p,hp,sQ⟩:=bw hx hs rfl he;obtain⟨q,hq,qP⟩:=bw hy hs rfl hp
 have hA:∃ys news,j8 s o.dst sz p ys K∧sd w sz ys.length (a.eval y) news∧aD Γ ys news∧(∀x∈ys,x.width=sz):=by
  split at hq
  ·exact FG hs hw hq qP
  ·exact FG hs hw hq qP
 obtain⟨ys,news,hA,AT,yP,BS⟩:=hA;have lK:news.length=ys.length*sz:=by rw[yP.length,bf BS]
 have DM:∀ {r:Value} {w':World},(Builtin.copy_ #[t,u] o.type #[a.eval x,a.eval y]).run P w= .ok r w'->(execOp a.eval o).run P w= .ok (.value r) w':=by
  intro r w' h;rw[wC ho rfl,bJ,h];rfl
 --nothing copied
 have none:∀ {ad:Option Addr} {len cap:Nat},a.eval x= .slice ad len cap->min ys.length len=0->(execOp a.eval o).run P w= .ok (.value (.int .i64 0)) w:=by
  intro ad len cap hv h0;refine DM ?_;have hlen:=se (P:=P) AT
  have hf:(Builtin.firstCells sz 0 (a.eval y)).run P w= .ok #[] w:=by
   rcases AT with⟨ad2,rc,nJ,h⟩|⟨str,nJ,h2,rfl,rfl⟩
   ·rw[nJ];cases ad2<;>simp[Builtin.firstCells,loadCells,loadCellsFrom]
   ·rw[nJ];simp[Builtin.firstCells]
  have NW:Nat.min ys.length len=0:=h0;rw[hv];cases ad<;>simp[Builtin.copy_,run_underlying ht,run_sizeOf fA,hlen,NW,hf,goInt,storeCells]
 unfold j8 at hA;split at hA
 ·rename_i k pth off len aN bN ck;split at hA
  ·rename_i sz'' l hg;obtain⟨⟨h1,rfl,rfl,rfl,h4⟩,hK⟩:=hA;have lx:=hg;rw[←hs.bx]at lx;obtain⟨ad,aX,hv,df⟩:=sQ.rs lx (by simpa[aU.aN]using h1);obtain⟨nD,jW,lu⟩:=hs.mem.blk k _ lx;by_cases h0:min ys.length len=0
   ·rw[h0]at hK;have kW:∀i,get (put Γ.bx k (.arr sz'' (l.take off++ys.take 0++l.drop (off+0)))) i=get Γ.bx i:=mR (by simpa using lx);have q1:=hs.le (p9 kW) (Ch hs.mem kW) (xH:=put s.bx k (.arr sz'' (l.take off++ys.take 0++l.drop (off+0)))) (by rw[hs.bx]);have q3:=q1.put (p:= .int .i64 0) (v:= .int .i64 0) hd cB;exact⟨_,_,w,_,_,none hv h0,.inl rfl,q3,hw,p9 kW,WF.refl w,hK⟩
   ·unfold gX at df;cases hι:Γ.ι k with
    |none=>rw[hι]at df;omega
    |
     some b=>
     rw[hι]at df lu
     obtain⟨o1,o2,_,_⟩:=df
     rcases o2 with o2|rfl
     ·omega
     obtain⟨c,ce,cs,rest,h7,h8,h9,Jb⟩:=lu
     have rh:cs.length=l.length*sz'':=by rw[h9.length,bf nD]
     have RZ:c.size=cs.length+rest.length:=by rw[←JbZ,h8];simp
     have A0:off*sz''+(min ys.length len)*sz''≤cs.length:=by
      rw[rh,←JgZ];exact JcV _ (by omega)
     simp only[bI,JhX]at hv
     obtain⟨w',r1,r2,r3⟩:=Ev (P:=P) (w:=w) (u:=u) (ty:=o.type) ht fA (b:=b) (o:=off*sz'') (dLen:=len) (dCap:=aX) (n:=min ys.length len) (c:=c) (ce:=ce) AT lK rfl yP.one (by rw[hw];exact h7) (by omega)
     rw[←hv]at r1
     have dk:(news.take (min ys.length len*sz'')).length=min ys.length len*sz'':=by rw[lJ,lK];exact JdW (JcV _ (by omega))
     have KG:bj c.toList (off*sz'') (news.take (min ys.length len*sz''))=bj cs (off*sz'') (news.take (min ys.length len*sz''))++rest:=by
      rw[h8];exact uz.splice_append (by omega)
     have DN:(bj c.toList (off*sz'') (news.take (min ys.length len*sz''))).toArray.size=c.size:=by
      have:=dI (cs:=c.toList) (us:=news.take (min ys.length len*sz'')) (o:=off*sz'') (by simp only[JbZ];omega);simpa using this
     have adO:(aU.arr sz'' (l.take off++ys.take (min ys.length len)++l.drop (off+min ys.length len))).aN=(aU.arr sz'' l).aN:=by simp[aU.aN];omega
     have hle:=mQ (Γ:=Γ) (bq:= .arr sz'' (l.take off++ys.take (min ys.length len)++l.drop (off+min ys.length len))) lx hι h7 DN (by omega)
     have iA:=pv (Γ:=Γ) (bq:= .arr sz'' (l.take off++ys.take (min ys.length len)++l.drop (off+min ys.length len))) hs.mem lx hι h7 DN (by omega)
      ⟨λx hx=>by
       rcases JaZ.1 hx with hx|hx
       ·rcases JaZ.1 hx with hx|hx
        ·exact nD x (JbX hx)
        ·exact BS x (JbX hx)
       ·exact nD x (JdJ hx),jW,_,ce,_,rest,by simp only[Cx.gm];rw[uJ (bS h7)],by simpa using KG,
       (h9.over nD yP BS off (min ys.length len) (by omega) (by omega)).mono hle,Jb⟩
     have t1:=hs.le hle iA (xH:=put s.bx k (.arr sz'' (l.take off++ys.take (min ys.length len)++l.drop (off+min ys.length len)))) (by simp[Cx.gm,hs.bx])
     have t3:=t1.put (p:= .int .i64 (min ys.length len:Nat)) (v:= .int .i64 (min ys.length len:Nat)) hd cB
     exact⟨_,_,w',_,_,DM r1,.inl rfl,t3,by rw[r2,hw];rfl,hle,r3,hK⟩
  ·rename_i v hg;split at hA
   ·rename_i sz'' n l KD;split at hA
    ·rename_i v' GR;obtain⟨⟨h1,rfl,rfl,h4⟩,hK⟩:=hA;have lx:=hg;rw[←hs.bx]at lx;obtain⟨ad,aX,hv,df⟩:=sQ.rs lx (by simpa[aU.aN]using h1);unfold gX at df;obtain⟨b,c,ce,hι,h7,h8⟩:=hs.mem.blk k _ lx;rw[hι]at df;obtain⟨o1,o2,_,_⟩:=df;obtain⟨g1,g2⟩:=r9 pth h8 KD;obtain⟨hl,hn,nD⟩:=g2.nL;have adP:PV.width (.ar sz'' n l)=n*sz'':=rfl;rw[adP]at g1 g2 hl;have R0:=hl.over nD yP BS off (min ys.length len) (by omega) (by omega);have dk:(news.take (min ys.length len*sz'')).length=min ys.length len*sz'':=by rw[lJ,lK];exact JdW (JcV _ (by omega))
     have A0:off*sz''+(min ys.length len)*sz''≤n*sz'':=by rw[←JgZ];exact JcV _ (by omega)
     have A7:aD Γ [.ar sz'' n (l.take off++ys.take (min ys.length len)++l.drop (off+min ys.length len))] (bj ((c.toList.drop (bI pth)).take (n*sz'')) (off*sz'') (news.take (min ys.length len*sz''))):=
      R0.Th (by simp;omega) (λx hx=>by
       rcases JaZ.1 hx with hx|hx
       ·rcases JaZ.1 hx with hx|hx
        ·exact nD x (JbX hx)
        ·exact BS x (JbX hx)
       ·exact nD x (JdJ hx))
     obtain⟨c2,e2,k1,k2,k3,k4⟩:=uz (bq:= .box v') (pth:=pth) hs.mem lx hι A7 (by simp only[uv,GR]);rw[h7]at k1;simp only[sJ,Obj.cells.injEq]at k1;obtain⟨rfl,rfl,_⟩:=k1;have Oi:=rk (cs:=c.toList) (us:=news.take (min ys.length len*sz'')) (o:=bI pth) (m:=n*sz'') (p:=off*sz'') g1 (by omega);by_cases h0:min ys.length len=0
     ·rw[h0]at hK;have adQ:news.take (min ys.length len*sz'')=[]:=by rw[h0];simp
      have ub:(bj c.toList (bI pth) (bj ((c.toList.drop (bI pth)).take (n*sz'')) (off*sz'') (news.take (min ys.length len*sz''))))=c.toList:=by
       rw[Oi,adQ];simp[bj]
      have hle:=mQ (Γ:=Γ) (c':=c) (bq:= .box v') lx hι h7 rfl (JaQ _);have iA:=pv (Γ:=Γ) (c':=c) (bq:= .box v') hs.mem lx hι h7 rfl (JaQ _) (k4 c ub.symm);have t1:=hs.le hle iA (xH:=put s.bx k (.box v')) (by simp[Cx.gm,hs.bx]);have t3:=t1.put (p:= .int .i64 0) (v:= .int .i64 0) hd cB;refine⟨_,_,w,_,_,none hv h0,.inl rfl,t3,?_,hle,WF.refl w,hK⟩;simp only[Cx.gm];rw[hw];apply Array.ext_getElem?;intro j;by_cases hj:b=j
      ·subst hj;rw[uJ (bS h7)];exact h7
      ·rw[Array.getElem?_setIfInBounds_ne hj]
     ·rcases o2 with o2|rfl
      ·omega
      obtain⟨w',r1,r2,r3⟩:=Ev (P:=P) (w:=w) (u:=u) (ty:=o.type) ht fA (b:=b) (o:=bI pth+off*sz'') (dLen:=len) (dCap:=aX) (n:=min ys.length len) (c:=c) (ce:=ce) AT lK rfl yP.one (by rw[hw];exact h7) (by simp only[JbZ]at g1;omega);rw[←hv]at r1;rw[←Oi]at r2
      have DN:(bj c.toList (bI pth) (bj ((c.toList.drop (bI pth)).take (n*sz'')) (off*sz'') (news.take (min ys.length len*sz'')))).toArray.size=c.size:=by
       rw[Oi];have:=dI (cs:=c.toList) (us:=news.take (min ys.length len*sz'')) (o:=bI pth+off*sz'') (by simp only[JbZ]at g1⊢;omega);simpa using this
      have hle:=mQ (Γ:=Γ) (bq:= .box v') lx hι h7 DN (JaQ _);have iA:=pv (Γ:=Γ) (bq:= .box v') hs.mem lx hι h7 DN (JaQ _) (k4 _ (by simp));have t1:=hs.le hle iA (xH:=put s.bx k (.box v')) (by simp[Cx.gm,hs.bx]);have t3:=t1.put (p:= .int .i64 (min ys.length len:Nat)) (v:= .int .i64 (min ys.length len:Nat)) hd cB;exact⟨_,_,w',_,_,DM r1,.inl rfl,t3,by rw[r2,hw];rfl,hle,r3,hK⟩
    ·exact hA.elim
   ·exact hA.elim
  ·exact hA.elim
 ·exact hA.elim
theorem D3 {z:PV} {zv:Value} (h:aD Γ [z] zv.cells.toList) (n:Nat):aD Γ (List.replicate n z) (Builtin.zeroCells zv.cells n).toList:=by
 have e:(Builtin.zeroCells zv.cells n).toList=(List.replicate n zv.cells.toList).flatten:=lL zv.cells n;rw[e];exact iO h n
theorem Ck {t e:TypeId} {ty:TypeId} {zv:Value} (ht:P.underlying t=some (.slice e)) (Oh:∀w,(zeroValue e).run P w= .ok zv w)
  {b o dLen dCap m:Nat} {news:List Value} {c:Array Value} {ce:TypeId} (hm:news.take m=news) (h0:0<dLen) (hn:news=(Builtin.zeroCells zv.cells dLen).toList) (h1:∀v∈news,ew v=true)
  (hb:w.heap[b]? =some (.cells c ce (0,0))) (A0:o+news.length≤c.size):
  ∃
   w',(Builtin.clear_ #[t] ty #[.slice (some ⟨b,o,none⟩) dLen dCap]).run P w= .ok (.tuple #[]) w'∧
   w'.heap=w.heap.setIfInBounds b (.cells (bj c.toList o (news.take m)).toArray ce (0,0))∧WF w w':=by
 rw[hm];obtain⟨w',g1,g2,g3⟩:=j6 (P:=P) news w b o 0 c ce hb (by omega) h1;refine⟨w',?_,by simpa using g2,g3⟩;obtain⟨m,rfl⟩:∃m,dLen=m+1:=⟨dLen-1,by omega⟩
 rw[hn]at g1;simp[Builtin.clear_,run_underlying ht,Oh,g1]
theorem OM {o:Oper} {t e:TypeId} {sz:Nat} {z:PV} {x:Operand} {x':AX} {K:St->Prop} (ho:o.op= .call {callee:= .builtin .clear,args:= #[x],argTypes:= #[t]})
  (ht:P.underlying t=some (.slice e)) (fA:gL P e=some sz) (hz:zeroOf P e=some z) (hx:gk x=some x') (hs:fX nt ds s Γ a) (hw:w.heap=Γ.heap) (he:ex s o.dst (.fill sz z x') K):jO P nt ds o a w Γ K:=by
 simp only[ex]at he;obtain⟨p,hp,sQ⟩:=bw hx hs rfl he;obtain⟨hdn,hp⟩:=hp;split at hp
 case h_2=>exact hp.elim
 rename_i k pth off len aN bN ck;obtain⟨zv,Oh,S0,DL,_,ZX⟩:=jZ (Γ:=Γ) hz;have WY:z.width=sz:=by rw[fA]at DL;exact(Option.some.inj DL).symm
 obtain⟨ys,Fl⟩:∃ys,ys=List.replicate len z:=⟨_,rfl⟩
 obtain⟨news,R5⟩:∃news,news=(Builtin.zeroCells zv.cells len).toList:=⟨_,rfl⟩
 have yP:aD Γ ys news:=by rw[Fl,R5];exact D3 S0 len
 have BS:∀x∈ys,x.width=sz:=by rw[Fl];intro x hx;rw[JlW hx];exact WY
 have lK:news.length=ys.length*sz:=by rw[yP.length,bf BS]
 have W5:ys.length=len:=by rw[Fl];simp
 have hA:j8 s none sz (.rs k pth off len aN bN ck) ys K:=by rw[Fl];exact hp
 have DM:∀ {r:Value} {w':World},(Builtin.clear_ #[t] o.type #[a.eval x]).run P w= .ok r w'->(execOp a.eval o).run P w= .ok (.value r) w':=by
  intro r w' h
  have e1:execOp a.eval o=(do Pure.pure (Next.value (←Builtin.clear_ #[t] o.type #[a.eval x]))):=by
   have e0:Array.map a.eval #[x]= #[a.eval x]:=by simp
   rw[←e0];have hb:builtin .clear #[t] o.type ((#[x]:Array Operand).map λ| .const _=>true|_=>false) (Array.map a.eval #[x])=(do Pure.pure (Next.value (←Builtin.clear_ #[t] o.type (Array.map a.eval #[x])))):=rfl;rw[←hb];unfold execOp;rw[ho];rfl
  rw[e1,bJ,h];rfl
 have none:∀ {ad:Option Addr} {len cap:Nat},a.eval x= .slice ad len cap->len=0->(execOp a.eval o).run P w= .ok (.value (.tuple #[])) w:=by
  intro ad len cap hv h0;refine DM ?_;rw[hv,h0];cases ad<;>simp[Builtin.clear_,run_underlying ht]
 unfold jO;rw[hdn];have S4:min ys.length len=len:=by rw[W5,Nat.min_self]
 have kX:news.take (min ys.length len*sz)=news:=tJ (by rw[lK,S4,W5];exact JaQ _);unfold j8 at hA;simp only at hA
 ·skip
  split at hA
  ·rename_i sz'' l hg;obtain⟨⟨h1,rfl,rfl,rfl,h4⟩,hK⟩:=hA;have lx:=hg;rw[←hs.bx]at lx;obtain⟨ad,aX,hv,df⟩:=sQ.rs lx (by simpa[aU.aN]using h1);obtain⟨nD,jW,lu⟩:=hs.mem.blk k _ lx;by_cases h0:min ys.length len=0
   ·rw[h0]at hK;have kW:∀i,get (put Γ.bx k (.arr sz'' (l.take off++ys.take 0++l.drop (off+0)))) i=get Γ.bx i:=mR (by simpa using lx);have q1:=hs.le (p9 kW) (Ch hs.mem kW) (xH:=put s.bx k (.arr sz'' (l.take off++ys.take 0++l.drop (off+0)))) (by rw[hs.bx]);exact⟨_,_,w,_,_,none hv (by omega),.inl rfl,q1,hw,p9 kW,WF.refl w,hK⟩
   ·unfold gX at df;cases hι:Γ.ι k with
    |none=>rw[hι]at df;omega
    |
     some b=>
     rw[hι]at df lu
     obtain⟨o1,o2,_,_⟩:=df
     rcases o2 with o2|rfl
     ·omega
     obtain⟨c,ce,cs,rest,h7,h8,h9,Jb⟩:=lu
     have rh:cs.length=l.length*sz'':=by rw[h9.length,bf nD]
     have RZ:c.size=cs.length+rest.length:=by rw[←JbZ,h8];simp
     have A0:off*sz''+(min ys.length len)*sz''≤cs.length:=by
      rw[rh,←JgZ];exact JcV _ (by omega)
     simp only[bI,JhX]at hv
     obtain⟨w',r1,r2,r3⟩:=Ck (P:=P) (w:=w) (ty:=o.type) ht Oh (b:=b) (o:=off*sz'') (dLen:=len) (dCap:=aX) (m:=min ys.length len*sz'') (c:=c) (ce:=ce) kX (by omega) R5 yP.one (by rw[hw];exact h7) (by rw[lK,W5];rw[S4]at A0;omega)
     rw[←hv]at r1
     have dk:(news.take (min ys.length len*sz'')).length=min ys.length len*sz'':=by rw[lJ,lK];exact JdW (JcV _ (by omega))
     have KG:bj c.toList (off*sz'') (news.take (min ys.length len*sz''))=bj cs (off*sz'') (news.take (min ys.length len*sz''))++rest:=by
      rw[h8];exact uz.splice_append (by omega)
     have DN:(bj c.toList (off*sz'') (news.take (min ys.length len*sz''))).toArray.size=c.size:=by
      have:=dI (cs:=c.toList) (us:=news.take (min ys.length len*sz'')) (o:=off*sz'') (by simp only[JbZ];omega);simpa using this
     have adO:(aU.arr sz'' (l.take off++ys.take (min ys.length len)++l.drop (off+min ys.length len))).aN=(aU.arr sz'' l).aN:=by simp[aU.aN];omega
     have hle:=mQ (Γ:=Γ) (bq:= .arr sz'' (l.take off++ys.take (min ys.length len)++l.drop (off+min ys.length len))) lx hι h7 DN (by omega)
     have iA:=pv (Γ:=Γ) (bq:= .arr sz'' (l.take off++ys.take (min ys.length len)++l.drop (off+min ys.length len))) hs.mem lx hι h7 DN (by omega)
      ⟨λx hx=>by
       rcases JaZ.1 hx with hx|hx
       ·rcases JaZ.1 hx with hx|hx
        ·exact nD x (JbX hx)
        ·exact BS x (JbX hx)
       ·exact nD x (JdJ hx),jW,_,ce,_,rest,by simp only[Cx.gm];rw[uJ (bS h7)],by simpa using KG,
       (h9.over nD yP BS off (min ys.length len) (by omega) (by omega)).mono hle,Jb⟩
     have t1:=hs.le hle iA (xH:=put s.bx k (.arr sz'' (l.take off++ys.take (min ys.length len)++l.drop (off+min ys.length len)))) (by simp[Cx.gm,hs.bx])
     exact⟨_,_,w',_,_,DM r1,.inl rfl,t1,by rw[r2,hw];rfl,hle,r3,hK⟩
  ·rename_i v hg;split at hA
   ·rename_i sz'' n l KD;split at hA
    ·rename_i v' GR;obtain⟨⟨h1,rfl,rfl,h4⟩,hK⟩:=hA;have lx:=hg;rw[←hs.bx]at lx;obtain⟨ad,aX,hv,df⟩:=sQ.rs lx (by simpa[aU.aN]using h1);unfold gX at df;obtain⟨b,c,ce,hι,h7,h8⟩:=hs.mem.blk k _ lx;rw[hι]at df;obtain⟨o1,o2,_,_⟩:=df;obtain⟨g1,g2⟩:=r9 pth h8 KD;obtain⟨hl,hn,nD⟩:=g2.nL;have adP:PV.width (.ar sz'' n l)=n*sz'':=rfl;rw[adP]at g1 g2 hl;have R0:=hl.over nD yP BS off (min ys.length len) (by omega) (by omega);have dk:(news.take (min ys.length len*sz'')).length=min ys.length len*sz'':=by rw[lJ,lK];exact JdW (JcV _ (by omega))
     have A0:off*sz''+(min ys.length len)*sz''≤n*sz'':=by rw[←JgZ];exact JcV _ (by omega)
     have A7:aD Γ [.ar sz'' n (l.take off++ys.take (min ys.length len)++l.drop (off+min ys.length len))] (bj ((c.toList.drop (bI pth)).take (n*sz'')) (off*sz'') (news.take (min ys.length len*sz''))):=
      R0.Th (by simp;omega) (λx hx=>by
       rcases JaZ.1 hx with hx|hx
       ·rcases JaZ.1 hx with hx|hx
        ·exact nD x (JbX hx)
        ·exact BS x (JbX hx)
       ·exact nD x (JdJ hx))
     obtain⟨c2,e2,k1,k2,k3,k4⟩:=uz (bq:= .box v') (pth:=pth) hs.mem lx hι A7 (by simp only[uv,GR]);rw[h7]at k1;simp only[sJ,Obj.cells.injEq]at k1;obtain⟨rfl,rfl,_⟩:=k1;have Oi:=rk (cs:=c.toList) (us:=news.take (min ys.length len*sz'')) (o:=bI pth) (m:=n*sz'') (p:=off*sz'') g1 (by omega);by_cases h0:min ys.length len=0
     ·rw[h0]at hK;have adQ:news.take (min ys.length len*sz'')=[]:=by rw[h0];simp
      have ub:(bj c.toList (bI pth) (bj ((c.toList.drop (bI pth)).take (n*sz'')) (off*sz'') (news.take (min ys.length len*sz''))))=c.toList:=by
       rw[Oi,adQ];simp[bj]
      have hle:=mQ (Γ:=Γ) (c':=c) (bq:= .box v') lx hι h7 rfl (JaQ _);have iA:=pv (Γ:=Γ) (c':=c) (bq:= .box v') hs.mem lx hι h7 rfl (JaQ _) (k4 c ub.symm);have t1:=hs.le hle iA (xH:=put s.bx k (.box v')) (by simp[Cx.gm,hs.bx]);refine⟨_,_,w,_,_,none hv (by omega),.inl rfl,t1,?_,hle,WF.refl w,hK⟩;simp only[Cx.gm];rw[hw];apply Array.ext_getElem?;intro j;by_cases hj:b=j
      ·subst hj;rw[uJ (bS h7)];exact h7
      ·rw[Array.getElem?_setIfInBounds_ne hj]
     ·rcases o2 with o2|rfl
      ·omega
      obtain⟨w',r1,r2,r3⟩:=Ck (P:=P) (w:=w) (ty:=o.type) ht Oh (b:=b) (o:=bI pth+off*sz'') (dLen:=len) (dCap:=aX) (m:=min ys.length len*sz'') (c:=c) (ce:=ce) kX (by omega) R5 yP.one (by rw[hw];exact h7) (by simp only[JbZ]at g1;rw[lK,W5];rw[S4]at A0;omega);rw[←hv]at r1;rw[←Oi]at r2
      have DN:(bj c.toList (bI pth) (bj ((c.toList.drop (bI pth)).take (n*sz'')) (off*sz'') (news.take (min ys.length len*sz'')))).toArray.size=c.size:=by
       rw[Oi];have:=dI (cs:=c.toList) (us:=news.take (min ys.length len*sz'')) (o:=bI pth+off*sz'') (by simp only[JbZ]at g1⊢;omega);simpa using this
      have hle:=mQ (Γ:=Γ) (bq:= .box v') lx hι h7 DN (JaQ _);have iA:=pv (Γ:=Γ) (bq:= .box v') hs.mem lx hι h7 DN (JaQ _) (k4 _ (by simp));have t1:=hs.le hle iA (xH:=put s.bx k (.box v')) (by simp[Cx.gm,hs.bx]);exact⟨_,_,w',_,_,DM r1,.inl rfl,t1,by rw[r2,hw];rfl,hle,r3,hK⟩
    ·exact hA.elim
   ·exact hA.elim
  ·exact hA.elim
end Go.Ab
namespace Go.Ab
variable [cK]
variable {P:Program} {nt:Nat} {ds:List Deferred} {s:St} {Γ:Cx} {a:Act} {w:World}
theorem MD {own ng:Bool} {op:BinOp} {t yt:TypeId} {x y:Operand} {p:AX} (hk:jX P own (.binOp op t x y yt)=some (.isNil ng p)):
  (op= .eql∨op= .neq)∧(∃e,P.underlying t=some (.slice e))∧y= .const (.slice none 0 0)∧ng=decide (op= .neq)∧gk x=some p:=by
 simp only[jX]at hk;split at hk
 ·rename_i q r hx hy;split at hk
  ·rename_i ho;split at hk
   ·simp at hk
   ·simp at hk
   ·simp at hk
   ·simp at hk
   ·simp at hk
   ·rename_i e hu;split at hk
    ·simp only[sJ,AK.isNil.injEq]at hk;exact⟨ho,⟨e,hu⟩,rfl,hk.1.symm,by rw[hx,hk.2]⟩
    ·simp at hk
   ·split at hk
    ·split at hk<;>simp at hk
    ·simp at hk
   ·split at hk
    ·split at hk<;>simp at hk
    ·simp at hk
   ·simp at hk
  ·simp at hk
 ·simp at hk
theorem aK.slnil {sz:Nat} {l:List PV} {c:Bool} {v:Value} (h:aK Γ (.sl sz l c) v):∃ad n rc,v= .slice ad n rc∧(ad.isNone=true->l=[]):=by
 simp only[aK]at h;cases h with
 |
  sl _ _ _ ad aX h1 h2 h3 h4 h5 _=>
  refine⟨ad,_,aX,rfl,λhn=> ?_⟩
  by_cases hl:l=[]
  ·exact hl
  ·obtain⟨b,o,e,_⟩:=h5 hl
   rw[e]at hn;simp at hn
theorem aK.ah4 {k off len aN sz:Nat} {p:List Step} {c:ft} {v:Value} {blk:aU} (h:aK Γ (.rs k p off len aN sz c) v) (hb:get Γ.bx k=some blk) (ht:aN=blk.aN):∃ad n rc,v= .slice ad n rc∧(ad.isNone=true->len=0):=by
 simp only[aK]at h;cases h with
 |
  rs _ _ _ _ _ _ _ _ bq h1 h2 h3 _=>
  rw[hb]at h1
  obtain⟨h1,_⟩:=h1
  cases h1
  obtain⟨ad,rc,rfl,hr⟩:=h3 ht
  refine⟨ad,_,rc,rfl,λhn=> ?_⟩
  unfold gX at hr
  split at hr
  ·exact hr.1
  ·obtain⟨h4,h5,_⟩:=hr
   rcases h5 with h5|h5
   ·omega
   ·rw[h5]at hn;simp at hn
theorem Jl {t e:TypeId} {ad:Option Addr} {n c:Nat} (h:P.underlying t=some (.slice e)):(Op.equalIn 10000 t (.slice ad n c) (.slice none 0 0)).run P w= .ok ad.isNone w:=by
 have:∀d,(Op.equalIn (d+1) t (.slice ad n c) (.slice none 0 0)).run P w= .ok ad.isNone w:=by
  intro d;cases ad with
  |none=>simp only[Op.equalIn,bJ,run_underlying h,rJ];rfl
  |some ad=>simp only[Op.equalIn,bJ,run_underlying h,rJ];rfl
 exact this 9999
theorem ME {o:Oper} {own ng:Bool} {op:BinOp} {t yt:TypeId} {x y:Operand} {p:AX} {K:St->Prop} (ho:o.op= .binOp op t x y yt) (hk:jX P own (.binOp op t x y yt)=some (.isNil ng p)) (hs:fX nt ds s Γ a) (hw:w.heap=Γ.heap)
  (hd:∀k,o.dst=some k->k<nt) (he:ex s o.dst (.isNil ng p) K):jO P nt ds o a w Γ K:=by
 obtain⟨nK,⟨e,hu⟩,rfl,rfl,hx⟩:=MD hk;simp only[ex]at he;obtain⟨q,hq,hr⟩:=bw hx hs rfl he
 have fin:∀ {ad:Option Addr} {n c:Nat},a.eval x= .slice ad n c->K (s.put o.dst (.bl (ad.isNone !=decide (op= .neq))))->jO P nt ds o a w Γ K:=by
  intro ad n c hv hK;have fN:=sS (P:=P) (w:=w) (Jl (ad:=ad) (n:=n) (c:=c) hu) rfl rfl op nK;refine p7 hs hd (Le.refl Γ) hs.mem rfl (v:= .bool (ad.isNone !=decide (op= .neq))) ?_ hw (WF.refl w) ?_ hK
  ·unfold execOp;rw[ho]
   have hg:(eqGuard op t x (.const (.slice none 0 0)) (.slice ad n c) (.slice none 0 0)).run P w= .ok () w:=by
    unfold eqGuard;rcases nK with rfl|rfl<;>rfl
   have e2:a.eval (.const (.slice none 0 0))= .slice none 0 0:=rfl;simp only[hv,e2,bJ,hg,rJ,fN];rcases nK with rfl|rfl<;>cases ad<;>rfl
  ·simp only[aK];exact .bl _ .nil
 split at hq
 ·obtain⟨ad,n,c,hv,hn⟩:=hr.slnil;exact fin hv (hq _ hn)
 ·split at hq
  ·rename_i blk hb;rw[←hs.bx]at hb;obtain⟨ad,n,c,hv,hn⟩:=hr.ah4 hb hq.1;exact fin hv (hq.2 _ hn)
  ·exact hq.elim
 ·exact hq.elim
end Go.Ab
namespace Go.Ab
variable [cK]
variable {P:Program} {nt:Nat} {ds:List Deferred} {s:St} {Γ:Cx} {a:Act} {w:World}
mutual
def af (f:Nat->Bool):PV->Bool
 | .rs k _ _ _ _ _ _=>f k
 | .pt k _ _=>f k
 | .st _ l=>ah f l
 | .ar _ _ l=>ah f l
 | .tup l=>ah f l
 | .sl _ l _=>ah f l
 | .fp _ l _=>ah f l
 | .fn _ x y=>ah f x&&ah f y
 | .gd _ p=>af f p
 | .ifc _ p=>af f p
 |_=>true
def ah (f:Nat->Bool):List PV->Bool
 |[]=>true
 |p::l=>af f p&&ah f l
end
mutual
def aE (ρ:Nat->Nat):PV->PV
 | .rs k p o l t z c=> .rs (ρ k) p o l t z c
 | .pt k p t=> .pt (ρ k) p t
 | .st w l=> .st w (aS ρ l)
 | .ar z n l=> .ar z n (aS ρ l)
 | .tup l=> .tup (aS ρ l)
 | .sl z l c=> .sl z (aS ρ l) c
 | .fp z l p=> .fp z (aS ρ l) p
 | .fn f x y=> .fn f (aS ρ x) (aS ρ y)
 | .gd b p=> .gd b (aE ρ p)
 | .ifc t p=> .ifc t (aE ρ p)
 |p=>p
def aS (ρ:Nat->Nat):List PV->List PV
 |[]=>[]
 |p::l=>aE ρ p::aS ρ l
end
theorem pI (ρ:Nat->Nat) (p:PV):(aE ρ p).width=p.width:=by cases p<;>simp[aE,PV.width]
theorem y6 (ρ:Nat->Nat) (p:PV):(aE ρ p).isAgg=p.isAgg:=by cases p<;>simp[aE,PV.isAgg]
theorem me (ρ:Nat->Nat) (l:List PV):(aS ρ l).length=l.length:=by induction l<;>simp[aS, *]
theorem sj {ρ:Nat->Nat} {l:List PV} {q:PV} (h:q∈aS ρ l):∃p∈l,q=aE ρ p:=by
 induction l with
 |nil=>simp[aS]at h
 |
  cons x l ih=>
  simp only[aS,cJ]at h
  rcases h with h|h
  ·exact⟨x,by simp,h⟩
  ·obtain⟨p,hp,e⟩:=ih h;exact⟨p,by simp[hp],e⟩
mutual
theorem Cl {ρ:Nat->Nat} {f:Nat->Bool} (h:∀k,f k=true->ρ k=k):∀p,af f p=true->aE ρ p=p
 | .rs k _ _ _ _ _ _,hp=>by simp only[af]at hp;simp[aE,h k hp]
 | .pt k _ _,hp=>by simp only[af]at hp;simp[aE,h k hp]
 | .st _ l,hp=>by simp only[af]at hp;simp[aE,og h l hp]
 | .ar _ _ l,hp=>by simp only[af]at hp;simp[aE,og h l hp]
 | .tup l,hp=>by simp only[af]at hp;simp[aE,og h l hp]
 | .sl _ l _,hp=>by simp only[af]at hp;simp[aE,og h l hp]
 | .fp _ l _,hp=>by simp only[af]at hp;simp[aE,og h l hp]
 | .fn _ x y,hp=>by simp only[af,aJ]at hp;simp[aE,og h x hp.1,og h y hp.2]
 | .gd _ p,hp=>by simp only[af]at hp;simp[aE,Cl h p hp]
 | .ifc _ p,hp=>by simp only[af]at hp;simp[aE,Cl h p hp]
 | .un,_=>by simp[aE]
 | .bl _,_=>by simp[aE]
 | .int _ _,_=>by simp[aE]
 | .str _,_=>by simp[aE]
 | .np,_=>by simp[aE]
 | .nf,_=>by simp[aE]
 | .ni,_=>by simp[aE]
 | .mp ..,_=>by simp[aE]
theorem og {ρ:Nat->Nat} {f:Nat->Bool} (h:∀k,f k=true->ρ k=k):∀l,ah f l=true->aS ρ l=l
 |[],_=>rfl
 |p::l,hp=>by simp only[ah,aJ]at hp;simp[aS,Cl h p hp.1,og h l hp.2]
end
structure y7 (f:Nat->Bool) (ρ:Nat->Nat) (Γ Δ:Cx):Prop where
 heap:Δ.heap=Γ.heap
 own:∀b,b<Γ.heap.size->¬Γ.own b->¬Δ.own b
 ref:∀k blk,f k=true->get Γ.bx k=some blk->∃bq,get Δ.bx (ρ k)=some bq∧bq.aN=blk.aN∧Δ.ι (ρ k)=Γ.ι k
theorem gX.aE {Δ:Cx} {k k' off len sz:Nat} {p:List Step} {c:ft} {ad:Option Addr} {aX:Nat} (h:gX Γ k p off len sz c ad aX) (hι:Δ.ι k'=Γ.ι k) (hh:Δ.heap=Γ.heap):gX Δ k' p off len sz c ad aX:=by
 unfold gX at*;rw[hι,hh];exact h
theorem aD.aE {f:Nat->Bool} {ρ:Nat->Nat} {Δ:Cx} (hs:y7 f ρ Γ Δ) {l:List PV} {cs:List Value} (h:aD Γ l cs):ah f l=true->aD Δ (aS ρ l) cs:=by
 induction h with
 |nil=>intro _;exact .nil
 |un h hr ih=>intro hf;simp only[ah,aJ]at hf;exact .un h (ih hf.2)
 |bl x hr ih=>intro hf;simp only[ah,aJ]at hf;exact .bl x (ih hf.2)
 |int k n hr ih=>intro hf;simp only[ah,aJ]at hf;exact .int k n (ih hf.2)
 |str l s h hr ih=>intro hf;simp only[ah,aJ]at hf;exact .str l s h (ih hf.2)
 |st w l hl hw hr ihl ih=>intro hf;simp only[ah,af,aJ]at hf;exact .st w _ (ihl hf.1) hw (ih hf.2)
 |
  ar sz n l hl hn hw hr ihl ih=>
  intro hf;simp only[ah,af,aJ]at hf
  refine .ar sz n _ (ihl hf.1) (by rw[me];exact hn) (λx hx=> ?_) (ih hf.2)
  obtain⟨p,hp,rfl⟩:=sj hx
  rw[pI];exact hw p hp
 |
  sl sz l clip ad aX hl hw hc hk hb hr ihl ih=>
  intro hf;simp only[ah,af,aJ]at hf
  have:=aD.sl (Γ:=Δ) sz (aS ρ l) clip ad aX (ihl hf.1) (λx hx=>by obtain⟨p,hp,rfl⟩:=sj hx;rw[pI];exact hw p hp) (by rw[me];exact hc) (by rw[me];exact hk)
   (λcS=>by
    obtain⟨b,o,h1,h2,h3,h4⟩:=hb (by intro h;subst h;simp[aS]at cS);exact⟨b,o,h1,by rw[hs.heap];exact h2,hs.own b h2 h3,by rw[hs.heap];exact h4⟩) (ih hf.2)
  rw[me]at this
  exact this
 |
  rs k p off len aN sz c v blk hg h1 hv hr ih=>
  intro hf;simp only[ah,af,aJ]at hf
  obtain⟨bq,g1,g2,g3⟩:=hs.ref k blk hf.1 hg.1
  refine .rs (ρ k) p off len aN sz c v bq ⟨g1,by rw[g2];exact hg.2⟩ h1 (λht=> ?_) (ih hf.2)
  obtain⟨ad,aX,e1,e2⟩:=hv (by rw[ht,g2])
  exact⟨ad,aX,e1,e2.aE g3 hs.heap⟩
 |np hr ih=>intro hf;simp only[ah,aJ]at hf;exact .np (ih hf.2)
 |
  pt k p aN v blk hg h1 hv hr ih=>
  intro hf;simp only[ah,af,aJ]at hf
  obtain⟨bq,g1,g2,g3⟩:=hs.ref k blk hf.1 hg.1
  refine .pt (ρ k) p aN v bq ⟨g1,by rw[g2];exact hg.2⟩ h1 (λht=> ?_) (ih hf.2)
  obtain⟨b,e1,e2⟩:=hv (by rw[ht,g2])
  exact⟨b,by rw[g3,e1],e2⟩
 |
  fp sz l p b o hl hw hm hc hr ihl ih=>
  intro hf;simp only[ah,af,aJ]at hf
  exact .fp sz _ p b o (ihl hf.1) (λx hx=>by obtain⟨p,hp,rfl⟩:=sj hx;rw[pI];exact hw p hp) ⟨by rw[hs.heap];exact hm.1,hs.own b hm.1 hm.2⟩ (by rw[hs.heap];exact hc) (ih hf.2)
 |
  fn g first cap h1 h2 h3 h4 hr i1 i2 ih=>
  intro hf;simp only[ah,af,aJ]at hf
  exact .fn g _ _ (i1 hf.1.1) (i2 hf.1.2) (λx hx=>by obtain⟨p,hp,rfl⟩:=sj hx;rw[y6];exact h3 p hp) (λx hx=>by obtain⟨p,hp,rfl⟩:=sj hx;rw[y6];exact h4 p hp) (ih hf.2)
 |nf hr ih=>intro hf;simp only[ah,aJ]at hf;exact .nf (ih hf.2)
 |
  ifc t v h1 h2 hr i1 ih=>
  intro hf;simp only[ah,af,aJ]at hf
  have:=i1 (by simp[ah,hf.1])
  simp only[aS]at this
  exact .ifc t _ this (by rw[y6];exact h2) (ih hf.2)
 |ni hr ih=>intro hf;simp only[ah,aJ]at hf;exact .ni (ih hf.2)
 |mp k b hr ih=>intro hf;simp only[ah,aJ]at hf;exact .mp k b (ih hf.2)
theorem aD.bz {f:Nat->Bool} {ρ:Nat->Nat} {Δ:Cx} (hs:y7 f ρ Γ Δ) {p:PV} {cs:List Value} (h:aD Γ [p] cs) (hf:af f p=true):aD Δ [Ab.aE ρ p] cs:=by
 have:=h.aE hs (by simp[ah,hf]);simpa only[aS]using this
theorem gI.aE {f:Nat->Bool} {ρ:Nat->Nat} {Δ:Cx} (hs:y7 f ρ Γ Δ) {p:PV} {v:Value} (h:gI Γ p v) (hf:af f p=true):gI Δ (Ab.aE ρ p) v:=by
 cases p
 case un=>trivial
 case st w l=>obtain⟨cs,h1,h2⟩:=h;exact⟨cs,h1,h2.bz hs hf⟩
 case ar sz n l=>obtain⟨cs,h1,h2⟩:=h;exact⟨cs,h1,h2.bz hs hf⟩
 all_goals exact aD.bz hs h hf
theorem aK.aE {f:Nat->Bool} {ρ:Nat->Nat} {Δ:Cx} (hs:y7 f ρ Γ Δ):∀ {p:PV} {v:Value},aK Γ p v->af f p=true->aK Δ (Ab.aE ρ p) v:=by
 have h2:∀ {l:List PV} {vs:List Value},kI Γ l vs->ah f l=true->kI Δ (aS ρ l) vs:=by
  intro l;induction l with
  |nil=>intro vs h hf;cases vs<;>simp_all [kI,aS]
  |
   cons p l ih=>
   intro vs h hf
   simp only[ah,aJ]at hf
   cases vs with
   |nil=>simp[kI]at h
   |cons v vs=>simp only[kI,aS]at h⊢;exact⟨h.1.aE hs hf.1,ih h.2 hf.2⟩
 intro p;induction p using PV.rec (motive_2:=λ_=>True)with
 |gd b p ih=>intro v h hf;simp only[Ab.aE,af]at hf⊢;rw[aK]at h⊢;exact⟨λhb=>ih (h.1 hb) hf,h.2⟩
 |tup l=>intro v h hf;simp only[aK,Ab.aE,af]at h hf⊢;obtain⟨vs,e,h⟩:=h;exact⟨vs,e,h2 h hf⟩
 |un=>intro v h hf;simp[aK,Ab.aE]
 |st w l=>intro v h hf;obtain⟨cs,e,h⟩:=h;exact⟨cs,e,h.bz hs hf⟩
 |ar sz n l=>intro v h hf;obtain⟨cs,e,h⟩:=h;exact⟨cs,e,h.bz hs hf⟩
 |nil=>trivial
 |cons=>trivial
 |_=>intro v h hf;exact aD.bz hs h hf
def az (ρ:Nat->Nat):aU->aU
 | .box v=> .box (Ab.aE ρ v)
 | .arr sz l=> .arr sz (aS ρ l)
 | .map b ks vs l=> .map b ks vs l
def ab (f:Nat->Bool):aU->Bool
 | .box v=>af f v
 | .arr _ l=>ah f l
 | .map .. =>true
theorem js (ρ:Nat->Nat) (b:aU):(az ρ b).aN=b.aN:=by cases b<;>simp[az,aU.aN,me]
theorem aU.xz.aE {f:Nat->Bool} {ρ:Nat->Nat} {Δ:Cx} (hs:y7 f ρ Γ Δ) {blk:aU} {ob:Option Nat} (h:blk.xz Γ ob) (hf:ab f blk=true):(az ρ blk).xz Δ ob:=by
 cases blk with
 |
  box v=>
  obtain⟨b,c,e,h1,h2,h3⟩:=h
  exact⟨b,c,e,h1,by rw[hs.heap];exact h2,h3.bz hs hf⟩
 |
  arr sz l=>
  obtain⟨h1,h2,h3⟩:=h
  refine⟨λx hx=>by obtain⟨p,hp,rfl⟩:=sj hx;rw[pI];exact h1 p hp,h2,?_⟩
  cases ob with
  |none=>trivial
  |
   some b=>
   obtain⟨c,e,cs,rest,h4,h5,h6,h7⟩:=h3
   exact⟨c,e,cs,rest,by rw[hs.heap];exact h4,h5,h6.aE hs hf,h7⟩
 |
  map b ks vs l=>
  obtain⟨h1,h2⟩:=h
  exact⟨h1,by rw[hs.heap];exact h2⟩
end Go.Ab
namespace Go.Ab
variable [cK]
variable {P:Program} {nt:Nat} {ds:List Deferred} {s:St} {Γ:Cx} {a:Act} {w:World}
def KB:Nat:=9000
def av:Nat->List aU->List (Nat×aU)
 |_,[]=>[]
 |i,b::r=>(KB+i,b)::av (i+1) r
theorem Ey (B:Nat):∀(l:List aU) (i k:Nat),get ((l.zipIdx i).map λx=>(B+x.2,x.1)) k=if B+i≤k then l[k-B-i]?else none
 |[],i,k=>by simp[get]
 |
  b::l,i,k=>by
  have ih:=Ey B l (i+1) k
  rw[List.zipIdx_cons,JdX]
  unfold get
  rw[ih]
  by_cases h:B+i=k
  ·rw[if_pos h,if_pos (by omega),show k-B-i=0 by omega];rfl
  ·rw[if_neg h]
   by_cases h2:B+i≤k
   ·rw[if_pos h2,if_pos (by omega),show k-B-i=(k-B-(i+1))+1 by omega,List.getElem?_cons_succ]
   ·rw[if_neg h2,if_neg (by omega)]
theorem KX:∀(l:List aU) (i:Nat),av i l=(l.zipIdx i).map λx=>(KB+x.2,x.1)
 |[],i=>rfl
 |b::l,i=>by rw[av,KX l (i+1),List.zipIdx_cons,JdX]
theorem fw (l:List aU) (i k:Nat):get (av i l) k=if KB+i≤k then l[k-KB-i]?else none:=by
 rw[KX];exact Ey KB l i k
def eY (Γ:Cx):List PV->List Value->Prop
 |[],[]=>True
 |p::ps,v::vs=>aK Γ p v∧eY Γ ps vs
 |_,_=>False
def Ez (P:Program) (f:FuncId) (vs:Array Value) (w:World) (Q:Ending->World->Prop):Prop:=
 ((callFunc f vs).run P w= .ok (.enter f vs) w∧Calls P f vs w Q)∨∃v w',(callFunc f vs).run P w= .ok (.value v) w'∧Q (.returned v) w'
theorem Ez.mono {f:FuncId} {vs:Array Value} {w:World} {Q Q':Ending->World->Prop} (h:Ez P f vs w Q) (hq:∀e w',Q e w'->Q' e w'):Ez P f vs w Q':=by
 rcases h with⟨h1,h2⟩|⟨v,w',h1,h2⟩
 ·exact .inl ⟨h1,h2.mono hq⟩
 ·exact .inr ⟨v,w',h1,hq _ _ h2⟩
theorem Ez.calls {f:FuncId} {vs:Array Value} {w:World} {Q:Ending->World->Prop} (h:Ez P f vs w Q) (he:(callFunc f vs).run P w= .ok (.enter f vs) w):Calls P f vs w Q:=by
 rcases h with⟨h1,h2⟩|⟨v,w',h1,h2⟩
 ·exact h2
 ·rw[he]at h1;simp at h1
def ae (P:Program) (f:FuncId) (args:List PV) (fp:List aU) (R:PV->List aU->Prop):Prop:=
 ∀
  (Γ:Cx) (w:World) (vs:List Value),w.heap=Γ.heap->Mem Γ->Γ.bx=av 0 fp->eY Γ args vs->
  Ez P f vs.toArray w (λe w'=>∃v r xp Γ',e= .returned v∧R r xp∧w'.heap=Γ'.heap∧Mem Γ'∧Γ'.bx=av 0 xp∧aK Γ' r v∧Le Γ Γ'∧WF w w')
theorem ae.mono {f:FuncId} {args:List PV} {fp:List aU} {R R':PV->List aU->Prop} (h:ae P f args fp R) (hr:∀r xp,R r xp->R' r xp):ae P f args fp R':=by
 intro Γ w vs h1 h2 h3 h4;refine(h Γ w vs h1 h2 h3 h4).mono ?_;rintro e w' ⟨v,r,xp,Γ',e1,e2,e3⟩;exact⟨v,r,xp,Γ',e1,hr _ _ e2,e3⟩
def idx:List Nat->Nat->Option Nat
 |[],_=>none
 |x::r,k=>if x=k then some 0 else match idx r k with|some i=>some (i+1)|none=>none
theorem oh:∀ {l:List Nat} {k i:Nat},idx l k=some i->l[i]? =some k
 |[],k,i,h=>by simp[idx]at h
 |
  x::r,k,i,h=>by
  simp only[idx]at h
  split at h
  ·simp at h;subst_vars;rfl
  ·split at h
   ·rename_i j hj
    simp at h;subst h
    simpa using oh hj
   ·simp at h
theorem Cm:∀ {l:List Nat} {k i:Nat},l.Nodup->l[i]? =some k->idx l k=some i
 |[],k,i,_,h=>by simp at h
 |
  x::r,k,i,hn,h=>by
  rw[JiZ]at hn
  cases i with
  |zero=>simp at h;subst h;simp[idx]
  |
   succ i=>
   simp at h
   have cS:x≠k:=by intro e;subst e;exact hn.1 (JeQ h)
   simp[idx,cS,Cm hn.2 h]
theorem Hm {l:List Nat} {k:Nat} (h:idx l k=none):k∉l:=by
 induction l with
 |nil=>simp
 |
  cons x r ih=>
  simp only[idx]at h
  split at h
  ·simp at h
  ·split at h
   ·simp at h
   ·rename_i cS _ hr
    simp only[cJ,not_or]
    exact⟨λe=>cS e.symm,ih hr⟩
def getAll (bx:List (Nat×aU)):List Nat->Option (List aU)
 |[]=>some []
 |k::r=>match get bx k,getAll bx r with|some b,some l=>some (b::l)|_,_=>none
theorem dD:∀ {ks:List Nat} {bx:List (Nat×aU)} {l:List aU},getAll bx ks=some l->l.length=ks.length∧∀(i:Nat) k,ks[i]? =some k->∃b,get bx k=some b∧l[i]? =some b
 |[],bx,l,h=>by simp[getAll]at h;subst h;simp
 |
  k::r,bx,l,h=>by
  simp only[getAll]at h
  split at h
  ·rename_i b l' hb hl
   simp only[sJ]at h;subst h
   obtain⟨h1,h2⟩:=dD hl
   refine⟨by simp[h1],λi j hj=> ?_⟩
   cases i with
   |zero=>simp at hj;subst hj;exact⟨b,hb,rfl⟩
   |succ i=>simp at hj;simpa using h2 i j hj
  ·simp at h
def aI (bx:List (Nat×aU)):List Nat->List aU->List (Nat×aU)
 |k::ks,b::bs=>aI (put bx k b) ks bs
 |_,_=>bx
theorem wO:∀ {ks:List Nat} {bs:List aU} {bx:List (Nat×aU)} (k:Nat),ks.Nodup->bs.length=ks.length->get (aI bx ks bs) k=match idx ks k with|some i=>bs[i]? |none=>get bx k
 |[],bs,bx,k,_,hl=>by cases bs<;>simp_all [aI,idx]
 |
  x::r,bs,bx,k,hn,hl=>by
  cases bs with
  |nil=>simp at hl
  |
   cons b bs=>
   rw[JiZ]at hn
   simp only[aI,wO k hn.2 (by simpa using hl),idx]
   by_cases hx:x=k
   ·subst hx
    have:idx r x=none:=by
     cases hi:idx r x with
     |none=>rfl
     |some i=>exact absurd (JeQ (oh hi)) hn.1
    simp[this,bG]
   ·rw[if_neg hx]
    cases idx r k with
    |none=>simp[bp _ _ _ _ hx]
    |some i=>simp
def bz (ks:List Nat) (k:Nat):Nat:=match idx ks k with|some i=>KB+i|none=>k
def cL (ks:List Nat) (k:Nat):Nat:=if KB≤k then(ks[k-KB]?).getD k else k
def bT (ks:List Nat) (k:Nat):Bool:=(idx ks k).isSome
def cY (n:Nat) (k:Nat):Bool:=decide (KB≤k∧k<KB+n)
def xI (P:Program) (s:St) (d:Option Nat) (f:FuncId) (args:List PV) (ks os:List Nat) (K:St->Prop):Prop:=
 ∃
  bL R,getAll s.bx ks=some bL∧(ks++os).Nodup∧(∀o∈os,get s.bx o=none)∧ah (bT ks) args=true∧bL.all (ab (bT ks))=true∧
  ae P f (aS (bz ks) args) (bL.map (az (bz ks))) R∧
  ∀
   r fp,R r fp->(fp.length=(ks++os).length∧af (cY fp.length) r=true∧fp.all (ab (cY fp.length))=true)∧
   K ({s with bx:=aI s.bx (ks++os) (fp.map (az (cL (ks++os))))}.put d (aE (cL (ks++os)) r))
def Cx.call (Γ:Cx) (ks:List Nat) (bL:List aU):Cx:=
 {
  heap:=Γ.heap,ι:=λk=>if KB≤k then(match ks[k-KB]?with|some j=>Γ.ι j|none=>none)else none,
  bx:=av 0 (bL.map (az (bz ks))),b9:=λb=>Γ.own b∧¬∃(i:Nat) (k:Nat),ks[i]? =some k∧Γ.ι k=some b}
def Cx.back (Γ Γ':Cx) (all:List Nat) (fp:List aU):Cx:=
 {
  heap:=Γ'.heap,ι:=λk=>match idx all k with|some i=>Γ'.ι (KB+i)|none=>Γ.ι k,
  bx:=aI Γ.bx all (fp.map (az (cL all))),b9:=Γ.b9}
theorem Cx.sn {ks:List Nat} {bL:List aU} (hg:getAll Γ.bx ks=some bL):y7 (bT ks) (bz ks) Γ (Γ.call ks bL) where
 heap:=rfl
 own b _ hn:=by
  rintro(⟨k,blk,h1,h2⟩|⟨h,_⟩)
  ·simp only[Cx.call]at h2;split at h2
   ·split at h2
    ·rename_i j hj;obtain⟨_,b6⟩:=dD hg;obtain⟨b',g1,_⟩:=b6 _ _ hj;exact hn (.inl ⟨j,b',g1,h2⟩)
    ·simp at h2
   ·simp at h2
  ·exact hn h
 ref k blk hk hb:=by
  obtain⟨i,hi⟩:=JaW.1 hk;obtain⟨hl,b6⟩:=dD hg;obtain⟨b',g1,g2⟩:=b6 i k (oh hi);rw[hb]at g1;cases g1;refine⟨az (bz ks) blk,?_,js _ _,?_⟩
  ·simp only[Cx.call,bz,hi,fw];rw[if_pos (by omega)];simp[g2]
  ·simp only[Cx.call,bz,hi];rw[if_pos (by omega)];simp[oh hi]
theorem Cx.mf {ks:List Nat} {bL:List aU} (hg:getAll Γ.bx ks=some bL) {b:Nat}:(Γ.call ks bL).gn b↔∃(i:Nat) (k:Nat),ks[i]? =some k∧Γ.ι k=some b:=by
 obtain⟨hl,b6⟩:=dD hg;constructor
 ·rintro⟨k,blk,h1,h2⟩;simp only[Cx.call]at h2;split at h2
  ·split at h2
   ·rename_i j hj;exact⟨_,j,hj,h2⟩
   ·simp at h2
  ·simp at h2
 ·rintro⟨i,k,h1,h2⟩;obtain⟨b',g1,g2⟩:=b6 i k h1;refine⟨KB+i,az (bz ks) b',?_,?_⟩
  ·simp only[Cx.call,fw];rw[if_pos (by omega)];simp[g2]
  ·simp only[Cx.call];rw[if_pos (by omega)];simp[h1,h2]
theorem Cx.Cn (hm:Mem Γ) {ks:List Nat} {bL:List aU} (hg:getAll Γ.bx ks=some bL) (hn:ks.Nodup) (df:bL.all (ab (bT ks))=true):Mem (Γ.call ks bL) where
 blk k blk hk:=by
  obtain⟨hl,b6⟩:=dD hg;simp only[Cx.call,fw]at hk;split at hk
  ·rename_i hle;rw[List.getElem?_map,mJ]at hk;obtain⟨b0,tK,rfl⟩:=hk;have hi:=(iJ.1 tK).1;obtain⟨j,hj⟩:∃j,ks[k-KB]? =some j:=⟨_,gJ (by omega)⟩
   obtain⟨b1,g1,g2⟩:=b6 _ _ hj;simp only[Nat.sub_zero]at tK;rw[tK]at g2;cases g2;have:=(hm.blk j b0 g1).aE (Cx.sn hg) (JeX.1 df b0 (JeQ tK));have e:(Γ.call ks bL).ι k=Γ.ι j:=by simp only[Cx.call];rw[if_pos (by omega),hj]
   rw[e];exact this
  ·simp at hk
 inj i j b hi hj h1 h2:=by
  obtain⟨hl,b6⟩:=dD hg;simp only[Cx.call]at h1 h2;split at h1
  ·split at h2
   ·split at h1
    ·rename_i x hx;split at h2
     ·rename_i y hy;obtain⟨b1,g1,_⟩:=b6 _ _ hx;obtain⟨b2,g2,_⟩:=b6 _ _ hy;have:=hm.inj x y b (by simp[g1]) (by simp[g2]) h1 h2;subst this;have e1:=Cm hn hx;have e2:=Cm hn hy;rw[e1]at e2;simp at e2;omega
     ·simp at h2
    ·simp at h1
   ·simp at h2
  ·simp at h1
 b9 b h:=by
  rcases h.1 with h|h
  ·exact hm.lt h
  ·exact hm.b9 b h
 apart b h hp:=hp.2 ((Cx.mf hg).1 h)
 xA b cs h:=by
  obtain⟨h1,h2⟩:=hm.xA b cs h;refine⟨λhb=>h1 ?_,h2⟩;obtain⟨i,k,g1,g2⟩:=(Cx.mf hg).1 hb;obtain⟨b',g3,_⟩:=(dD hg).2 i k g1;exact⟨k,b',g3,g2⟩
theorem Co (hm:Mem Γ) {Γ':Cx} {ks os:List Nat} {bL fp:List aU} (hg:getAll Γ.bx ks=some bL) (hn:(ks++os).Nodup) (Jc:∀o∈os,get Γ.bx o=none)
  (vS:Mem Γ') (ly:Γ'.bx=av 0 fp) (hle:Le (Γ.call ks bL) Γ') (hlen:fp.length=(ks++os).length) (df:fp.all (ab (cY fp.length))=true):
  y7 (cY fp.length) (cL (ks++os)) Γ' (Γ.back Γ' (ks++os) fp)∧Le Γ (Γ.back Γ' (ks++os) fp)∧Mem (Γ.back Γ' (ks++os) fp):=by
 obtain⟨hl,b6⟩:=dD hg;have hnk:ks.Nodup:=(JgJ.1 hn).1;have KD:∀k,get (Γ.back Γ' (ks++os) fp).bx k=match idx (ks++os) k with|some i=>(fp.map (az (cL (ks++os))))[i]? |none=>get Γ.bx k:=λk=>wO k hn (by simpa using hlen)
 have fA:Γ.heap.size≤Γ'.heap.size:=hle.size
 --a block of a key that is handed over or comes back
 have DO:∀ {k i:Nat},idx (ks++os) k=some i->∃b0,fp[i]? =some b0∧get Γ'.bx (KB+i)=some b0:=by
  intro k i hi;have dk:=(iJ.1 (oh hi)).1;have:fp[i]? =some (fp[i]'(by omega)):=gJ (by omega);exact⟨_,this,by rw[ly,fw,if_pos (by omega)];simpa using this⟩
 have Mg:Γ'.b9=(Γ.call ks bL).b9:=hle.b9
 have DP:∀ {k b:Nat} {blk:aU},idx (ks++os) k=none->get Γ.bx k=some blk->Γ.ι k=some b->(Γ.call ks bL).b9 b:=by
  intro k b blk hi hb hι;refine⟨.inl ⟨k,blk,hb,hι⟩,?_⟩;rintro⟨i,k',h1,h2⟩;obtain⟨b',g1,_⟩:=b6 i k' h1;have:=hm.inj k k' b (by simp[hb]) (by simp[g1]) hι h2;subst this;exact Hm hi (JaZ.2 (.inl (JeQ h1)))
 have same:y7 (cY fp.length) (cL (ks++os)) Γ' (Γ.back Γ' (ks++os) fp):=by
  refine⟨rfl,λb hb Z5=> ?_,λk blk hk hb=> ?_⟩
  ·rintro(⟨k,blk,h1,h2⟩|h)
   ·rw[KD]at h1;simp only[Cx.back]at h2;cases hi:idx (ks++os) k with
    |
     some i=>
     rw[hi]at h2
     obtain⟨b0,_,g2⟩:=DO hi
     exact Z5 (.inl ⟨_,b0,g2,h2⟩)
    |
     none=>
     rw[hi]at h1 h2
     exact Z5 (.inr (by rw[Mg];exact DP hi h1 h2))
   ·have h':Γ.b9 b:=h
    have hpc:(Γ.call ks bL).b9 b:=by
     refine⟨.inr h',?_⟩;rintro⟨i,k',h1,h2⟩;obtain⟨b',g1,_⟩:=b6 i k' h1;exact hm.apart b ⟨k',b',g1,h2⟩ h'
    exact Z5 (.inr (by rw[Mg];exact hpc))
  ·simp only[cY,decide_eq_true_eq]at hk;obtain⟨i,rfl⟩:∃i,k=KB+i:=⟨k-KB,by omega⟩
   have fO:(ks++os)[i]? =some ((ks++os)[i]'(by omega)):=gJ (by omega)
   have hr:cL (ks++os) (KB+i)=(ks++os)[i]'(by omega):=by
    simp only[cL];rw[if_pos (by omega)];simp[fO]
   have anB:=Cm hn fO;rw[ly,fw,if_pos (by omega)]at hb;simp only[JqZ,Nat.sub_zero]at hb;refine⟨az (cL (ks++os)) blk,?_,js _ _,?_⟩
   ·rw[KD,hr,anB];simp[hb]
   ·simp only[Cx.back];rw[hr,anB]
 have le:Le Γ (Γ.back Γ' (ks++os) fp):=by
  refine⟨λb hb Z5=> ?_,λb hb h=> ?_,rfl,fA,λk blk hk=> ?_⟩
  ·refine hle.heap b hb (λh=>Z5 ?_);obtain⟨i,k,h1,h2⟩:=(Cx.mf hg).1 h;obtain⟨b',g1,_⟩:=b6 i k h1;exact⟨k,b',g1,h2⟩
  ·obtain⟨k,blk,h1,h2⟩:=h;rw[KD]at h1;simp only[Cx.back]at h2;cases hi:idx (ks++os) k with
   |
    some i=>
    rw[hi]at h2
    obtain⟨b0,_,g2⟩:=DO hi
    obtain⟨i',k',g3,g4⟩:=(Cx.mf hg).1 (hle.gn b hb ⟨_,b0,g2,h2⟩)
    obtain⟨b',g1,_⟩:=b6 i' k' g3
    exact⟨k',b',g1,g4⟩
   |
    none=>
    rw[hi]at h1 h2
    exact⟨k,blk,h1,h2⟩
  ·cases hi:idx (ks++os) k with
   |
    some i=>
    obtain⟨b0,g1,g2⟩:=DO hi
    have GV:=oh hi
    have fO:ks[i]? =some k:=by
     rw[List.getElem?_append]at GV;split at GV
     ·exact GV
     ·rw[Jc k (JeQ GV)]at hk;simp at hk
    obtain⟨b1,g3,g4⟩:=b6 i k fO
    rw[hk]at g3;cases g3
    have hce:get (Γ.call ks bL).bx (KB+i)=some (az (bz ks) blk):=by
     simp only[Cx.call,fw];rw[if_pos (by omega)];simp[g4]
    have hcι:(Γ.call ks bL).ι (KB+i)=Γ.ι k:=by
     simp only[Cx.call];rw[if_pos (by omega)];simp[fO]
    obtain⟨b2,g5,g6,g7⟩:=hle.ref _ _ hce
    rw[g2]at g5;cases g5
    refine⟨az (cL (ks++os)) b0,by rw[KD,hi];simp[g1],by rw[js];rw[js]at g6;exact g6,λht=> ?_⟩
    rw[js]at ht g7
    obtain⟨g8,g9⟩:=g7 ht
    rw[hcι]at g8 g9
    refine⟨by simp only[Cx.back];rw[hi];exact g8,g9⟩
   |
    none=>
    refine⟨blk,by rw[KD,hi];exact hk,JaQ _,λ_=>⟨by simp only[Cx.back];rw[hi],λb hb cs e hc=>⟨cs,?_,rfl⟩⟩⟩
    have hp:=DP hi hk hb
    rw[←hc]
    refine hle.heap b (bS hc) (λh=>hp.2 ((Cx.mf hg).1 h))
 refine⟨same,le,⟨λk blk hk=> ?_,λi j b hi hj h1 h2=> ?_,λb h=>JiX (hm.b9 b h) fA,λb h hp=>hm.apart b (le.gn b (hm.b9 b hp) h) hp,hm.kZ le⟩⟩
 ·rw[KD]at hk;cases hi:idx (ks++os) k with
  |
   some i=>
   rw[hi]at hk
   obtain⟨b0,g1,g2⟩:=DO hi
   simp only[List.getElem?_map,g1,JjJ,sJ]at hk
   subst hk
   have:=(vS.blk _ _ g2).aE same (JeX.1 df b0 (JeQ g1))
   have e:(Γ.back Γ' (ks++os) fp).ι k=Γ'.ι (KB+i):=by simp only[Cx.back];rw[hi]
   rw[e];exact this
  |
   none=>
   rw[hi]at hk
   have e:(Γ.back Γ' (ks++os) fp).ι k=Γ.ι k:=by simp only[Cx.back];rw[hi]
   rw[e]
   have hb:=hm.blk k blk hk
   refine hb.mono le (λb AU=> ?_)
   have hp:=DP hi hk AU
   rw[AU]at hb
   exact hle.heap b hb.lt (λh=>hp.2 ((Cx.mf hg).1 h))
 ·rw[KD]at hi hj;simp only[Cx.back]at h1 h2;cases e1:idx (ks++os) i with
  |
   some x=>
   rw[e1]at h1
   obtain⟨b0,_,g2⟩:=DO e1
   cases e2:idx (ks++os) j with
   |
    some y=>
    rw[e2]at h2
    obtain⟨b1,_,g3⟩:=DO e2
    have:=vS.inj _ _ b (by simp[g2]) (by simp[g3]) h1 h2
    have KH:x=y:=by omega
    subst KH
    have:=oh e1
    rw[oh e2]at this
    exact(Option.some.inj this).symm
   |
    none=>
    rw[e2]at hj h2
    obtain⟨b1,R6⟩:=JaW.1 hj
    have hp:=DP e2 R6 h2
    rw[←Mg]at hp
    exact absurd hp (vS.apart b ⟨_,b0,g2,h1⟩)
  |
   none=>
   rw[e1]at hi h1
   obtain⟨b0,tK⟩:=JaW.1 hi
   cases e2:idx (ks++os) j with
   |
    some y=>
    rw[e2]at h2
    obtain⟨b1,_,g3⟩:=DO e2
    have hp:=DP e1 tK h1
    rw[←Mg]at hp
    exact absurd hp (vS.apart b ⟨_,b1,g3,h2⟩)
   |
    none=>
    rw[e2]at hj h2
    exact hm.inj i j b (by simpa[tK]using hi) hj h1 h2
end Go.Ab
namespace Go.Ab
variable [cK]
variable {P:Program} {nt:Nat} {ds:List Deferred} {s:St} {Γ:Cx} {a:Act} {w:World} {l:Nat} {o:Obj}
abbrev FW (ro:Option Nat):Fence:= {Fence.wide with round:=ro}
theorem ON {ro:Option Nat} {f:FuncId} {args:Array Value} {R:Ending->World->Prop} (h:Calls P f args w R):CallsIn (FW ro) 0 P f args w R:=
 (callsIn_wide (n:=0)).2 h
theorem MF {ro:Option Nat} {f:FuncId} {args:Array Value} {R:Ending->World->Prop} (h:CallsIn (FW ro) 0 P f args w R):Calls P f args w R:=
 (callsIn_wide (n:=0)).1 h
def isC:Obj->Bool
 | .cells .. | .map .. =>true
 |_=>false
def Cx.obj (Γ:Cx) (l:Nat) (o:Obj):Cx:= {Γ with heap:=Γ.heap.setIfInBounds l o}
def Cx.lM (Γ:Cx) (l:Nat):Prop:=∃x,Γ.heap[l]? =some x∧isC x=false
theorem nO {b:Nat} (h:b≠l):(Γ.obj l o).heap[b]? =Γ.heap[b]? :=by simp[Cx.obj,Array.getElem?_setIfInBounds_ne (Ne.symm h)]
theorem Cp:(Γ.obj l o).heap.size=Γ.heap.size:=by simp[Cx.obj]
theorem Cx.lM.lt (h:Γ.lM l):l<Γ.heap.size:=by obtain⟨x,hx,_⟩:=h;exact bS hx
theorem Cx.lM.ne' (h:Γ.lM l) {b:Nat} {x:Obj} (hb:Γ.heap[b]? =some x) (hx:isC x=true):b≠l:=by
 rintro rfl;obtain⟨y,hy,hc⟩:=h;rw[hb]at hy;cases hy;rw[hx]at hc;simp at hc
theorem Cx.lM.ne (h:Γ.lM l) {b:Nat} {c:Array Value} {e:TypeId} {z:Nat×Nat} (hb:Γ.heap[b]? =some (.cells c e z)):b≠l:=h.ne' hb rfl
theorem Cq (hm:Mem Γ) {b:Nat} (h:Γ.gn b):∃x,Γ.heap[b]? =some x∧isC x=true:=by
 obtain⟨k,blk,h1,h2⟩:=h;have:=hm.blk k blk h1;rw[h2]at this;cases blk with
 |box v=>obtain⟨b',c,e,e1,e2,_⟩:=this;cases e1;exact⟨_,e2,rfl⟩
 |arr sz l=>obtain⟨_,_,c,e,cs,rest,e2,_⟩:=this;exact⟨_,e2,rfl⟩
 |map b0 ks vs l=>obtain⟨e1,es,clock,e2,_⟩:=this;cases e1;exact⟨_,e2,rfl⟩
theorem Cr (hm:Mem Γ) (h:Γ.lM l):¬Γ.gn l:=by
 intro hb;obtain⟨x,hx,hc⟩:=Cq hm hb;exact h.ne' hx hc rfl
theorem KY (h:Γ.lM l):Ou Γ (Γ.obj l o) where
 cell b i c _ _ hc:=by
  have hb:b≠l:=by
   rintro rfl;obtain⟨x,hx,hp⟩:=h;unfold Ab.cell at hc;rw[hx]at hc;cases x<;>simp_all [isC]
  unfold Ab.cell at hc⊢;rw[nO hb];exact hc
 own b _ ho:=ho
 size:=by rw[Cp];exact JaQ _
 ref k blk hk:=⟨blk,hk,JaQ _,λ_=>⟨rfl,λb _ cs e hc=>⟨cs,by rw[nO (h.ne hc)];exact hc,rfl⟩⟩⟩
theorem Ts (hm:Mem Γ) (h:Γ.lM l):Mem (Γ.obj l o) where
 blk k blk hk:=(hm.blk k blk hk).pW (KY h) λb hb=>by
  obtain⟨x,hx,hc⟩:=Cq hm ⟨k,blk,hk,hb⟩;exact nO (h.ne' hx hc)
 inj:=hm.inj
 b9 b hb:=by rw[Cp];exact hm.b9 b hb
 apart:=hm.apart
 xA b cs hb:=by
  obtain⟨h1,e,x,h2⟩:=hm.xA b cs hb;exact⟨h1,e,x,by rw[nO (h.ne h2)];exact h2⟩
theorem Le.plain {A B:Cx} (h:Le A B) (hm:Mem A) {x:Obj} (hx:A.heap[l]? =some x) (hc:isC x=false):B.heap[l]? =some x:=by
 rw[h.heap l (bS hx) (Cr hm ⟨x,hx,hc⟩)];exact hx
theorem FH {A B:Cx} (h:Le A B) (hl:A.heap.size≤l) (hb:B.lM l):Le A (B.obj l o) where
 heap b dk hn:=by rw[nO (by omega)];exact h.heap b dk hn
 gn b dk hn:=h.gn b dk hn
 b9:=h.b9
 size:=by rw[Cp];exact h.size
 ref k blk hk:=by
  obtain⟨bq,h1,h2,h3⟩:=h.ref k blk hk;refine⟨bq,h1,h2,λht=>⟨(h3 ht).1,λb sN cs e hc=> ?_⟩⟩;obtain⟨DH,h4,h5⟩:=(h3 ht).2 b sN cs e hc;exact⟨DH,by rw[nO (hb.ne h4)];exact h4,h5⟩
theorem fX.obj (hs:fX nt ds s Γ a) (h:Γ.lM l):fX nt ds s (Γ.obj l o) a:=
 ⟨hs.bx,hs.size,hs.defers,λk p hk=>(hs.env k p hk).pW (KY h),Ts hs.mem h⟩
theorem OO (h:w.heap=Γ.heap):(w.putObj l o).heap=(Γ.obj l o).heap:=by simp[World.putObj,Cx.obj,h]
theorem WF.obj (w:World) (l:Nat) (o:Obj):WF w (w.putObj l o):=⟨rfl,rfl,rfl⟩
theorem WF.alloc (w:World) (o:Obj):WF w (w.alloc o):=⟨rfl,rfl,rfl⟩
def sq (B:Nat) (Γ:Cx) (ds:List Deferred):Prop:=
 ∃Ds:List Nat,ds=Ds.map (λD=> {target:= .collected D,args:= #[]})∧Ds.Nodup∧∀D∈Ds,B≤D∧Γ.heap[D]? =some (.deferred (some []))
theorem sq.nil {B:Nat}:sq B Γ []:=⟨[],rfl,.nil,by simp⟩
theorem sq.le {B:Nat} {Γ':Cx} (h:sq B Γ ds) (hm:Mem Γ) (hle:Le Γ Γ'):sq B Γ' ds:=by
 obtain⟨Ds,h1,h2,h3⟩:=h;exact⟨Ds,h1,h2,λD hD=>⟨(h3 D hD).1,hle.plain hm (h3 D hD).2 rfl⟩⟩
theorem sq.heap {B:Nat} {Γ':Cx} (h:sq B Γ ds) (he:Γ'.heap=Γ.heap):sq B Γ' ds:=by
 obtain⟨Ds,h1,h2,h3⟩:=h;exact⟨Ds,h1,h2,λD hD=>⟨(h3 D hD).1,by rw[he];exact(h3 D hD).2⟩⟩
def dM (n:Nat):List Nat:=(List.range n).map (KB+·)
def aaj (P:Program) (l:Nat) (Γc:Cx) (args:List PV) (fp:List aU) (R:List aU->Prop):Prop:=
 ∀
  (Γ:Cx) (w:World) (vs:List Value),w.heap=Γ.heap->Mem Γ->Γ.bx=av 0 fp->eY Γ args vs->Ou Γc Γ->Γ.heap[l]? =Γc.heap[l]? ->
  YieldAt (FW none) 0 P l vs.toArray w (λe w'=>∃xp Γ',e= .returned (.bool true)∧R xp∧w'.heap=Γ'.heap∧Mem Γ'∧Γ'.bx=av 0 xp∧Le Γ Γ'∧WF w w')
class eE where
 n:Nat
 spec:Nat->List PV->List aU->(List aU->Prop)->Prop
instance noY:eE:=⟨0,λ_ _ _ _=>False⟩
def EA [Y:eE] (P:Program) (Γ:Cx):Prop:=∀l args fp R,Y.spec l args fp R->
 ∃Γ0 rec,Le Γ0 Γ∧(∀k blk,get Γ0.bx k=some blk->KB≤k∧k<KB+Y.n)∧Γ0.heap[l]? =some (.loop rec)∧Mem Γ0∧aaj P l Γ0 args fp R
theorem EA.le [eE] {Γ':Cx} (h:EA P Γ) (hle:Le Γ Γ'):EA P Γ':=λl args fp R hs=>by
 obtain⟨Γ0,rec,h1,h2⟩:=h l args fp R hs;exact⟨Γ0,rec,h1.trans hle,h2⟩
theorem EA.no: @EA _ noY P Γ:=λ_ _ _ _ h=>h.elim
def Jm [Y:eE] (s:St) (d:Option Nat) (l:Nat) (args:List PV) (K:St->Prop):Prop:=
 ∃
  bL R,getAll s.bx (dM Y.n)=some bL∧ah (cY Y.n) args=true∧bL.all (ab (cY Y.n))=true∧Y.spec l args bL R∧
  ∀fp,R fp->(fp.length=Y.n∧fp.all (ab (cY Y.n))=true)∧K ({s with bx:=aI s.bx (dM Y.n) fp}.put d (.bl true))
theorem sT (n:Nat):(dM n).Nodup:=by
 unfold dM;exact List.Pairwise.map _ (λa b h=>by simp only[ne_eq];omega) List.nodup_range
theorem y8 {n i k:Nat}:(dM n)[i]? =some k↔i<n∧k=KB+i:=by
 unfold dM;simp only[List.getElem?_map,mJ];constructor
 ·rintro⟨x,h1,h2⟩;obtain⟨h3,h4⟩:=iJ.1 h1;simp at h3 h4;subst h4;exact⟨h3,h2.symm⟩
 ·rintro⟨h1,rfl⟩;exact⟨i,by simp[h1],rfl⟩
theorem Cs {n k:Nat}:idx (dM n) k=if KB≤k∧k<KB+n then some (k-KB)else none:=by
 split
 ·rename_i h;exact Cm (sT n) (y8.2 ⟨by omega,by omega⟩)
 ·rename_i h;cases hi:idx (dM n) k with
  |none=>rfl
  |some i=>exact absurd (y8.1 (oh hi)) (by omega)
theorem uC (n:Nat):bT (dM n)=cY n:=by
 funext k;simp only[bT,Cs,cY];split<;>simp_all
theorem uD {n k:Nat}:bz (dM n) k=k:=by
 unfold bz;rw[Cs];split
 ·rename_i i h;split at h<;>simp at h;omega
 ·rfl
mutual
theorem xJ {ρ:Nat->Nat} (h:∀k,ρ k=k):∀p,aE ρ p=p
 | .rs k _ _ _ _ _ _=>by simp[aE,h]
 | .pt k _ _=>by simp[aE,h]
 | .st _ l=>by simp[aE,jB h l]
 | .ar _ _ l=>by simp[aE,jB h l]
 | .tup l=>by simp[aE,jB h l]
 | .sl _ l _=>by simp[aE,jB h l]
 | .fp _ l _=>by simp[aE,jB h l]
 | .fn _ x y=>by simp[aE,jB h x,jB h y]
 | .gd _ p=>by simp[aE,xJ h p]
 | .ifc _ p=>by simp[aE,xJ h p]
 | .un| .bl _| .int .. | .str _| .np| .nf| .ni| .mp .. =>by simp[aE]
theorem jB {ρ:Nat->Nat} (h:∀k,ρ k=k):∀l,aS ρ l=l
 |[]=>rfl
 |p::l=>by simp[aS,xJ h p,jB h l]
end
theorem MG {ρ:Nat->Nat} (h:∀k,ρ k=k) (b:aU):az ρ b=b:=by
 cases b<;>simp[az,xJ h,jB h]
theorem Ct {ρ:Nat->Nat} (h:∀k,ρ k=k) (l:List aU):l.map (az ρ)=l:=by
 induction l<;>simp[MG h, *]
theorem OP {Γ0:Cx} {n:Nat} {bL:List aU} (h0:∀k blk,get Γ0.bx k=some blk->KB≤k∧k<KB+n) (hle:Le Γ0 Γ) (hg:getAll Γ.bx (dM n)=some bL):Ou Γ0 (Γ.call (dM n) bL) where
 cell b i c hb hn hc:=by
  have:=hle.heap b hb λh=>hn (.inl h);rw[show(Γ.call (dM n) bL).heap=Γ.heap from rfl,cell_of_heap this];exact hc
 own b hb ho:=by
  have hG:Γ.own b:=by
   rcases ho with ho|ho
   ·obtain⟨i,k,h1,h2⟩:=(Cx.mf hg).1 ho;obtain⟨_,b6⟩:=dD hg;obtain⟨b',g1,_⟩:=b6 i k h1;exact .inl ⟨k,b',g1,h2⟩
   ·exact ho.1
  exact hle.own b hb hG
 size:=hle.size
 ref k blk hk:=by
  obtain⟨h1,h2⟩:=h0 k blk hk;obtain⟨bq,g1,g2,g3⟩:=hle.ref k blk hk;have hs:=Cx.sn (Γ:=Γ) hg;obtain⟨auZ,e1,e2,e3⟩:=hs.ref k bq (by rw[uC];simp[cY,h1,h2]) g1;rw[uD]at e1 e3;refine⟨auZ,e1,by omega,λht=> ?_⟩;obtain⟨g4,g5⟩:=g3 (by omega);exact⟨by rw[e3,g4],g5⟩
end Go.Ab
namespace Go.Ab
variable [cK]
variable {P:Program} {nt:Nat} {ds:List Deferred} {s:St} {Γ:Cx} {a:Act} {w:World}
theorem xK:∀ {l:List Sh} {m:List PV},dR l m=true->aB m=vT l
 |[],[],_=>rfl
 |
  x::l,p::m,h=>by
  simp only[dR,aJ]at h
  simp only[aB,vT,jY h.1,xK h.2]
 |[],_::_,h=>by simp[dR]at h
 |_::_,[],h=>by simp[dR]at h
theorem xL {e:Sh}:∀ {m:List PV},jr e m=true->∀x∈m,x.width=tL e
 |[],_=>by simp
 |
  p::m,h=>by
  simp only[jr,aJ]at h
  intro x hx
  rcases cJ.1 hx with rfl|hx
  ·exact jY h.1
  ·exact xL h.2 x hx
mutual
theorem wQ:∀(p:PV) {x:Sh},fits x p=true->aD Γ [p] (bX p)
 | .bl b,_,_=> .bl b .nil
 | .int k n,_,_=> .int k n .nil
 | .str l,_,_=> .str l _ (by simp) .nil
 |
  .st w l,x,h=>by
  cases x<;>simp only[fits,fJ,aJ,decide_eq_true_eq]at h
  simp only[bX]
  have h1:=Ap l h.2
  exact h1.st1 (by rw[h1.length,xK h.2,h.1])
 |
  .ar sz n l,x,h=>by
  cases x<;>simp only[fits,fJ,aJ,decide_eq_true_eq]at h
  simp only[bX]
  exact(Aq l h.2).Th (by rw[h.1.2.2,h.1.2.1]) (λx hx=>by rw[xL h.2 x hx,h.1.1])
 | .un,x,h=>by cases x<;>simp[fits]at h
 | .tup _,x,h=>by cases x<;>simp[fits]at h
 | .sl _ _ _,x,h=>by cases x<;>simp[fits]at h
 | .rs _ _ _ _ _ _ _,x,h=>by cases x<;>simp[fits]at h
 | .np,x,h=>by cases x<;>simp[fits]at h
 | .pt _ _ _,x,h=>by cases x<;>simp[fits]at h
 | .fp _ _ _,x,h=>by cases x<;>simp[fits]at h
 | .fn _ _ _,x,h=>by cases x<;>simp[fits]at h
 | .nf,x,h=>by cases x<;>simp[fits]at h
 | .gd _ _,x,h=>by cases x<;>simp[fits]at h
 | .ifc _ _,x,h=>by cases x<;>simp[fits]at h
 | .ni,x,h=>by cases x<;>simp[fits]at h
 | .mp _ _,x,h=>by cases x<;>simp[fits]at h
theorem Ap:∀(l:List PV) {xs:List Sh},dR xs l=true->aD Γ l (fu l)
 |[],_,_=> .nil
 |
  p::l,xs,h=>by
  cases xs with
  |nil=>simp[dR]at h
  |
   cons x xs=>
   simp only[dR,aJ]at h
   simp only[fu]
   exact(wQ p h.1).cons (Ap l h.2)
theorem Aq:∀(l:List PV) {e:Sh},jr e l=true->aD Γ l (fu l)
 |[],_,_=> .nil
 |
  p::l,e,h=>by
  simp only[jr,aJ]at h
  simp only[fu]
  exact(wQ p h.1).cons (Aq l h.2)
end
mutual
theorem ka:∀(p:PV) {x:Sh} {cs:List Value},fits x p=true->aD Γ [p] cs->cs=bX p
 | .bl b,_,_,_,hr=>by cases hr with|bl _ hr=>cases hr;rfl
 | .int k n,_,_,_,hr=>by cases hr with|int _ _ hr=>cases hr;rfl
 |
  .str l,_,_,_,hr=>by
  cases hr with
  |
   str _ s hl hr=>
   cases hr
   subst hl
   simp[bX]
 |
  .st w l,x,cs,h,hr=>by
  cases x<;>simp only[fits,fJ,aJ,decide_eq_true_eq]at h
  simp only[bX]
  exact xM l h.2 hr.rj.1
 |
  .ar sz n l,x,cs,h,hr=>by
  cases x<;>simp only[fits,fJ,aJ,decide_eq_true_eq]at h
  simp only[bX]
  exact xN l h.2 hr.nL.1
 | .un,x,_,h,_=>by cases x<;>simp[fits]at h
 | .tup _,x,_,h,_=>by cases x<;>simp[fits]at h
 | .sl _ _ _,x,_,h,_=>by cases x<;>simp[fits]at h
 | .rs _ _ _ _ _ _ _,x,_,h,_=>by cases x<;>simp[fits]at h
 | .np,x,_,h,_=>by cases x<;>simp[fits]at h
 | .pt _ _ _,x,_,h,_=>by cases x<;>simp[fits]at h
 | .fp _ _ _,x,_,h,_=>by cases x<;>simp[fits]at h
 | .fn _ _ _,x,_,h,_=>by cases x<;>simp[fits]at h
 | .nf,x,_,h,_=>by cases x<;>simp[fits]at h
 | .gd _ _,x,_,h,_=>by cases x<;>simp[fits]at h
 | .ifc _ _,x,_,h,_=>by cases x<;>simp[fits]at h
 | .ni,x,_,h,_=>by cases x<;>simp[fits]at h
 | .mp _ _,x,_,h,_=>by cases x<;>simp[fits]at h
theorem xM:∀(l:List PV) {xs:List Sh} {cs:List Value},dR xs l=true->aD Γ l cs->cs=fu l
 |[],_,_,_,hr=>by cases hr;rfl
 |
  p::l,xs,cs,h,hr=>by
  cases xs with
  |nil=>simp[dR]at h
  |
   cons x xs=>
   simp only[dR,aJ]at h
   obtain⟨c1,c2,rfl,h1,h2⟩:=hr.lO
   simp only[fu,ka p h.1 h1,xM l h.2 h2]
theorem xN:∀(l:List PV) {e:Sh} {cs:List Value},jr e l=true->aD Γ l cs->cs=fu l
 |[],_,_,_,hr=>by cases hr;rfl
 |
  p::l,e,cs,h,hr=>by
  simp only[jr,aJ]at h
  obtain⟨c1,c2,rfl,h1,h2⟩:=hr.lO
  simp only[fu,ka p h.1 h1,xN l h.2 h2]
end
theorem xO {p:PV} {x:Sh} (h:fits x p=true):aK Γ p (cI p):=by
 have h1:=wQ (Γ:=Γ) p h;cases p<;>first|(cases x<;>simp[fits]at h;done)|skip
 ·simpa only[aK,cI,bX]using h1
 ·simpa only[aK,cI,bX]using h1
 ·simpa only[aK,cI,bX]using h1
 ·exact⟨_,rfl,by simpa only[bX]using h1⟩
 ·exact⟨_,rfl,by simpa only[bX]using h1⟩
theorem EB {p:PV} {x:Sh} {v:Value} (h:fits x p=true) (hr:aK Γ p v):v=cI p:=by
 cases p<;>first|(cases x<;>simp[fits]at h;done)|skip
 ·have:=ka _ h (by simpa only[aK]using hr);simpa[bX,cI]using this
 ·have:=ka _ h (by simpa only[aK]using hr);simpa[bX,cI]using this
 ·have:=ka _ h (by simpa only[aK]using hr);simpa[bX,cI]using this
 ·obtain⟨cs,rfl,h1⟩:=hr;have:=ka _ h h1;subst this;rfl
 ·obtain⟨cs,rfl,h1⟩:=hr;have:=ka _ h h1;subst this;rfl
mutual
theorem FI:∀(p:PV),oL p=true->aD Γ [p] (bX p)
 | .bl b,_=> .bl b .nil
 | .int k n,_=> .int k n .nil
 | .str l,_=> .str l _ (by simp) .nil
 | .nf,_=> .nf .nil
 |
  .fn f a b,h=>by
  simp only[oL,aJ,List.isEmpty_iff]at h
  obtain⟨rfl,rfl⟩:=h
  exact .fn f [] [] .nil .nil (by simp) (by simp) .nil
 |
  .st w l,h=>by
  simp only[oL,aJ,decide_eq_true_eq]at h
  simp only[bX]
  have h1:=Hn l h.2
  exact h1.st1 (by rw[h1.length,h.1])
 | .un,h=>by simp[oL]at h
 | .ar _ _ _,h=>by simp[oL]at h
 | .tup _,h=>by simp[oL]at h
 | .sl _ _ _,h=>by simp[oL]at h
 | .rs _ _ _ _ _ _ _,h=>by simp[oL]at h
 | .np,h=>by simp[oL]at h
 | .pt _ _ _,h=>by simp[oL]at h
 | .fp _ _ _,h=>by simp[oL]at h
 | .gd _ _,h=>by simp[oL]at h
 | .ifc _ _,h=>by simp[oL]at h
 | .ni,h=>by simp[oL]at h
 | .mp _ _,h=>by simp[oL]at h
theorem Hn:∀(l:List PV),Mm l=true->aD Γ l (fu l)
 |[],_=> .nil
 |
  p::l,h=>by
  simp only[Mm,aJ]at h
  simp only[fu]
  exact(FI p h.1).cons (Hn l h.2)
end
mutual
theorem qa:∀(p:PV) {cs:List Value},oL p=true->aD Γ [p] cs->cs=bX p
 | .bl b,_,_,hr=>by cases hr with|bl _ hr=>cases hr;rfl
 | .int k n,_,_,hr=>by cases hr with|int _ _ hr=>cases hr;rfl
 |
  .str l,_,_,hr=>by
  cases hr with
  |
   str _ s hl hr=>
   cases hr
   subst hl
   simp[bX]
 | .nf,_,_,hr=>by cases hr with|nf hr=>cases hr;rfl
 |
  .fn f a b,_,h,hr=>by
  simp only[oL,aJ,List.isEmpty_iff]at h
  obtain⟨rfl,rfl⟩:=h
  cases hr with
  |fn _ _ _ h1 h2 _ _ hr=>cases h1;cases h2;cases hr;rfl
 |
  .st w l,cs,h,hr=>by
  simp only[oL,aJ,decide_eq_true_eq]at h
  simp only[bX]
  exact EC l h.2 hr.rj.1
 | .un,_,h,_=>by simp[oL]at h
 | .ar _ _ _,_,h,_=>by simp[oL]at h
 | .tup _,_,h,_=>by simp[oL]at h
 | .sl _ _ _,_,h,_=>by simp[oL]at h
 | .rs _ _ _ _ _ _ _,_,h,_=>by simp[oL]at h
 | .np,_,h,_=>by simp[oL]at h
 | .pt _ _ _,_,h,_=>by simp[oL]at h
 | .fp _ _ _,_,h,_=>by simp[oL]at h
 | .gd _ _,_,h,_=>by simp[oL]at h
 | .ifc _ _,_,h,_=>by simp[oL]at h
 | .ni,_,h,_=>by simp[oL]at h
 | .mp _ _,_,h,_=>by simp[oL]at h
theorem EC:∀(l:List PV) {cs:List Value},Mm l=true->aD Γ l cs->cs=fu l
 |[],_,_,hr=>by cases hr;rfl
 |
  p::l,cs,h,hr=>by
  simp only[Mm,aJ]at h
  obtain⟨c1,c2,rfl,h1,h2⟩:=hr.lO
  simp only[fu,qa p h.1 h1,EC l h.2 h2]
end
theorem Tt {p:PV} (h:oL p=true):aK Γ p (cI p):=by
 have h1:=FI (Γ:=Γ) p h;cases p<;>first|(simp[oL]at h;done)|skip
 ·simpa only[aK,cI,bX]using h1
 ·simpa only[aK,cI,bX]using h1
 ·simpa only[aK,cI,bX]using h1
 ·exact⟨_,rfl,by simpa only[bX]using h1⟩
 ·simpa only[aK,cI,bX]using h1
 ·simpa only[aK,cI,bX]using h1
theorem OQ {p:PV} (h:oL p=true):gI Γ p (cI p):=by
 have h1:=FI (Γ:=Γ) p h;cases p<;>first|(simp[oL]at h;done)|skip
 ·simpa only[gI,cI,bX]using h1
 ·simpa only[gI,cI,bX]using h1
 ·simpa only[gI,cI,bX]using h1
 ·exact⟨_,rfl,by simpa only[bX]using h1⟩
 ·simpa only[gI,cI,bX]using h1
 ·simpa only[gI,cI,bX]using h1
theorem Ho {p:PV} {v:Value} (h:oL p=true) (hr:aK Γ p v):v=cI p:=by
 cases p<;>first|(simp[oL]at h;done)|skip
 ·have:=qa _ h (by simpa only[aK]using hr);simpa[bX,cI]using this
 ·have:=qa _ h (by simpa only[aK]using hr);simpa[bX,cI]using this
 ·have:=qa _ h (by simpa only[aK]using hr);simpa[bX,cI]using this
 ·obtain⟨cs,rfl,h1⟩:=hr;have:=qa _ h h1;subst this;rfl
 ·have:=qa _ h (by simpa only[aK]using hr);simpa[bX,cI]using this
 ·have:=qa _ h (by simpa only[aK]using hr);simpa[bX,cI]using this
def CheckAt (P:Program) (Γ:Cx) (em:Bool) (d:Nat) (t:TypeId) (x:Sh):Prop:=
 ∀(w:World) (p:PV) (v:Value),fits x p=true->aK Γ p v->(Instr.checkKey em d t v).run P w= .ok () w
theorem xP {em:Bool} {d:Nat} {xs:List Value}:∀(fs:List Field) (l:List Sh) (ps:List PV) (pre1 c1:List Value) (o:Nat) (w:World),
  xs=pre1++c1->pre1.length=o->aD Γ ps c1->dR l ps=true->
  fs.all (λf=>f.name != "_")=true->fs.map (·.offset)=yV o l->fs.map (λf=>gL P f.type)=l.map (λx=>some (tL x))->
  fs.map (λf=>lD P f.type)=l.map (λx=>some x.agg)->(∀(i:Nat) f x,fs[i]? =some f->l[i]? =some x->CheckAt P Γ em d f.type x)->
  (forIn (m:=Sem) fs PUnit.unit λf _=>do
   if f.name≠ "_" then
    Instr.checkKey em d f.type (←part f.type xs.toArray f.offset)
    pure (ForInStep.yield PUnit.unit)
   else pure (ForInStep.yield PUnit.unit)).run P w= .ok PUnit.unit w
 |[],l,ps,pre1,c1,o,w,hx,NV,h1,f1,hn,Ae,fA,WT,cy=>by simp
 |
  f::fs,l,ps,pre1,c1,o,w,hx,NV,h1,f1,hn,Ae,fA,WT,cy=>by
  cases l with
  |nil=>simp at fA
  |
   cons x l=>
   cases ps with
   |nil=>simp[dR]at f1
   |
    cons p ps=>
    simp only[dR,aJ]at f1
    simp only[JdX,List.cons.injEq,yV]at Ae fA WT
    simp only[JoV,aJ]at hn
    obtain⟨a1,b1,rfl,r1,r2⟩:=h1.lO
    have wp:=jY f1.1
    have ap:=lE f1.1
    have WU:lD P f.type=some x.agg:=WT.1
    obtain⟨v,hv,WV⟩:=om (P:=P) (w:=w) (t:=f.type) r1 hx (NV.trans Ae.1.symm) (by rw[ap];exact WU) (by rw[wp];exact fA.1)
    have he:=cy 0 f x rfl rfl w p v f1.1 WV
    have ih:=xP (em:=em) (d:=d) (xs:=xs) fs l ps (pre1++a1) b1 (o+tL x) w (by rw[hx];simp) (by simp[NV,r1.fK,wp]) r2 f1.2 hn.2 Ae.2 fA.2 WT.2
     (λi g y hg hy=>cy (i+1) g y (by simpa using hg) (by simpa using hy))
    have cS:f.name≠ "_" :=by simpa using hn.1
    simp only[List.forIn_cons,bJ,cS,ne_eq,not_false_eq_true,if_true,hv,he,rJ,JbW]
    exact ih
theorem Hp {em:Bool} {d len n:Nat} {t:TypeId} {e:Sh} {xs:List Value} (hn:n=tL e) (hg:lD P t=some e.agg) (hz:gL P t=some n) (heq:CheckAt P Γ em d t e):
  ∀
   (ps:List PV) (pre1 c1:List Value) (i:Nat) (w:World),xs=pre1++c1->pre1.length=i*n->aD Γ ps c1->jr e ps=true->ps.length=len->
   (forIn (m:=Sem) (List.range' i len 1) PUnit.unit λi _=>do
      Instr.checkKey em d t (←part t xs.toArray (i*(←sizeOf t)))
      pure (ForInStep.yield PUnit.unit)).run P w= .ok PUnit.unit w:=by
 induction len with
 |zero=>intro ps pre1 c1 i w _ _ _ _ _;simp
 |
  succ len ih=>
  intro ps pre1 c1 i w hx NV h1 f1 l1
  cases ps with
  |nil=>simp at l1
  |
   cons p ps=>
   simp only[jr,aJ]at f1
   obtain⟨a1,b1,rfl,r1,r2⟩:=h1.lO
   have wp:=jY f1.1
   have ap:=lE f1.1
   obtain⟨v,hv,WV⟩:=om (P:=P) (w:=w) (t:=t) r1 hx NV (by rw[ap];exact hg) (by rw[wp,←hn];exact hz)
   have he:=heq w p v f1.1 WV
   have ih':=ih ps (pre1++a1) b1 (i+1) w (by rw[hx];simp) (by simp[NV,r1.fK,wp,JgZ];omega) r2 f1.2 (by simpa using l1)
   simp only[List.range'_succ,List.forIn_cons,bJ,run_sizeOf hz,hv,he,rJ,JbW]
   exact ih'
theorem ED {em:Bool}:∀(n:Nat) {t:TypeId} {x:Sh} (d:Nat),n≤d->rq P n t=some x->CheckAt P Γ em d t x:=by
 intro n;induction n with
 |zero=>intro t x d _ h;simp[rq]at h
 |
  succ n ih=>
  intro t x d hd h w p v fp hp
  obtain⟨d,rfl⟩:∃d',d=d'+1:=⟨d-1,by omega⟩
  simp only[rq]at h
  split at h<;>(try(simp only[sJ,reduceCtorEq]at h;try subst h))
  ·rename_i hu
   cases p<;>simp[fits]at fp
   rw[hp.bl]
   simp only[Instr.checkKey,bJ,run_underlying hu,rJ];rfl
  ·rename_i k hu
   cases p<;>simp[fits]at fp
   rw[hp.int]
   simp only[Instr.checkKey,bJ,run_underlying hu,rJ];rfl
  ·rename_i hu
   cases p<;>simp[fits]at fp
   obtain⟨s1,rfl,rfl⟩:=hp.str
   simp only[Instr.checkKey,bJ,run_underlying hu,rJ];rfl
  ·rename_i fs hu
   split at h
   ·rename_i l hl
    split at h
    ·rename_i tZ
     obtain⟨c1,c2,c3,c4,c5⟩:=tZ
     simp only[sJ]at h
     subst h
     cases p<;>simp only[fits,fJ,aJ,decide_eq_true_eq]at fp
     rename_i w1 m1
     obtain⟨cs,rfl,hc⟩:=hp.cells rfl
     have:=xP (em:=em) (d:=d) (xs:=cs) fs.toList l m1 [] cs 0 w rfl rfl hc.rj.1 fp.2 c2 c3 c4 c5 (λi f y KE hyi=>by
      refine ih d (by omega) ?_;have:=Fy.allM_get hl KE;rw[hyi]at this;exact this)
     simp only[Instr.checkKey,bJ,run_underlying hu,rJ]
     rw[←Array.forIn_toList,this]
     rfl
    ·exact absurd h (by simp)
   ·exact absurd h (by simp)
  ·rename_i k e hu
   split at h
   ·rename_i x' hx'
    split at h
    ·rename_i tZ
     simp only[sJ]at h
     subst h
     cases p<;>simp only[fits,fJ,aJ,decide_eq_true_eq]at fp
     rename_i z1 n1 m1
     obtain⟨cs,rfl,hc⟩:=hp.cells rfl
     have hg:lD P e=some x'.agg:=tZ.2
     have:=Hp (P:=P) (Γ:=Γ) (em:=em) (d:=d) (len:=k) (n:=tL x') (t:=e) (e:=x') (xs:=cs) rfl hg tZ.1 (ih d (by omega) hx') m1 [] cs 0 w rfl (by simp) hc.nL.1 fp.2 fp.1.2.2
     simp only[Instr.checkKey,bJ,run_underlying hu,rJ]
     rw[Std.Legacy.Range.forIn_eq_forIn_range']
     simp only[Std.Legacy.Range.size,Nat.sub_zero,Nat.add_sub_cancel,Nat.div_one]
     rw[this]
     rfl
    ·exact absurd h (by simp)
   ·exact absurd h (by simp)
  all_goals simp at h
def sU (p:PV):List (PV×PV)->Nat->Option (Nat×PV)
 |[],_=>none
 |(k,v)::r,i=>if PV.beq p k=true then some (i,v)else sU p r (i+1)
theorem Hq (p:PV):∀(l:List (PV×PV)) (i:Nat),(sU p l i).map (·.2)=Ao p l
 |[],_=>rfl
 |
  (k,v)::r,i=>by
  simp only[sU,Ao]
  split
  ·rfl
  ·exact Hq p r (i+1)
def vV (ks:Sh) (es:List MapEntry) (l:List (PV×PV)):Prop:=es.map (λe=>(e.key,e.val))=l.map (λx=>(cI x.1,cI x.2))∧∀x∈l,fits ks x.1=true
theorem vV.cons {ks:Sh} {e:MapEntry} {es:List MapEntry} {x:PV×PV} {l:List (PV×PV)} (h:vV ks (e::es) (x::l)):e.key=cI x.1∧e.val=cI x.2∧fits ks x.1=true∧vV ks es l:=by
 obtain⟨h1,h2⟩:=h;simp only[JdX,List.cons.injEq,Prod.mk.injEq]at h1;exact⟨h1.1.1,h1.1.2,h2 x (by simp),h1.2,λy hy=>h2 y (by simp[hy])⟩
theorem Ar {t:TypeId} {ks:Sh} {p:PV} (he:EqAt P Γ 10000 t ks) (hp:fits ks p=true):∀(es:List MapEntry) (l:List (PV×PV)) (i:Nat),vV ks es l->
  (Instr.findAsking t (cI p) es i).run P w= .ok ((sU p l i).map λx=>(x.1,cI x.2)) w
 |
  [],l,i,h=>by
  cases l with
  |nil=>simp[Instr.findAsking,sU]
  |cons=>simp[vV]at h
 |
  e::es,l,i,h=>by
  cases l with
  |nil=>simp[vV]at h
  |
   cons x l=>
   obtain⟨h1,h2,h3,h4⟩:=h.cons
   have:=he w p x.1 (cI p) (cI x.1) hp h3 (xO hp) (xO h3)
   have ih:=Ar he hp es l (i+1) h4
   rw[←h1]at this
   have this':(Op.equal t (cI p) e.key).run P w= .ok (PV.beq p x.1) w:=this
   obtain⟨k,v⟩:=x
   simp only[Instr.findAsking,bJ,this',rJ,sU]
   by_cases hb:PV.beq p k=true
   ·simp only[hb,if_true,JbW,JjJ,h2]
   ·simp only[hb,fJ,if_false];exact ih
theorem Hr {d:TypeDesc} {ks:Sh} {p:PV} (hp:fits ks p=true) (hk:∀q,fits ks q=true->Instr.sameNow d (cI p) (cI q)=some (PV.beq p q)):∀(es:List MapEntry) (l:List (PV×PV)) (i:Nat),vV ks es l->
  Instr.findNow d (cI p) es i=some ((sU p l i).map λx=>(x.1,cI x.2))
 |
  [],l,i,h=>by
  cases l with
  |nil=>simp[Instr.findNow,sU]
  |cons=>simp[vV]at h
 |
  e::es,l,i,h=>by
  cases l with
  |nil=>simp[vV]at h
  |
   cons x l=>
   obtain⟨h1,h2,h3,h4⟩:=h.cons
   have ih:=Hr hp hk es l (i+1) h4
   obtain⟨k,v⟩:=x
   simp only[Instr.findNow,h1,hk k h3,sU]
   cases hb:PV.beq p k
   ·simp only[fJ,if_false];exact ih
   ·simp only[if_true,JjJ,h2]
theorem Jn {d:TypeDesc} {v:Value} (hk:∀u,Instr.sameNow d v u=none):∀(es:List MapEntry) (i:Nat),Instr.findNow d v es i=if es=[]then some none else none
 |[],_=>by simp[Instr.findNow]
 |e::es,i=>by simp[Instr.findNow,hk]
theorem OR (a b:List UInt8):((⟨a.toArray⟩:ByteArray)==⟨b.toArray⟩)=(a==b):=by
 cases h:(a==b)
 ·have:a≠b:=by simpa using h
  cases h2:((⟨a.toArray⟩:ByteArray)==⟨b.toArray⟩)
  ·rfl
  ·have:=(MapKept.bytes_beq _ _).1 h2;simp at this;contradiction
 ·have:a=b:=by simpa using h
  subst this;exact(MapKept.bytes_beq _ _).2 rfl
theorem Hs {t:TypeId} {ks:Sh} {p:PV} (AT:rq P 20 t=some ks) (hp:fits ks p=true) {es:List MapEntry} {l:List (PV×PV)} (h:vV ks es l):
  (Instr.findKey t (cI p) es).run P w= .ok ((sU p l 0).map λx=>(x.1,cI x.2)) w:=by
 have he:EqAt P ⟨#[],λ_=>none,[],λ_=>False⟩ 10000 t ks:=Fy 20 10000 (by omega) AT
 have now:∀ {d:TypeDesc},P.underlying t=some d->(∀q,fits ks q=true->Instr.sameNow d (cI p) (cI q)=some (PV.beq p q))->(Instr.findKey t (cI p) es).run P w= .ok ((sU p l 0).map λx=>(x.1,cI x.2)) w:=by
  intro d hu hk;simp only[Instr.findKey,bJ,run_underlying hu,rJ,Hr hp hk es l 0 h,JbW]
 have never:∀ {d:TypeDesc},P.underlying t=some d->(∀u,Instr.sameNow d (cI p) u=none)->(Instr.findKey t (cI p) es).run P w= .ok ((sU p l 0).map λx=>(x.1,cI x.2)) w:=by
  intro d hu hk;simp only[Instr.findKey,bJ,run_underlying hu,rJ,Jn hk es 0];by_cases hn:es=[]
  ·subst hn;cases l with
   |nil=>simp[sU]
   |cons=>simp[vV]at h
  ·rw[if_neg hn];exact Ar he hp es l 0 h
 simp only[rq]at AT;split at AT<;>(try(simp only[sJ,reduceCtorEq]at AT;try subst AT))
 ·rename_i hu;refine now hu λq hq=> ?_;cases p<;>simp[fits]at hp;cases q<;>simp[fits]at hq;rfl
 ·rename_i k hu;refine now hu λq hq=> ?_;cases p<;>simp[fits]at hp;cases q<;>simp[fits]at hq;subst hp hq;simp[Instr.sameNow,cI,PV.beq]
 ·rename_i hu;refine now hu λq hq=> ?_;cases p<;>simp[fits]at hp;cases q<;>simp[fits]at hq;simp only[Instr.sameNow,cI,PV.beq,OR]
 ·rename_i fs hu;exact never hu λu=>by simp[Instr.sameNow]
 ·rename_i k e hu;exact never hu λu=>by simp[Instr.sameNow]
 all_goals simp at AT
mutual
theorem beq_eq:∀(p q:PV) {x:Sh},fits x p=true->fits x q=true->PV.beq p q=true->p=q
 |
  .bl a,q,x,hp,hq,h=>by
  cases x<;>simp[fits]at hp
  cases q<;>simp[fits]at hq
  simpa[PV.beq]using h
 |
  .int k n,q,x,hp,hq,h=>by
  cases x<;>simp[fits]at hp
  cases q<;>simp[fits]at hq
  subst hp hq
  simpa[PV.beq]using h
 |
  .str l,q,x,hp,hq,h=>by
  cases x<;>simp[fits]at hp
  cases q<;>simp[fits]at hq
  simpa[PV.beq]using h
 |
  .st w l,q,x,hp,hq,h=>by
  cases x<;>simp only[fits,fJ,aJ,decide_eq_true_eq]at hp
  cases q<;>simp only[fits,fJ,aJ,decide_eq_true_eq]at hq
  rename_i xs w' m
  rw[hp.1,hq.1,KZ l m hp.2 hq.2 (by simpa[PV.beq]using h)]
 |
  .ar z n l,q,x,hp,hq,h=>by
  cases x<;>simp only[fits,fJ,aJ,decide_eq_true_eq]at hp
  cases q<;>simp only[fits,fJ,aJ,decide_eq_true_eq]at hq
  rename_i n' e z' k m
  rw[hp.1.1,hq.1.1,hp.1.2.1,hq.1.2.1,K0 l m hp.2 hq.2 (by simpa[PV.beq]using h)]
 | .un,q,x,hp,_,_=>by cases x<;>simp[fits]at hp
 | .tup _,q,x,hp,_,_=>by cases x<;>simp[fits]at hp
 | .sl _ _ _,q,x,hp,_,_=>by cases x<;>simp[fits]at hp
 | .rs _ _ _ _ _ _ _,q,x,hp,_,_=>by cases x<;>simp[fits]at hp
 | .np,q,x,hp,_,_=>by cases x<;>simp[fits]at hp
 | .pt _ _ _,q,x,hp,_,_=>by cases x<;>simp[fits]at hp
 | .fp _ _ _,q,x,hp,_,_=>by cases x<;>simp[fits]at hp
 | .fn _ _ _,q,x,hp,_,_=>by cases x<;>simp[fits]at hp
 | .nf,q,x,hp,_,_=>by cases x<;>simp[fits]at hp
 | .gd _ _,q,x,hp,_,_=>by cases x<;>simp[fits]at hp
 | .ifc _ _,q,x,hp,_,_=>by cases x<;>simp[fits]at hp
 | .ni,q,x,hp,_,_=>by cases x<;>simp[fits]at hp
 | .mp _ _,q,x,hp,_,_=>by cases x<;>simp[fits]at hp
theorem KZ:∀(l m:List PV) {xs:List Sh},dR xs l=true->dR xs m=true->PV.lC l m=true->l=m
 |[],m,xs,hp,hq,h=>by cases m with|nil=>rfl|cons=>simp[PV.lC]at h
 |
  p::l,m,xs,hp,hq,h=>by
  cases m with
  |nil=>simp[PV.lC]at h
  |
   cons q m=>
   cases xs with
   |nil=>simp[dR]at hp
   |
    cons x xs=>
    simp only[dR,aJ]at hp hq
    simp only[PV.lC,aJ]at h
    rw[beq_eq p q hp.1 hq.1 h.1,KZ l m hp.2 hq.2 h.2]
theorem K0:∀(l m:List PV) {e:Sh},jr e l=true->jr e m=true->PV.lC l m=true->l=m
 |[],m,xs,hp,hq,h=>by cases m with|nil=>rfl|cons=>simp[PV.lC]at h
 |
  p::l,m,e,hp,hq,h=>by
  cases m with
  |nil=>simp[PV.lC]at h
  |
   cons q m=>
   simp only[jr,aJ]at hp hq
   simp only[PV.lC,aJ]at h
   rw[beq_eq p q hp.1 hq.1 h.1,K0 l m hp.2 hq.2 h.2]
end
mutual
theorem uE:∀(p:PV) {x:Sh},fits x p=true->∀v∈bX p,∀n,Instr.sameBits n v v=true
 | .bl a,x,_=>by simp[bX,Instr.sameBits]
 | .int k n,x,_=>by simp[bX,Instr.sameBits]
 |
  .str l,x,_=>by
  intro v hv n
  simp only[bX,List.mem_singleton]at hv
  subst hv
  cases n<;>simp only[Instr.sameBits]<;>exact(MapKept.bytes_beq _ _).2 rfl
 |
  .st w l,x,h=>by
  cases x<;>simp only[fits,fJ,aJ,decide_eq_true_eq]at h
  exact xQ l h.2
 |
  .ar z n l,x,h=>by
  cases x<;>simp only[fits,fJ,aJ,decide_eq_true_eq]at h
  exact xR l h.2
 | .un,x,hp=>by cases x<;>simp[fits]at hp
 | .tup _,x,hp=>by cases x<;>simp[fits]at hp
 | .sl _ _ _,x,hp=>by cases x<;>simp[fits]at hp
 | .rs _ _ _ _ _ _ _,x,hp=>by cases x<;>simp[fits]at hp
 | .np,x,hp=>by cases x<;>simp[fits]at hp
 | .pt _ _ _,x,hp=>by cases x<;>simp[fits]at hp
 | .fp _ _ _,x,hp=>by cases x<;>simp[fits]at hp
 | .fn _ _ _,x,hp=>by cases x<;>simp[fits]at hp
 | .nf,x,hp=>by cases x<;>simp[fits]at hp
 | .gd _ _,x,hp=>by cases x<;>simp[fits]at hp
 | .ifc _ _,x,hp=>by cases x<;>simp[fits]at hp
 | .ni,x,hp=>by cases x<;>simp[fits]at hp
 | .mp _ _,x,hp=>by cases x<;>simp[fits]at hp
theorem xQ:∀(l:List PV) {xs:List Sh},dR xs l=true->∀v∈fu l,∀n,Instr.sameBits n v v=true
 |[],_,_=>by simp[fu]
 |
  p::l,xs,h=>by
  cases xs with
  |nil=>simp[dR]at h
  |
   cons x xs=>
   simp only[dR,aJ]at h
   intro v hv
   rcases JaZ.1 hv with hv|hv
   ·exact uE p h.1 v hv
   ·exact xQ l h.2 v hv
theorem xR:∀(l:List PV) {e:Sh},jr e l=true->∀v∈fu l,∀n,Instr.sameBits n v v=true
 |[],_,_=>by simp[fu]
 |
  p::l,e,h=>by
  simp only[jr,aJ]at h
  intro v hv
  rcases JaZ.1 hv with hv|hv
  ·exact uE p h.1 v hv
  ·exact xR l h.2 v hv
end
theorem Ht {l:List Value} (h:∀v∈l,∀n,Instr.sameBits n v v=true):Instr.sameBits 10000 (.agg l.toArray) (.agg l.toArray)=true:=by
 show Instr.sameBits (9999+1) (.agg l.toArray) (.agg l.toArray)=true;simp only[Instr.sameBits,beq_self_eq_true,JjV,JeX];intro x hx;obtain⟨i,hi⟩:=List.mem_iff_getElem?.1 hx;rw[List.getElem?_zip_eq_some]at hi;obtain⟨h1,h2⟩:=hi;obtain⟨x1,x2⟩:=x;simp only at h1 h2⊢;rw[h1]at h2;cases h2;exact h x1 (by simpa using JeQ h1) _
theorem MH {p:PV} {x:Sh} (h:fits x p=true):Instr.sameBits 10000 (cI p) (cI p)=true:=by
 have hb:=uE p h;cases p<;>first|(cases x<;>simp[fits]at h;done)|skip
 ·exact hb _ (by simp[bX,cI]) _
 ·exact hb _ (by simp[bX,cI]) _
 ·exact hb _ (by simp[bX,cI]) _
 ·exact Ht (by simpa[bX]using hb)
 ·exact Ht (by simpa[bX]using hb)
theorem MI {p:PV} {x:Sh} (h:fits x p=true):(Instr.keyThatStays (cI p) (cI p)).run P w= .ok (cI p) w:=by
 simp only[Instr.keyThatStays,MH h,if_true,JbW]
end Go.Ab
namespace Go.Ab
variable [cK]
variable {P:Program} {nt:Nat} {ds:List Deferred} {s:St} {Γ:Cx} {a:Act} {w:World}
theorem aK.mp {k b:Nat} {v:Value} (h:aK Γ (.mp k b) v):v= .map (some b):=by
 simp only[aK]at h;cases h;rfl
theorem MJ {o:Oper} {t:TypeId} {ks vs:Sh} {K:St->Prop} (ho:o.op= .makeMap t none) (hs:fX nt ds s Γ a) (hw:w.heap=Γ.heap) (hd:∀k,o.dst=some k->k<nt) (he:ex s o.dst (.mkMap ks vs) K):
  jO P nt ds o a w Γ K:=by
 simp only[ex]at he;split at he
 ·rename_i k hk;obtain⟨gK,hK⟩:=he;rw[←hs.bx]at gK;have hle:=yY Γ (.map #[] 0) (k:=k) (.map Γ.heap.size ks vs []) gK;have iA:Mem (Γ.ext (.map #[] 0) k (.map Γ.heap.size ks vs [])):=FC hs.mem gK ⟨rfl,#[],0,by simp[Cx.ext],rfl,by simp⟩;have h1:=hs.le hle iA (xH:=put s.bx k (.map Γ.heap.size ks vs [])) (by simp[Cx.ext,hs.bx])
  have h2:aK (Γ.ext (.map #[] 0) k (.map Γ.heap.size ks vs [])) (.mp k Γ.heap.size) (.map (some w.heap.size)):=by
   rw[hw];simp only[aK];exact .mp _ _ .nil
  have h3:=h1.put (d:=some k) (λj hj=>by cases hj;exact hd k hk) h2;refine⟨.value (.map (some w.heap.size)),_,w.alloc (.map #[] 0),_,_,?_,.inl rfl,by rw[hk];exact h3,by simp[World.alloc,Cx.ext,hw],hle,⟨rfl,rfl,rfl⟩,hK _⟩;simp[execOp,ho,Instr.makeMap,Result.andThen]
 ·exact he.elim
theorem Hu {z p:PV} (hz:oL z=true):∀ {l:List (PV×PV)},(∀x∈l,oL x.2=true)->oL ((Ao p l).getD z)=true
 |[],_=>by simpa[Ao]using hz
 |
  (k,v)::r,h=>by
  simp only[Ao]
  split
  ·exact h (k,v) (by simp)
  ·exact Hu hz λx hx=>h x (by simp[hx])
theorem Jo {o:Oper} {t k e:TypeId} {ks vs:Sh} {z:PV} {ok:Bool} {m x:Operand} {m' x':AX} {K:St->Prop} (ho:o.op= .lookup t m x ok) (hu:P.underlying t=some (.map k e)) (hm:gk m=some m') (hx:gk x=some x')
  (S5:rq P 20 k=some ks) (hz:zeroOf P e=some z) (hf:oL z=true) (hs:fX nt ds s Γ a) (hw:w.heap=Γ.heap) (hd:∀k,o.dst=some k->k<nt) (he:ex s o.dst (.mapGet ks vs z ok m' x') K):
  jO P nt ds o a w Γ K:=by
 simp only[ex]at he;obtain⟨pm,W6,sQ⟩:=bw hm hs rfl he;obtain⟨p,G8,qP⟩:=bw hx hs rfl W6;clear he W6;have he:=G8;clear G8;split at he
 ·rename_i kk b;split at he
  ·rename_i b' BR DV l hg;obtain⟨⟨rfl,rfl,rfl,hp⟩,hK⟩:=he;rw[←hs.bx]at hg;have Ep:=hs.mem.blk _ _ hg;obtain⟨_,es,clock,hb,hen,GS⟩:=Ep;obtain⟨zv,Oh,_,_,S0,_⟩:=jZ (Γ:=Γ) hz;have W7:=Ho hf S0;subst W7;have hkv:=EB hp qP;have hE:vV BR es.toList l:=⟨hen,λy hy=>(GS y hy).1⟩
   have Mh:=Hs (P:=P) (w:=w) S5 hp hE;have BT:=ED (P:=P) (Γ:=Γ) (em:=es.isEmpty) 20 10000 (by omega) S5 w p _ hp (xO hp);have hlk:=Hq p l 0;have KI:oL ((Ao p l).getD z)=true:=Hu hf λy hy=>(GS y hy).2;have xw:=sQ.mp
   have fN:(Instr.lookup t (a.eval m) (a.eval x) ok).run P w= .ok (if ok then .tuple #[cI ((Ao p l).getD z),.bool (Ao p l).isSome]else cI ((Ao p l).getD z)) w:=by
    rw[xw,hkv];simp only[Instr.lookup,bJ,run_underlying hu,rJ,MapKept.run_getObj_map (by rw[hw];exact hb),JbW,BT,Mh];rw[←hlk];cases KJ:sU p l 0 with
    |none=>simp[Oh,Result.andThen]
    |some y=>simp
   refine p7 (v:=if ok then .tuple #[cI ((Ao p l).getD z),.bool (Ao p l).isSome]else cI ((Ao p l).getD z)) hs hd (Le.refl Γ) hs.mem rfl ?_ hw (WF.refl w) ?_ hK
   ·have e2:execOp a.eval o=(do Pure.pure (Next.value (←Instr.lookup t (a.eval m) (a.eval x) ok))):=by unfold execOp;rw[ho]
    rw[e2,bJ,fN];rfl
   ·cases ok with
    |false=>simpa using Tt KI
    |true=>exact⟨[_,_],rfl,OQ KI,.bl _ .nil,trivial⟩
  ·exact he.elim
 ·exact he.elim
theorem Hv {ks:Sh} {p v:PV} (hp:fits ks p=true):∀ {es:List MapEntry} {l:List (PV×PV)} {i:Nat},vV ks es l->
  (sU p l i=none->(es++[(⟨cI p,cI v,i⟩:MapEntry)]).map (λe=>(e.key,e.val))=(vU p v l).map (λx=>(cI x.1,cI x.2)))∧
  (∀j q,sU p l i=some (j,q)->∃j' e0,j=i+j'∧es[j']? =some e0∧e0.key=cI p∧
   ∀f:MapEntry->MapEntry,(f e0).key=cI p->(f e0).val=cI v->(es.modify j' f).map (λe=>(e.key,e.val))=(vU p v l).map (λx=>(cI x.1,cI x.2)))
 |
  [],l,i,h=>by
  cases l with
  |nil=>simp[sU,vU]
  |cons=>simp[vV]at h
 |
  e::es,l,i,h=>by
  cases l with
  |nil=>simp[vV]at h
  |
   cons x l=>
   obtain⟨h1,h2,h3,h4⟩:=h.cons
   obtain⟨k,u⟩:=x
   have ih:=Hv (v:=v) hp (i:=i+1) h4
   simp only[sU,vU]
   by_cases hb:PV.beq p k=true
   ·simp only[hb,if_true]
    have wv:=beq_eq p k hp h3 hb
    refine⟨by simp,λj q hj=> ?_⟩
    simp only[sJ,Prod.mk.injEq]at hj
    refine⟨0,e,by omega,rfl,by rw[h1,wv],λf S6 S7=> ?_⟩
    simp only[List.modify_zero_cons,JdX,S6,S7]
    rw[h4.1]
   ·simp only[hb,fJ,if_false]
    refine⟨λhn=> ?_,λj q hj=> ?_⟩
    ·have:=ih.1 hn
     simp only[JeZ,JdX,h1,h2]
     simp only[JeV,JdX,List.map_nil]at this⊢
     rw[this]
    ·obtain⟨j',e0,g1,g2,g3,g4⟩:=ih.2 j q hj
     refine⟨j'+1,e0,by omega,by simpa using g2,g3,λf S6 S7=> ?_⟩
     simp only[List.modify_succ_cons,JdX,h1,h2,g4 f S6 S7]
theorem Hw {ks:Sh} {p v:PV} (hp:fits ks p=true) (hv:oL v=true):∀ {l:List (PV×PV)},(∀x∈l,fits ks x.1=true∧oL x.2=true)->∀x∈vU p v l,fits ks x.1=true∧oL x.2=true
 |[],_=>by simp[vU,hp,hv]
 |
  (k,u)::r,h=>by
  intro x hx
  simp only[vU]at hx
  split at hx
  ·rcases cJ.1 hx with rfl|hx
   ·exact⟨hp,hv⟩
   ·exact h x (by simp[hx])
  ·rcases cJ.1 hx with rfl|hx
   ·exact h _ (by simp)
   ·exact Hw hp hv (λy hy=>h y (by simp[hy])) x hx
theorem Bu {k b:Nat} {blk bq:aU} {es:Array MapEntry} {cl:Nat} {o':Obj} (hg:get Γ.bx k=some blk) (hb:Γ.ι k=some b) (hc:Γ.heap[b]? =some (.map es cl)) (ht:blk.aN≤bq.aN):
  Le Γ (Γ.gm b o' k bq) where
 heap b' sN cS:=by
  have:b≠b':=by intro h;subst h;exact cS ⟨k,blk,hg,hb⟩
  simp only[Cx.gm];rw[Array.getElem?_setIfInBounds_ne this]
 gn b' sN h:=by
  obtain⟨i,bl,RX,hi⟩:=h;simp only[Cx.gm,eg]at RX hi;by_cases fO:k=i
  ·subst fO;exact⟨k,blk,hg,hi⟩
  ·rw[if_neg fO]at RX;exact⟨i,bl,RX,hi⟩
 b9:=rfl
 size:=by simp[Cx.gm]
 ref i bl h:=by
  have keep:∀b2,Γ.ι i=some b2->∀cs e',Γ.heap[b2]? =some (.cells cs e' (0,0))->∃DH,(Γ.gm b o' k bq).heap[b2]? =some (.cells DH e' (0,0))∧DH.size=cs.size:=by
   intro b2 AU cs e' DU;by_cases Fk:b=b2
   ·subst Fk;rw[hc]at DU;simp at DU
   ·exact⟨cs,by simp only[Cx.gm];rw[Array.getElem?_setIfInBounds_ne Fk];exact DU,rfl⟩
  by_cases fO:k=i
  ·subst fO;rw[hg]at h;cases h;exact⟨bq,by simp[Cx.gm,bG],ht,λ_=>⟨rfl,keep⟩⟩
  ·exact⟨bl,by simp only[Cx.gm];rw[bp _ _ _ _ fO];exact h,JaQ _,λ_=>⟨rfl,keep⟩⟩
theorem OS (hm:Mem Γ) {k b:Nat} {blk bq:aU} {es:Array MapEntry} {cl:Nat} {o':Obj} (hg:get Γ.bx k=some blk) (hb:Γ.ι k=some b) (hc:Γ.heap[b]? =some (.map es cl)) (ht:blk.aN≤bq.aN)
  (hr:bq.xz (Γ.gm b o' k bq) (some b)):Mem (Γ.gm b o' k bq) where
 blk i bl h:=by
  by_cases fO:k=i
  ·subst fO;simp only[Cx.gm,bG,sJ]at h;subst h;have:(Γ.gm b o' k bq).ι k=some b:=hb;rw[this];exact hr
  ·simp only[Cx.gm]at h;rw[bp _ _ _ _ fO]at h;have:=hm.blk i bl h
   exact this.mono (Bu hg hb hc ht) (λb2 AU=>by
    have cS:b≠b2:=by
     intro h';subst h';exact fO (hm.inj k i b (by simp[hg]) (by simp[h]) hb AU)
    simp only[Cx.gm];rw[Array.getElem?_setIfInBounds_ne cS])
 inj i j b2 hi hj h1 h2:=by
  refine hm.inj i j b2 ?_ ?_ h1 h2
  ·simp only[Cx.gm,eg]at hi;split at hi
   ·subst_vars;simp[hg]
   ·exact hi
  ·simp only[Cx.gm,eg]at hj;split at hj
   ·subst_vars;simp[hg]
   ·exact hj
 b9 b2 h:=by have:=hm.b9 b2 h;simpa[Cx.gm]using this
 apart b2 h hp:=hm.apart b2 ((Bu (o':=o') hg hb hc ht).gn b2 (hm.b9 b2 hp) h) hp
 xA:=hm.kZ (Bu hg hb hc ht)
theorem Cu {o:Oper} {t k e:TypeId} {ks vs:Sh} {m x y:Operand} {m' x' y':AX} {K:St->Prop} (ho:o.op= .mapUpdate t m x y∨o.op= .insert t m x y) (hu:P.underlying t=some (.map k e)) (hm:gk m=some m') (hx:gk x=some x') (hy:gk y=some y')
  (S5:rq P 20 k=some ks) (hs:fX nt ds s Γ a) (hw:w.heap=Γ.heap) (he:ex s o.dst (.mapSet ks vs m' x' y') K):jO P nt ds o a w Γ K:=by
 simp only[ex]at he;obtain⟨pm,W6,sQ⟩:=bw hm hs rfl he;obtain⟨p,G8,qP⟩:=bw hx hs rfl W6;obtain⟨v,he3,hr3⟩:=bw hy hs rfl G8;clear he W6 G8;split at he3
 ·rename_i kk b;split at he3
  ·rename_i b' BR DV l hg;obtain⟨⟨hdn,rfl,rfl,rfl,hp,hv⟩,hK⟩:=he3;rw[←hs.bx]at hg;have Ep:=hs.mem.blk _ _ hg;obtain⟨hι,es,clock,hb,hen,GS⟩:=Ep;have hkv:=EB hp qP;have hvv:=Ho hv hr3;have hE:vV BR es.toList l:=⟨hen,λy hy=>(GS y hy).1⟩
   have Mh:=Hs (P:=P) (w:=w) S5 hp hE;have BT:=ED (P:=P) (Γ:=Γ) (em:=false) 20 10000 (by omega) S5 w p _ hp (xO hp);have xw:=sQ.mp;have sN:w.heap[b']? =some (.map es clock):=by rw[hw];exact hb
   have anD:=Hv (v:=v) hp (i:=0) hE
   have main:∃es' cl',(Instr.mapUpdate t (a.eval m) (a.eval x) (a.eval y)).run P w= .ok () {w with heap:=w.heap.setIfInBounds b' (.map es' cl')}∧
     es'.toList.map (λe=>(e.key,e.val))=(vU p v l).map (λx=>(cI x.1,cI x.2)):=by
    rw[xw,hkv,hvv]
    cases KJ:sU p l 0 with
    |
     none=>
     refine⟨es.push ⟨cI p,cI v,clock⟩,clock+1,?_,?_⟩
     ·simp only[Instr.mapUpdate,bJ,run_underlying hu,rJ,MapKept.run_getObj_map sN,BT,Mh,KJ,JoJ,MapKept.run_setObj_map _ sN]
     ·have:=anD.1 KJ
      simpa using this
    |
     some jq=>
     obtain⟨j,q⟩:=jq
     obtain⟨j',e0,g1,g2,g3,g4⟩:=anD.2 j q KJ
     have hj:j=j':=by omega
     subst hj
     refine⟨es.modify j λe=> {e with key:=cI p,val:=cI v},clock,?_,?_⟩
     ·have ge:(es[j]?.map (·.key)).getD (cI p)=cI p:=by
       rw[←Array.getElem?_toList,g2];simp[g3]
      simp only[Instr.mapUpdate,bJ,run_underlying hu,rJ,MapKept.run_getObj_map sN,BT,Mh,KJ,JjJ,ge,MI hp,MapKept.run_setObj_map _ sN]
     ·have:=g4 (λe=> {e with key:=cI p,val:=cI v}) rfl rfl
      rw[←this]
      congr 1
      apply JkJ
      intro i
      simp[List.getElem?_modify]
   obtain⟨es',cl',fN,au2⟩:=main;have hle:=Bu (o':= .map es' cl') (bq:= .map b' BR DV (vU p v l)) hg hι hb (JaQ _);have iA:=OS (o':= .map es' cl') (bq:= .map b' BR DV (vU p v l)) hs.mem hg hι hb (JaQ _) ⟨rfl,es',cl',by simp only[Cx.gm];rw[uJ (bS hb)],au2,Hw hp hv GS⟩;have h1:=hs.le hle iA (xH:=put s.bx kk (.map b' BR DV (vU p v l))) (by simp[Cx.gm,hs.bx]);refine⟨.skip,undef,{w with heap:=w.heap.setIfInBounds b' (.map es' cl')},_,_,?_,.inr ⟨rfl,rfl⟩,by rw[hdn];exact h1,?_,hle,⟨rfl,rfl,rfl⟩,hK⟩
   ·have e2:execOp a.eval o=(do Instr.mapUpdate t (a.eval m) (a.eval x) (a.eval y);Pure.pure Next.skip):=by rcases ho with ho|ho<;>(unfold execOp;rw[ho])
    rw[e2,bJ,fN];rfl
   ·simp[Cx.gm,hw]
  ·exact he3.elim
 ·exact he3.elim
end Go.Ab
namespace Go.Ab
variable [cK]
variable {P:Program} {nt:Nat} {ds:List Deferred} {s:St} {Γ:Cx} {a:Act} {w:World}
theorem aD.ah6 {Δ:Cx}:∀ {l:List PV} {cs:List Value},aD Γ l cs->l.all PV.isNum=true->aD Δ l cs
 |_,_,.nil,_=> .nil
 |_,_,.int k n h,hn=> .int k n (aD.ah6 h (by simpa[PV.isNum]using hn))
 |_,_,.un _ _,hn=>by simp[PV.isNum]at hn
 |_,_,.bl _ _,hn=>by simp[PV.isNum]at hn
 |_,_,.str _ _ _ _,hn=>by simp[PV.isNum]at hn
 |_,_,.st _ _ _ _ _,hn=>by simp[PV.isNum]at hn
 |_,_,.ar _ _ _ _ _ _ _,hn=>by simp[PV.isNum]at hn
 |_,_,.sl _ _ _ _ _ _ _ _ _ _ _,hn=>by simp[PV.isNum]at hn
 |_,_,.rs _ _ _ _ _ _ _ _ _ _ _ _ _,hn=>by simp[PV.isNum]at hn
 |_,_,.np _,hn=>by simp[PV.isNum]at hn
 |_,_,.pt _ _ _ _ _ _ _ _ _,hn=>by simp[PV.isNum]at hn
 |_,_,.fp _ _ _ _ _ _ _ _ _ _,hn=>by simp[PV.isNum]at hn
 |_,_,.fn _ _ _ _ _ _ _ _,hn=>by simp[PV.isNum]at hn
 |_,_,.nf _,hn=>by simp[PV.isNum]at hn
 |_,_,.ifc _ _ _ _ _,hn=>by simp[PV.isNum]at hn
 |_,_,.ni _,hn=>by simp[PV.isNum]at hn
 |_,_,.mp _ _ _,hn=>by simp[PV.isNum]at hn
def Cx.lit (Γ:Cx) (b:Nat) (o:Obj) (k:Nat) (blk:aU):Cx:=
 {heap:=Γ.heap.setIfInBounds b o,ι:=λi=>if i=k then none else Γ.ι i,bx:=put Γ.bx k blk,b9:=Γ.b9}
theorem FJ (hm:Mem Γ) {k b:Nat} {blk bq:aU} {o o':Obj} (hg:get Γ.bx k=some blk) (hb:Γ.ι k=some b) (ho:Γ.heap[b]? =some o) (ht:blk.aN<bq.aN):Le Γ (Γ.lit b o' k bq) where
 heap b' sN cS:=by
  have:b≠b':=by intro h;subst h;exact cS ⟨k,blk,hg,hb⟩
  simp only[Cx.lit];rw[Array.getElem?_setIfInBounds_ne this]
 gn b' sN h:=by
  obtain⟨i,bl,RX,hi⟩:=h;simp only[Cx.lit,eg]at RX hi;by_cases fO:k=i
  ·subst fO;simp at hi
  ·rw[if_neg fO]at RX;rw[if_neg (λe=>fO e.symm)]at hi;exact⟨i,bl,RX,hi⟩
 b9:=rfl
 size:=by simp[Cx.lit]
 ref i bl h:=by
  by_cases fO:k=i
  ·subst fO;rw[hg]at h;cases h;exact⟨bq,by simp[Cx.lit,bG],by omega,λe=>by omega⟩
  ·refine⟨bl,by simp only[Cx.lit];rw[bp _ _ _ _ fO];exact h,JaQ _,λ_=>⟨by simp only[Cx.lit];rw[if_neg (λe=>fO e.symm)],λb2 AU cs e hc=>⟨cs,?_,rfl⟩⟩⟩
   have cS:b≠b2:=by
    intro h';subst h';exact fO (hm.inj k i b (by rw[hg];rfl) (by rw[h];rfl) hb AU)
   simp only[Cx.lit];rw[Array.getElem?_setIfInBounds_ne cS];exact hc
theorem Tu (hm:Mem Γ) {k b:Nat} {blk bq:aU} {o o':Obj} (hg:get Γ.bx k=some blk) (hb:Γ.ι k=some b) (ho:Γ.heap[b]? =some o) (ht:blk.aN<bq.aN) (hr:bq.xz (Γ.lit b o' k bq) none):Mem (Γ.lit b o' k bq) where
 blk i bl h:=by
  by_cases fO:k=i
  ·subst fO;simp only[Cx.lit,bG,sJ]at h;subst h;have:(Γ.lit b o' k bq).ι k=none:=by simp[Cx.lit]
   rw[this];exact hr
  ·simp only[Cx.lit]at h;rw[bp _ _ _ _ fO]at h;have h2:=hm.blk i bl h;have hi:(Γ.lit b o' k bq).ι i=Γ.ι i:=by simp only[Cx.lit];rw[if_neg (λe=>fO e.symm)]
   rw[hi]
   exact h2.mono (FJ hm hg hb ho ht) (λb2 AU=>by
    have cS:b≠b2:=by
     intro h';subst h';exact fO (hm.inj k i b (by simp[hg]) (by simp[h]) hb AU)
    simp only[Cx.lit];rw[Array.getElem?_setIfInBounds_ne cS])
 inj i j b2 hi hj h1 h2:=by
  simp only[Cx.lit]at h1 h2;have GV:¬i=k:=by intro e;rw[if_pos e]at h1;cases h1
  have hkj:¬j=k:=by intro e;rw[if_pos e]at h2;cases h2
  rw[if_neg GV]at h1;rw[if_neg hkj]at h2;refine hm.inj i j b2 ?_ ?_ h1 h2
  ·simp only[Cx.lit]at hi;rwa [bp _ _ _ _ (λe=>GV e.symm)]at hi
  ·simp only[Cx.lit]at hj;rwa [bp _ _ _ _ (λe=>hkj e.symm)]at hj
 b9 b2 h:=by have:=hm.b9 b2 h;simpa[Cx.lit]using this
 apart b2 h hp:=hm.apart b2 ((FJ hm (o':=o') hg hb ho ht).gn b2 (hm.b9 b2 hp) h) hp
 xA:=hm.kZ (FJ hm hg hb ho ht)
theorem A8 (w:World) (t e e':TypeId) (C:Array Value) (b n c:Nat) (ht:P.underlying t=some (.slice e)) (he:P.underlying e=some (.int .u8)) (hb:w.heap[b]? =some (.cells C e' (0,0))):
  (convert t t (.slice (some ⟨b,0,none⟩) n c)).run P w= .ok (.slice (some ⟨b,0,none⟩) n c) {w with heap:=w.heap.setIfInBounds b (.cells C e' (C.size,C.size+1))}:=by
 have AT:w.shape? b=some (e',C.size):=by unfold World.shape?;rw[hb]
 have pF:w.freeze ⟨b,C.size,none⟩ 1= {w with heap:=w.heap.setIfInBounds b (.cells C e' (C.size,C.size+1))}:=by
  unfold World.freeze;rw[if_neg (by decide)]
  have:∀f:Obj->Obj,w.heap.modify b f=w.heap.setIfInBounds b (f (.cells C e' (0,0))):=by
   intro f;apply Array.ext_getElem?;intro i;rw[Array.getElem?_modify,Array.getElem?_setIfInBounds];by_cases h:b=i
   ·subst h;rw[hb];simp[bS hb]
   ·simp[h]
  rw[this];rfl
 simp[convert,run_underlying ht,run_underlying he,markStringish,AT,pF]
theorem MK {o:Oper} {t e:TypeId} {x:Operand} {x':AX} {K:St->Prop} (ho:o.op= .convert t t x) (h1:P.underlying t=some (.slice e)) (h3:P.underlying e=some (.int .u8))
  (hx:gk x=some x') (hs:fX nt ds s Γ a) (hw:w.heap=Γ.heap) (hd:∀k,o.dst=some k->k<nt) (he:ex s o.dst (.convL x') K):jO P nt ds o a w Γ K:=by
 simp only[ex]at he;obtain⟨p,hp,hr⟩:=bw hx hs rfl he;cases p<;>simp only at hp<;>first|exact hp.elim|skip
 rename_i k pth off len aN sz c;split at hp
 ·rename_i bN l hg;obtain⟨⟨rfl,rfl,rfl,rfl,rfl,rfl,rfl,cS,au3⟩,hK⟩:=hp;rw[←hs.bx]at hg;obtain⟨ad,aX,hv,df⟩:=hr.rs hg rfl;have Ep:=hs.mem.blk _ _ hg;unfold gX at df;have hlen:0<l.length:=by cases l<;>simp at cS⊢
  cases hι:Γ.ι k with
  |none=>rw[hι]at df;simp only at df;omega
  |
   some b=>
   rw[hι]at df
   simp only at df
   obtain⟨W8,had,_,au4⟩:=df
   obtain⟨_,Mf,e0,ayV,Ad⟩:=au4 trivial
   have au5:ad=some ⟨b,0,none⟩:=by
    rcases had with h|h
    ·omega
    ·simpa[bI]using h
   subst au5
   simp only[aU.xz,hι]at Ep
   obtain⟨anE,_,C,e1,cs,rest,hC,GU,G9,_⟩:=Ep
   have BU:w.heap[b]? =some (.cells C e1 (0,0)):=by rw[hw];exact hC
   have ht:(aU.arr 1 l).aN<(aU.arr 1 (l++[.int .u8 0])).aN:=by simp[aU.aN]
   have fN:(execOp a.eval o).run P w= .ok (.value (.slice (some ⟨b,0,none⟩) l.length aX)) {w with heap:=w.heap.setIfInBounds b (.cells C e1 (C.size,C.size+1))}:=by
    have e2:execOp a.eval o=(do Pure.pure (Next.value (←convert t t (a.eval x)))):=by unfold execOp;rw[ho]
    rw[e2,bJ,hv,A8 w t e e1 C b l.length aX h1 h3 BU];rfl
   have hle:=FJ hs.mem (o':= .cells C e1 (C.size,C.size+1)) hg hι hC ht
   have iA:=Tu hs.mem (o':= .cells C e1 (C.size,C.size+1)) hg hι hC ht ⟨by
    intro y hy;rcases JaZ.1 hy with h|h
    ·exact anE y h
    ·simp at h;subst h;rfl,by omega,trivial⟩
   have g1:=hs.le hle iA (xH:=put s.bx k (.arr 1 (l++[.int .u8 0]))) (by simp[Cx.lit,hs.bx])
   have anF:¬(Γ.lit b (.cells C e1 (C.size,C.size+1)) k (.arr 1 (l++[.int .u8 0]))).own b:=by
    rintro(⟨i,bl,q1,q2⟩|q)
    ·simp only[Cx.lit]at q1 q2;by_cases fO:i=k
     ·rw[if_pos fO]at q2;cases q2
     ·rw[if_neg fO]at q2;rw[bp _ _ _ _ (λe=>fO e.symm)]at q1;exact fO (hs.mem.inj i k b (by simp[q1]) (by simp[hg]) q2 hι)
    ·exact hs.mem.apart b ⟨k,_,hg,hι⟩ q
   have DQ:aK (Γ.lit b (.cells C e1 (C.size,C.size+1)) k (.arr 1 (l++[.int .u8 0]))) (.sl 1 l false) (.slice (some ⟨b,0,none⟩) l.length aX):=by
    simp only[aK];refine .sl 1 l false _ aX (G9.ah6 au3) anE W8 (by simp) (λ_=>⟨b,0,rfl,by simp[Cx.lit];exact bS hC,anF,λi c hc=> ?_⟩) .nil;simp only[cell,Cx.lit,JhX];rw[uJ (bS hC)];simp only;rw[←Array.getElem?_toList,GU,List.getElem?_append_left (iJ.1 hc).1];exact hc
   have g2:=g1.put hd DQ
   refine⟨_,_,_,_,_,fN,.inl rfl,g2,by simp[Cx.lit,hw],hle,⟨rfl,rfl,rfl⟩,hK⟩
 ·exact hp.elim
end Go.Ab
namespace Go.Ab
variable [cK]
variable {P:Program} {nt:Nat} {ds:List Deferred} {s:St} {Γ:Cx} {a:Act} {w:World}
theorem Hx {o:Oper} {t u e:TypeId} {kn:IntKind} {i:TypeInfo} {z:Value} {zz:PV} {x y:Operand} {x' y':AX} {K:St->Prop} (ho:o.op= .call {callee:= .builtin .append,args:= #[x,y],argTypes:= #[t,u]})
  (ht:P.underlying t=some (.slice e)) (hu:P.underlying u=some (.int kn)) (hi:P.info? e=some i) (hz:i.zero=some z) (hzz:zeroOf P e=some zz) (ZX:z.cells.size=i.size) (jW:0<i.size) (adN:z.cells.toList.all ew=true)
  (hx:gk x=some x') (hy:gk y=some y') (hs:fX nt ds s Γ a) (hw:w.heap=Γ.heap) (hd:∀k,o.dst=some k->k<nt) (he:ex s o.dst (.appendZ i.size i.bytes zz x' y') K):jO P nt ds o a w Γ K:=by
 simp only[ex]at he;obtain⟨p,hp,sQ⟩:=bw hx hs rfl he;obtain⟨q,hq,qP⟩:=bw hy hs rfl hp;obtain⟨kv,m,hm,hA⟩:=eX hq qP;obtain⟨zv,Oh,S0,DL,_,ayW⟩:=jZ (Γ:=Γ) hzz;have WY:zz.width=i.size:=by rw[yX hi]at DL;exact(Option.some.inj DL).symm
 have au6:zv=z:=by
  have h1:=Oh w;simp only[zeroValue,typeInfo,bJ]at h1;simp[hi,hz]at h1;exact h1.symm
 subst au6;unfold pY at hA;split at hA
 ·exact hA.elim
 rename_i k hk;split at hA
 case h_2=>exact hA.elim
 rename_i k2 len aN bN n;split at hA
 case h_2=>exact hA.elim
 rename_i sz'' l hg;obtain⟨⟨gK,h1,h2,h3,hln,auV,RS,dk,h5,h6⟩,hK⟩:=hA;subst h1 h2 h3;have lx:=hg;rw[←hs.bx]at lx;obtain⟨ad,aX,hv,df⟩:=sQ.rs lx rfl;obtain⟨nD,_,lu⟩:=hs.mem.blk k2 _ lx;have Z4:∀x∈l.take len,x.width=i.size:=λx hx=>nD x (JbX hx);have Fo:(l.take len).length=len:=by rw[lJ];omega
 have xr:aX=n:=by
  unfold gX at df;split at df
  ·exact df.2.2
  ·exact df.2.2.1
 subst xr;obtain⟨mn,rfl⟩:∃mn:Nat,m=mn:=⟨m.toNat,by omega⟩
 simp only[Int.toNat_natCast]at dk h5 h6 hK
 --the old cells
 obtain⟨cs,DU,nC⟩:∃cs,aD Γ (l.take len) cs∧(0<len->∃b o,ad=some ⟨b,o,none⟩∧∀j x,cs[j]? =some x->cell Γ.heap b (o+j)=some x):=by
  unfold gX at df;cases hι:Γ.ι k2 with
  |
   none=>
   rw[hι]at df
   obtain⟨rfl,_,_⟩:=df
   exact⟨[],by simpa using aD.nil,by simp⟩
  |
   some b=>
   rw[hι]at df lu
   obtain⟨o1,o2,_,_⟩:=df
   obtain⟨c,ce,cs,rest,h7,h8,h9,Jb⟩:=lu
   refine⟨cs.take (len*i.size),h9.Hl nD len (by omega),λhp=> ?_⟩
   rcases o2 with o2|rfl
   ·omega
   refine⟨b,_,rfl,λj x hj=> ?_⟩
   have hb:=mb h7 cs rest h8
   have Er:cs[j]? =some x:=by
    rw[List.getElem?_take]at hj;split at hj
    ·exact hj
    ·cases hj
   simpa[bI]using hb j x Er
 have rh:cs.length=len*i.size:=by rw[DU.length,bf Z4,Fo]
 obtain⟨w',cap,r1,r2,r3,r4⟩:=y5 (P:=P) (w:=w) (ty:=o.type) (kv:=kv) ht hu hi hz (ad:=ad) (sLen:=len) (sCap:=aX) (n:=mn) (olds:=cs)
  (.inl ⟨ad,aX,rfl,λjW=>by rw[hw];exact nC (by omega)⟩) rh (by omega) jW dk h6 h5
 rw[←hv,←hm]at r1
 have hzl:(Builtin.zeroCells zv.cells mn).toList=(List.replicate mn zv.cells.toList).flatten:=by
  have:=lL zv.cells mn;simpa[Builtin.zeroCells]using this
 have hrz:=iO S0 mn;rw[←hzl]at hrz
 exact pZ (cap:=cap) (l:=l.take len++List.replicate mn zz) (cs:=cs++(Builtin.zeroCells zv.cells mn).toList) (rest:=(Builtin.zeroCells zv.cells (cap-(len+mn))).toList) hs hw hk (hd k hk) gK jW (DU.append hrz)
  (λx hx=>(JaZ.1 hx).elim (Z4 x) (λhx=>by rw[(JrQ.1 hx).2];exact WY))
  (by simp only[JaJ,JbZ,sf,ZX,rh,←JgZ];congr 1;omega)
  (by rw[JaJ,Fo,JcW];exact r2) (wD (by omega) adN)
  (by rw[JaJ,Fo,JcW];exact j9 ho r1) r3 r4
  (by rw[JaJ,Fo,JcW];exact hK)
end Go.Ab
