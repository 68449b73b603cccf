/- Each acting operation and each call does what its abstract reading says. No condition. -/
import Derived.Test.YtkbdeacknefoaaaGreatDoorA2
import Derived.Laws.Append
import Derived.Laws.IdiomStrings
import Derived.OrdersIn
import Derived.RangeFuncSeq
import Derived.RangeFuncLeaves
import Derived.RangeFuncRecord
set_option linter.all false
namespace Go.Ab
variable [eo]
variable {P:Program} {nt:Nat} {ds:List Deferred} {s:St} {Γ:Cx} {a:Act} {w:World}
structure WF (w w':World):Prop where
 os:w'.os=w.os
 tape:w'.tape=w.tape
 output:w'.output=w.output
theorem WF.refl (w:World):WF w w:=⟨rfl,rfl,rfl⟩
theorem WF.trans {a b c:World} (h:WF a b) (k:WF b c):WF a c:=⟨k.os.trans h.os,k.tape.trans h.tape,k.output.trans h.output⟩
theorem aN.oh {Γ Γ':Cx} (hle:Kz Γ Γ'):∀ {p:PV} {v:Value},aN Γ p v->aN Γ' p v:=by
 have h1:∀ {p:PV} {v:Value},kr Γ p v->kr Γ' p v:=by
  intro p v h
  cases p
  case un=>trivial
  case st w l=>obtain⟨cs,h1,h2⟩:=h;exact⟨cs,h1,h2.oh hle⟩
  case ar sz n l=>obtain⟨cs,h1,h2⟩:=h;exact⟨cs,h1,h2.oh hle⟩
  all_goals exact aD.oh hle h
 have h2:∀ {l:List PV} {vs:List Value},kS Γ l vs->kS Γ' l vs:=by
  intro l
  induction l with
  |nil=>intro vs h;cases vs<;>simp_all [kS]
  |
   cons p l ih=>
   intro vs h
   cases vs with
   |nil=>simp[kS]at h
   |cons v vs=>simp only[kS]at h⊢;exact⟨h1 h.1,ih h.2⟩
 intro p
 induction p using PV.rec (motive_2:=λ_=>True)with
 |gd b p ih=>intro v h;rw[aN]at h⊢;exact⟨λhb=>ih (h.1 hb),h.2⟩
 |tup l=>intro v h;simp only[aN]at h⊢;obtain⟨vs,e,h⟩:=h;exact⟨vs,e,h2 h⟩
 |un=>intro v h;simp[aN]
 |st w l=>intro v h;obtain⟨cs,e,h⟩:=h;exact⟨cs,e,h.oh hle⟩
 |ar sz n l=>intro v h;obtain⟨cs,e,h⟩:=h;exact⟨cs,e,h.oh hle⟩
 |nil=>trivial
 |cons=>trivial
 |_=>intro v h;exact aD.oh hle h
theorem br.xv.oh {Γ Γ':Cx} (hle:Kz Γ Γ') {ob:Option Nat} {blk:br} (hh:∀b,ob=some b->Γ'.heap[b]? =Γ.heap[b]?) (h:blk.xv Γ ob):blk.xv Γ' ob:=by
 cases blk with
 |
  box v=>
  obtain⟨b,c,e,h1,h2,h3⟩:=h
  exact⟨b,c,e,h1,by rw[hh b h1];exact h2,h3.oh hle⟩
 |
  arr sz l=>
  obtain⟨h1,h2,h3⟩:=h
  refine⟨h1,h2,?_⟩
  cases ob with
  |none=>exact h3
  |
   some b=>
   obtain⟨c,e,cs,rest,h4,h5,h6,h7⟩:=h3
   exact⟨c,e,cs,rest,by rw[hh b rfl];exact h4,h5,h6.oh hle,h7⟩
 |
  map b ks vs l=>
  obtain⟨h1,h2⟩:=h
  exact⟨h1,by rw[hh b h1];exact h2⟩
theorem aN.mono {Γ Γ':Cx} (hle:Le Γ Γ') {p:PV} {v:Value} (h:aN Γ p v):aN Γ' p v:=h.oh hle.c
theorem br.xv.mono {Γ Γ':Cx} (hle:Le Γ Γ') {ob:Option Nat} {blk:br} (hh:∀b,ob=some b->Γ'.heap[b]? =Γ.heap[b]?) (h:blk.xv Γ ob):blk.xv Γ' ob:=h.oh hle.c hh
theorem cH {h:Array Obj} {b:Nat} {o:Obj} (e:h[b]? =some o):b<h.size:=(Array.getElem?_eq_some_iff.1 e).1
theorem br.xv.lt {blk:br} {b:Nat} (h:blk.xv Γ (some b)):b<Γ.heap.size:=by
 cases blk with
 |box v=>obtain⟨b',c,e,h1,h2,h3⟩:=h;cases h1;exact cH h2
 |arr sz l=>obtain⟨_,_,c,e,cs,rest,h4,_⟩:=h;exact cH h4
 |map b0 ks vs l=>obtain⟨h1,es,clock,h2,_⟩:=h;cases h1;exact cH h2
theorem Mem.lt (hm:Mem Γ) {b:Nat} (h:Γ.iQ b):b<Γ.heap.size:=by
 obtain⟨k,blk,hg,hb⟩:=h
 have:=hm.blk k blk hg
 rw[hb]at this
 exact this.lt
theorem Mem.xz (hm:Mem Γ):¬Γ.own Γ.heap.size:=by
 rintro(h|h)
 ·exact Nat.lt_irrefl _ (hm.lt h)
 ·exact Nat.lt_irrefl _ (hm.dU _ h)
def Cx.push (Γ:Cx) (o:Obj):Cx:= {Γ with heap:=Γ.heap.push o}
def Cx.ext (Γ:Cx) (o:Obj) (k:Nat) (blk:br):Cx:=
 {heap:=Γ.heap.push o,ι:=λi=>if i=k then some Γ.heap.size else Γ.ι i,bx:=put Γ.bx k blk,dU:=Γ.dU}
def Cx.mu (Γ:Cx) (k:Nat) (blk:br):Cx:=
 {Γ with ι:=λi=>if i=k then none else Γ.ι i,bx:=put Γ.bx k blk}
theorem mG (h:Array Obj) (o:Obj) {b:Nat} (hb:b<h.size):(h.push o)[b]? =h[b]? :=by
 rw[Array.getElem?_push,if_neg (by omega)]
theorem qZ (Γ:Cx) (o:Obj):Le Γ (Γ.push o) where
 heap b hb _:=mG _ _ hb
 iQ b _ h:=h
 dU:=rfl
 size:=by simp[Cx.push]
 ref k blk h:=⟨blk,h,Nat.le_refl _,λ_=>⟨rfl,λb _ cs e hc=>⟨cs,by rw[←hc];exact mG _ _ (cH hc),rfl⟩⟩⟩
theorem zb (Γ:Cx) (o:Obj) {k:Nat} (blk:br) (hk:get Γ.bx k=none):Le Γ (Γ.ext o k blk) where
 heap b hb _:=mG _ _ hb
 iQ b hb h:=by
  obtain⟨i,bl,hg,hi⟩:=h
  simp only[Cx.ext]at hg hi
  by_cases iP:i=k
  ·subst iP;simp at hi;omega
  ·rw[if_neg iP]at hi
   rw[ch _ _ _ _ (λh=>iP h.symm)]at hg
   exact⟨i,bl,hg,hi⟩
 dU:=rfl
 size:=by simp[Cx.ext]
 ref i bl h:=by
  have iP:i≠k:=by intro h';subst h';rw[hk]at h;simp at h
  refine⟨bl,by simp only[Cx.ext];rw[ch _ _ _ _ (λh=>iP h.symm)];exact h,Nat.le_refl _,λ_=>⟨by simp[Cx.ext,iP],λb _ cs e hc=>⟨cs,by rw[←hc];exact mG _ _ (cH hc),rfl⟩⟩⟩
theorem sP (Γ:Cx) {k:Nat} (blk:br) (hk:get Γ.bx k=none):Le Γ (Γ.mu k blk) where
 heap b hb _:=rfl
 iQ b hb h:=by
  obtain⟨i,bl,hg,hi⟩:=h
  simp only[Cx.mu]at hg hi
  by_cases iP:i=k
  ·subst iP;simp at hi
  ·rw[if_neg iP]at hi
   rw[ch _ _ _ _ (λh=>iP h.symm)]at hg
   exact⟨i,bl,hg,hi⟩
 dU:=rfl
 size:=Nat.le_refl _
 ref i bl h:=by
  have iP:i≠k:=by intro h';subst h';rw[hk]at h;simp at h
  exact⟨bl,by simp only[Cx.mu];rw[ch _ _ _ _ (λh=>iP h.symm)];exact h,Nat.le_refl _,λ_=>⟨by simp[Cx.mu,iP],λb _ cs e hc=>⟨cs,hc,rfl⟩⟩⟩
theorem Mem.ns {Γ Γ':Cx} (hm:Mem Γ) (hl:Le Γ Γ') (b:Nat) (cs:Array Value) (h:eo.uI b=some cs):¬Γ'.iQ b∧∃e x,Γ'.heap[b]? =some (.cells cs e x):=by
 obtain⟨h1,e,x,h2⟩:=hm.uI b cs h
 refine⟨λhb=>h1 (hl.iQ b (cH h2) hb),e,x,?_⟩
 rw[hl.heap b (cH h2) h1];exact h2
theorem mem_push (hm:Mem Γ) (o:Obj):Mem (Γ.push o) where
 blk k blk h:=by
  have:=hm.blk k blk h
  exact this.mono (qZ Γ o) (λb hb=>by
   rw[show(Γ.push o).ι k=Γ.ι k from rfl]at hb
   rw[hb]at this;exact mG _ _ this.lt)
 inj:=hm.inj
 dU b h:=by have:=hm.dU b h;simp only[Cx.push,Array.size_push];omega
 apart:=hm.apart
 uI:=hm.ns (qZ Γ o)
theorem Hs (hm:Mem Γ) {o:Obj} {k:Nat} {blk:br} (hk:get Γ.bx k=none) (hr:blk.xv (Γ.ext o k blk) (some Γ.heap.size)):Mem (Γ.ext o k blk) where
 blk i bl h:=by
  by_cases iP:i=k
  ·subst iP
   simp only[Cx.ext,cZ,sJ]at h
   subst h
   have:(Γ.ext o i blk).ι i=some Γ.heap.size:=by simp[Cx.ext]
   rw[this];exact hr
  ·simp only[Cx.ext]at h
   rw[ch _ _ _ _ (λh=>iP h.symm)]at h
   have:=hm.blk i bl h
   have e:(Γ.ext o k blk).ι i=Γ.ι i:=by simp[Cx.ext,iP]
   rw[e]
   exact this.mono (zb Γ o blk hk) (λb hb=>by rw[hb]at this;exact mG _ _ this.lt)
 inj i j b hi hj h1 h2:=by
  simp only[Cx.ext,iD]at hi hj h1 h2
  by_cases iP:i=k<;>by_cases vX:j=k
  ·rw[iP,vX]
  ·rw[if_pos iP]at h1
   rw[if_neg vX]at h2
   rw[if_neg (λh=>vX h.symm)]at hj
   obtain⟨bl,qS⟩:=Option.isSome_iff_exists.1 hj
   have:=hm.lt ⟨j,bl,qS,h2⟩
   simp at h1;omega
  ·rw[if_neg iP]at h1
   rw[if_pos vX]at h2
   rw[if_neg (λh=>iP h.symm)]at hi
   obtain⟨bl,qS⟩:=Option.isSome_iff_exists.1 hi
   have:=hm.lt ⟨i,bl,qS,h1⟩
   simp at h2;omega
  ·rw[if_neg iP]at h1
   rw[if_neg vX]at h2
   rw[if_neg (λh=>iP h.symm)]at hi
   rw[if_neg (λh=>vX h.symm)]at hj
   exact hm.inj i j b hi hj h1 h2
 dU b h:=by have:=hm.dU b h;simp only[Cx.ext,Array.size_push];omega
 apart b h hp:=by
  have eu:=hm.dU b hp
  exact hm.apart b ((zb Γ o blk hk).iQ b eu h) hp
 uI:=hm.ns (zb Γ o blk hk)
theorem zc (hm:Mem Γ) {k:Nat} {blk:br} (hk:get Γ.bx k=none) (hr:blk.xv (Γ.mu k blk) none):Mem (Γ.mu k blk) where
 blk i bl h:=by
  by_cases iP:i=k
  ·subst iP
   simp only[Cx.mu,cZ,sJ]at h
   subst h
   have:(Γ.mu i blk).ι i=none:=by simp[Cx.mu]
   rw[this];exact hr
  ·simp only[Cx.mu]at h
   rw[ch _ _ _ _ (λh=>iP h.symm)]at h
   have:=hm.blk i bl h
   have e:(Γ.mu k blk).ι i=Γ.ι i:=by simp[Cx.mu,iP]
   rw[e]
   exact this.mono (sP Γ blk hk) (λb hb=>rfl)
 inj i j b hi hj h1 h2:=by
  simp only[Cx.mu,iD]at hi hj h1 h2
  by_cases iP:i=k
  ·rw[if_pos iP]at h1;simp at h1
  ·by_cases vX:j=k
   ·rw[if_pos vX]at h2;simp at h2
   ·rw[if_neg iP]at h1
    rw[if_neg vX]at h2
    rw[if_neg (λh=>iP h.symm)]at hi
    rw[if_neg (λh=>vX h.symm)]at hj
    exact hm.inj i j b hi hj h1 h2
 dU b h:=hm.dU b h
 apart b h hp:=by
  have eu:=hm.dU b hp
  exact hm.apart b ((sP Γ blk hk).iQ b eu h) hp
 uI:=hm.ns (sP Γ blk hk)
def Cx.jD (Γ:Cx) (b:Nat) (o:Obj) (k:Nat) (blk:br):Cx:=
 {Γ with heap:=Γ.heap.setIfInBounds b o,bx:=put Γ.bx k blk}
theorem mH {k b:Nat} {blk b8:br} {c c':Array Value} {e:TypeId} (hg:get Γ.bx k=some blk) (hb:Γ.ι k=some b) (hc:Γ.heap[b]? =some (.cells c e (0,0))) (hs:c'.size=c.size) (ht:blk.aK≤b8.aK):
  Le Γ (Γ.jD b (.cells c' e (0,0)) k b8) where
 heap b' A6 dF:=by
  have:b≠b':=by intro h;subst h;exact dF ⟨k,blk,hg,hb⟩
  simp only[Cx.jD]
  rw[Array.getElem?_setIfInBounds_ne this]
 iQ b' A6 h:=by
  obtain⟨i,bl,Xu,hi⟩:=h
  simp only[Cx.jD,iD]at Xu hi
  by_cases iP:k=i
  ·subst iP;exact⟨k,blk,hg,hi⟩
  ·rw[if_neg iP]at Xu;exact⟨i,bl,Xu,hi⟩
 dU:=rfl
 size:=by simp[Cx.jD]
 ref i bl h:=by
  have keep:∀b2,Γ.ι i=some b2->∀cs e',Γ.heap[b2]? =some (.cells cs e' (0,0))->∃Cn,(Γ.jD b (.cells c' e (0,0)) k b8).heap[b2]? =some (.cells Cn e' (0,0))∧Cn.size=cs.size:=by
   intro b2 BC cs e' AS
   by_cases BD:b=b2
   ·subst BD
    rw[hc]at AS
    simp only[sJ,Obj.cells.injEq]at AS
    obtain⟨rfl,rfl,_⟩:=AS
    exact⟨c',by simp only[Cx.jD];rw[uJ (cH hc)],hs⟩
   ·exact⟨cs,by simp only[Cx.jD];rw[Array.getElem?_setIfInBounds_ne BD];exact AS,rfl⟩
  by_cases iP:k=i
  ·subst iP
   rw[hg]at h;cases h
   exact⟨b8,by simp[Cx.jD,cZ],ht,λ_=>⟨rfl,keep⟩⟩
  ·exact⟨bl,by simp only[Cx.jD];rw[ch _ _ _ _ iP];exact h,Nat.le_refl _,λ_=>⟨rfl,keep⟩⟩
theorem ou (hm:Mem Γ) {k b:Nat} {blk b8:br} {c c':Array Value} {e:TypeId} (hg:get Γ.bx k=some blk) (hb:Γ.ι k=some b) (hc:Γ.heap[b]? =some (.cells c e (0,0))) (hs:c'.size=c.size) (ht:blk.aK≤b8.aK)
  (hr:b8.xv (Γ.jD b (.cells c' e (0,0)) k b8) (some b)):Mem (Γ.jD b (.cells c' e (0,0)) k b8) where
 blk i bl h:=by
  by_cases iP:k=i
  ·subst iP
   simp only[Cx.jD,cZ,sJ]at h
   subst h
   have:(Γ.jD b (.cells c' e (0,0)) k b8).ι k=some b:=hb
   rw[this];exact hr
  ·simp only[Cx.jD]at h
   rw[ch _ _ _ _ iP]at h
   have:=hm.blk i bl h
   exact this.mono (mH hg hb hc hs ht) (λb2 BC=>by
    have dF:b≠b2:=by
     intro h';subst h'
     exact iP (hm.inj k i b (by simp[hg]) (by simp[h]) hb BC)
    simp only[Cx.jD];rw[Array.getElem?_setIfInBounds_ne dF])
 inj i j b2 hi hj h1 h2:=by
  refine hm.inj i j b2 ?_ ?_ h1 h2
  ·simp only[Cx.jD,iD]at hi;split at hi
   ·subst_vars;simp[hg]
   ·exact hi
  ·simp only[Cx.jD,iD]at hj;split at hj
   ·subst_vars;simp[hg]
   ·exact hj
 dU b2 h:=by have:=hm.dU b2 h;simpa[Cx.jD]using this
 apart b2 h hp:=hm.apart b2 ((mH hg hb hc hs ht).iQ b2 (hm.dU b2 hp) h) hp
 uI:=hm.ns (mH hg hb hc hs ht)
end Go.Ab
namespace Go.Ab
variable [eo]
variable {P:Program} {nt:Nat} {ds:List Deferred} {s:St} {Γ:Cx} {a:Act} {w:World}
theorem F2 (v:Value):v.oneCell'=gq v:=by cases v<;>rfl
theorem CG {b o:Nat} {c:Array Value} {e:TypeId} {v:Value} (h:w.heap[b]? =some (.cells c e (0,0))):
  (w.setCell ⟨b,o,none⟩ v).heap=w.heap.setIfInBounds b (.cells (c.setIfInBounds o v) e (0,0)):=by
 have hb:=cH h
 have he:w.heap[b]= .cells c e (0,0):=(Array.getElem?_eq_some_iff.1 h).2
 simp only[World.setCell]
 apply Array.ext
 ·simp
 ·intro i h1 h2
  rw[Array.getElem_modify,Array.getElem_setIfInBounds]
  split
  ·subst_vars;simp[he]
  ·rfl
theorem WF.setCell (w:World) (ad:Addr) (v:Value):WF w (w.setCell ad v):=⟨rfl,rfl,rfl⟩
theorem CH {b o:Nat} {c:Array Value} {e:TypeId} {v:Value} (h:w.heap[b]? =some (.cells c e (0,0))) (ho:o<c.size) (hv:gq v=true):
  (store ⟨b,o,none⟩ v).run P w= .ok () (w.setCell ⟨b,o,none⟩ v):=by
 rw[run_store P w _ v _ (by rw[F2];exact hv)]
 rw[cell?_eq]
 simp[cell,h,ho,World.frozen?]
theorem kC:∀(vs:List Value) (w:World) (b o i:Nat) (c:Array Value) (e:TypeId),w.heap[b]? =some (.cells c e (0,0))->o+i+vs.length≤c.size->(∀v∈vs,gq v=true)->
  ∃w',(storeCells ⟨b,o,none⟩ vs i).run P w= .ok () w'∧w'.heap=w.heap.setIfInBounds b (.cells (bL c.toList (o+i) vs).toArray e (0,0))∧WF w w'
 |
  [],w,b,o,i,c,e,h,hl,hv=>by
  refine⟨w,rfl,?_,WF.refl w⟩
  have:(bL c.toList (o+i) []).toArray=c:=by simp[bL]
  rw[this]
  have he:w.heap[b]? =some (.cells c e (0,0)):=h
  apply Array.ext
  ·simp
  ·intro j h1 h2
   rw[Array.getElem_setIfInBounds]
   split
   ·subst_vars;exact(Array.getElem?_eq_some_iff.1 he).2
   ·rfl
 |
  v::vs,w,b,o,i,c,e,h,hl,hv=>by
  simp only[List.length_cons]at hl
  have hb:=cH h
  have h1:=CH (P:=P) h (show o+i<c.size by omega) (hv v (by simp))
  have hh:=CG (v:=v) (o:=o+i) h
  have fo:(w.setCell ⟨b,o+i,none⟩ v).heap[b]? =some (.cells (c.setIfInBounds (o+i) v) e (0,0)):=by
   rw[hh,uJ hb]
  obtain⟨w',h2,h3,h4⟩:=kC vs (w.setCell ⟨b,o+i,none⟩ v) b o (i+1) (c.setIfInBounds (o+i) v) e fo (by simp;omega) (λx hx=>hv x (by simp[hx]))
  refine⟨w',?_,?_,(WF.setCell w _ v).trans h4⟩
  ·simp only[storeCells,bJ,jL,h1,rJ]
   exact h2
  ·rw[h3,hh]
   have BE:bL (c.setIfInBounds (o+i) v).toList (o+(i+1)) vs=bL c.toList (o+i) (v::vs):=by
    rw[Array.toList_setIfInBounds]
    have eu:o+i<c.toList.length:=by simp;omega
    obtain⟨A,x,B,hA,mZ⟩:∃A x B,A.length=o+i∧c.toList=A++x::B:=
     ⟨c.toList.take (o+i),c.toList[o+i],c.toList.drop (o+i+1),by rw[lJ];omega,by rw[List.getElem_cons_drop,List.take_append_drop]⟩
    rw[mZ,←hA,List.set_append_right (h:=Nat.le_refl _)]
    rw[show o+(i+1)=A.length+1 by omega]
    simp only[Nat.sub_self,List.set_cons_zero,bL,List.length_cons]
    have e1:(A++v::B).take (A.length+1)=A++[v]:=by rw[List.take_append,tJ (by omega)];simp
    have e2:(A++v::B).drop (A.length+1+vs.length)=B.drop vs.length:=by
     rw[List.drop_append,List.drop_eq_nil_of_le (by omega),show A.length+1+vs.length-A.length=vs.length+1 by omega];simp
    have e3:(A++x::B).drop (A.length+(vs.length+1))=B.drop vs.length:=by
     rw[←List.drop_drop];simp
    rw[e1,e2,e3]
    simp
   rw[BE]
   simp
theorem CI {t:TypeId} {b o n:Nat} {c:Array Value} {e:TypeId} {v:Value} (h:w.heap[b]? =some (.cells c e (0,0))) (hn:jz P t=some n) (hs:v.cells.size=n) (ho:o+n≤c.size) (hv:∀x∈v.cells.toList,gq x=true):
  ∃w',(storeVar t ⟨b,o,none⟩ v).run P w= .ok () w'∧w'.heap=w.heap.setIfInBounds b (.cells (bL c.toList o v.cells.toList).toArray e (0,0))∧WF w w':=by
 obtain⟨w',h1,h2,h3⟩:=kC (P:=P) v.cells.toList w b o 0 c e h (by simp;omega) hv
 refine⟨w',?_,by simpa using h2,h3⟩
 simp only[storeVar,bJ,run_sizeOf hn,rJ]
 rw[if_neg (by simp[hs])]
 exact h1
def qx (w:World) (size n:Nat) (v:Value) (cs:List Value):Prop:=
 (∃ad rc,v= .slice ad n rc∧(0<n->∃b o,ad=some ⟨b,o,none⟩∧∀i c,cs[i]? =some c->cell w.heap b (o+i)=some c))∨
 (∃str,v= .string str∧n=str.size∧size=1∧cs=str.data.toList.map λb=> .int .u8 b.toNat)
theorem kD {size n:Nat} {v:Value} {cs:List Value} (h:qx w size n v cs) (hl:cs.length=n*size):(Builtin.firstCells size n v).run P w= .ok cs.toArray w:=by
 rcases h with⟨ad,rc,rfl,h⟩|⟨str,rfl,rfl,rfl,rfl⟩
 ·cases ad with
  |
   none=>
   have:n=0:=by
    rcases Nat.eq_zero_or_pos n with h0|h0
    ·exact h0
    ·obtain⟨b,o,h1,_⟩:=h h0;simp at h1
   subst this
   have:cs=[]:=List.eq_nil_of_length_eq_zero (by simpa using hl)
   subst this;rfl
  |
   some ad=>
   simp only[Builtin.firstCells]
   rw[←hl]
   by_cases h0:0<n
   ·obtain⟨b,o,h1,h2⟩:=h h0
    simp only[sJ]at h1;subst h1
    exact run_loadCells_list w _ cs (λj v hj=>by rw[jL,cell?_eq];exact h2 j v hj)
   ·have:n=0:=by omega
    subst this
    have:cs=[]:=List.eq_nil_of_length_eq_zero (by simpa using hl)
    subst this;rfl
 ·simp only[Builtin.firstCells,Sem.run_pure]
  congr 1
  apply Array.ext'
  rw[Array.toList_map]
  congr 2
  have:str.extract 0 str.size=str:=by simp
  rw[this]
theorem qy {size n:Nat} {v:Value} {cs:List Value} (h:qx w size n v cs):(Builtin.lenOf v).run P w= .ok n w:=by
 rcases h with⟨ad,rc,rfl,_⟩|⟨str,rfl,rfl,_⟩<;>rfl
theorem qz (z:Array Value) (n:Nat):(Builtin.zeroCells z n).size=n*z.size:=by simp[Builtin.zeroCells]
theorem qA {t u e:TypeId} {d:TypeDesc} {i:TypeInfo} {ty:TypeId} (ht:P.underlying t=some (.slice e)) (hu:P.underlying u=some d) (hd:(∃x,d= .slice x)∨d= .string) (hi:P.info? e=some i)
  {b o sLen sCap n:Nat} {y:Value} {news:List Value} {c:Array Value} {ce:TypeId} (hy:qx w i.size n y news) (hl:news.length=n*i.size) (h1:∀v∈news,gq v=true) (tK:sLen+n≤sCap)
  (hb:w.heap[b]? =some (.cells c ce (0,0))) (y8:o+sLen*i.size+n*i.size≤c.size):
  ∃
   w',(Builtin.append_ #[t,u] ty #[.slice (some ⟨b,o,none⟩) sLen sCap,y]).run P w= .ok (.slice (some ⟨b,o,none⟩) (sLen+n) sCap) w'∧
   w'.heap=w.heap.setIfInBounds b (.cells (bL c.toList (o+sLen*i.size) news).toArray ce (0,0))∧WF w w':=by
 obtain⟨w',g1,g2,g3⟩:=kC (P:=P) news w b (o+sLen*i.size) 0 c ce hb (by omega) h1
 refine⟨w',?_,by simpa using g2,g3⟩
 have hf:=kD (P:=P) hy hl
 have hlen:=qy (P:=P) hy
 rcases hd with⟨x,rfl⟩|rfl
 ·simp[Builtin.append_,run_underlying ht,run_underlying hu,sizeOf,typeInfo,hi,hlen,tK,hf,jL,g1]
 ·simp[Builtin.append_,run_underlying ht,run_underlying hu,sizeOf,typeInfo,hi,hlen,tK,hf,jL,g1]
theorem nu {t u e:TypeId} {d:TypeDesc} {i:TypeInfo} {ty:TypeId} (ht:P.underlying t=some (.slice e)) (hu:P.underlying u=some d) (hd:(∃x,d= .slice x)∨d= .string) (hi:P.info? e=some i)
  {ad:Option Addr} {sLen sCap:Nat} {y:Value} (hy:qx w i.size 0 y []) (hle:sLen≤sCap):
  (Builtin.append_ #[t,u] ty #[.slice ad sLen sCap,y]).run P w= .ok (.slice ad sLen sCap) w:=by
 have hf:=kD (P:=P) hy (by simp)
 have hlen:=qy (P:=P) hy
 rcases hd with⟨x,rfl⟩|rfl
 ·cases ad<;>simp[Builtin.append_,run_underlying ht,run_underlying hu,sizeOf,typeInfo,hi,hlen,hle,hf,storeCells]
 ·cases ad<;>simp[Builtin.append_,run_underlying ht,run_underlying hu,sizeOf,typeInfo,hi,hlen,hle,hf,storeCells]
theorem wo {t u e:TypeId} {d:TypeDesc} {i:TypeInfo} {z:Value} {ty:TypeId} (ht:P.underlying t=some (.slice e)) (hu:P.underlying u=some d) (hd:(∃x,d= .slice x)∨d= .string) (hi:P.info? e=some i) (hz:i.zero=some z)
  {ad:Option Addr} {sLen sCap n:Nat} {y:Value} {olds news:List Value} (hs:qx w i.size sLen (.slice ad sLen sCap) olds) (Ko:olds.length=sLen*i.size)
  (hy:qx w i.size n y news) (hl:news.length=n*i.size) (hg:sCap<sLen+n) (h63:sLen+n≤9223372036854775807) (Xv:(sLen+n)*i.bytes≤140737488355328):
  ∃
   w' cap,(Builtin.append_ #[t,u] ty #[.slice ad sLen sCap,y]).run P w= .ok (.slice (some ⟨w.heap.size,0,none⟩) (sLen+n) cap) w'∧sLen+n≤cap∧
   w'.heap=w.heap.push (.cells (olds++news++(Builtin.zeroCells z.cells (cap-(sLen+n))).toList).toArray e (0,0))∧WF w w':=by
 have hn:¬(sLen+n≤sCap):=by omega
 have RO:¬(9223372036854775807<((sLen:Int)+(n:Int))):=by omega
 have RP:¬(281474976710656<Builtin.nextslicecap (sLen+n) sCap*i.bytes):=by have:=growslice_fits hg Xv;omega
 have pz:qx w.drew i.size sLen (.slice ad sLen sCap) olds:=hs
 have hy':qx w.drew i.size n y news:=hy
 have hfo:=kD (P:=P) pz Ko
 have hf:=kD (P:=P) hy' hl
 have hlen:=qy (P:=P) hy
 refine⟨w.drew.alloc (.cells (olds++news++(Builtin.zeroCells z.cells (grownCap w (sLen+n) sCap e-(sLen+n))).toList).toArray e),grownCap w (sLen+n) sCap e,?_,grownCap_ge w _ _ _,rfl,⟨rfl,rfl,rfl⟩⟩
 rcases hd with⟨x,rfl⟩|rfl
 ·simp[Builtin.append_,run_underlying ht,run_underlying hu,sizeOf,typeInfo,zeroValue,hi,hz,hlen,hn,RO,RP,Question.forced,hf,hfo,newRow,grownCap]
  congr 2
  apply Array.ext'
  simp
 ·simp[Builtin.append_,run_underlying ht,run_underlying hu,sizeOf,typeInfo,zeroValue,hi,hz,hlen,hn,RO,RP,Question.forced,hf,hfo,newRow,grownCap]
  congr 2
  apply Array.ext'
  simp
theorem wu {t u e:TypeId} {kn kv:IntKind} {i:TypeInfo} {z:Value} {ty:TypeId} (ht:P.underlying t=some (.slice e)) (hu:P.underlying u=some (.int kn)) (hi:P.info? e=some i) (hz:i.zero=some z)
  {ad:Option Addr} {sLen sCap n:Nat} {olds:List Value} (hs:qx w i.size sLen (.slice ad sLen sCap) olds) (Ko:olds.length=sLen*i.size) (h0:0<n) (kz:0<i.size)
  (hg:sCap<sLen+n) (h63:sLen+n≤9223372036854775807) (Xv:(sLen+n)*i.bytes≤140737488355328):
  ∃
   w' cap,(Builtin.append_ #[t,u] ty #[.slice ad sLen sCap,.int kv n]).run P w= .ok (.slice (some ⟨w.heap.size,0,none⟩) (sLen+n) cap) w'∧sLen+n≤cap∧
   w'.heap=w.heap.push (.cells (olds++(Builtin.zeroCells z.cells n).toList++(Builtin.zeroCells z.cells (cap-(sLen+n))).toList).toArray e (0,0))∧WF w w':=by
 have hn:¬(sLen+n≤sCap):=by omega
 have RO:¬(9223372036854775807<((sLen:Int)+(n:Int))):=by omega
 have RP:¬(281474976710656<Builtin.nextslicecap (sLen+n) sCap*i.bytes):=by have:=growslice_fits hg Xv;omega
 have akL:¬(281474976710656<(n:Int)*(i.bytes:Int)):=by
  rw[←Int.natCast_mul]
  have:n*i.bytes≤(sLen+n)*i.bytes:=Nat.mul_le_mul_right _ (by omega)
  omega
 have hw:IntKind.i64.wrap (n:Int)=n:=by rw[IntKind.wrap_i64];omega
 have akM:¬((n:Int)<0):=by omega
 have hns:¬(n*i.size=0):=Nat.mul_ne_zero (by omega) (by omega)
 have pz:qx w.drew i.size sLen (.slice ad sLen sCap) olds:=hs
 have hfo:=kD (P:=P) pz Ko
 refine⟨w.drew.alloc (.cells (olds++(Builtin.zeroCells z.cells n).toList++(Builtin.zeroCells z.cells (grownCap w (sLen+n) sCap e-(sLen+n))).toList).toArray e),grownCap w (sLen+n) sCap e,?_,grownCap_ge w _ _ _,rfl,⟨rfl,rfl,rfl⟩⟩
 simp[Builtin.append_,run_underlying ht,run_underlying hu,sizeOf,typeInfo,zeroValue,hi,hz,asInt,asIntOf,hw,hn,akM,hns,RO,RP,akL,Question.forced,hfo,newRow,grownCap]
 congr 2
 apply Array.ext'
 simp
theorem BH {t u e:TypeId} {ty:TypeId} {sz:Nat} (ht:P.underlying t=some (.slice e)) (iA:jz P e=some sz)
  {b o dLen dCap n:Nat} {y:Value} {news:List Value} {c:Array Value} {ce:TypeId} {ysz:Nat} (hy:qx w sz ysz y news) (hl:news.length=ysz*sz) (hn:n=min ysz dLen) (h1:∀v∈news,gq v=true)
  (hb:w.heap[b]? =some (.cells c ce (0,0))) (y8:o+n*sz≤c.size):
  ∃
   w',(Builtin.copy_ #[t,u] ty #[.slice (some ⟨b,o,none⟩) dLen dCap,y]).run P w= .ok (.int .i64 n) w'∧
   w'.heap=w.heap.setIfInBounds b (.cells (bL c.toList o (news.take (n*sz))).toArray ce (0,0))∧WF w w':=by
 have eu:(news.take (n*sz)).length=n*sz:=by
  rw[lJ,hl]
  exact Nat.min_eq_left (Nat.mul_le_mul_right _ (by omega))
 obtain⟨w',g1,g2,g3⟩:=kC (P:=P) (news.take (n*sz)) w b o 0 c ce hb (by omega) (λv hv=>h1 v (List.mem_of_mem_take hv))
 refine⟨w',?_,by simpa using g2,g3⟩
 have hlen:=qy (P:=P) hy
 have hf:(Builtin.firstCells sz n y).run P w= .ok (news.take (n*sz)).toArray w:=by
  rcases hy with⟨ad,rc,rfl,h⟩|⟨str,rfl,h2,rfl,rfl⟩
  ·by_cases h0:0<n
   ·obtain⟨b',o',h3,h4⟩:=h (by omega)
    subst h3
    simp only[Builtin.firstCells]
    have:=run_loadCells_list (P:=P) w ⟨b',o',none⟩ (news.take (n*sz)) (λj v hj=>by
     rw[jL,cell?_eq]
     rw[List.getElem?_take]at hj
     split at hj
     ·exact h4 j v hj
     ·simp at hj)
    rw[eu]at this
    exact this
   ·have:n=0:=by omega
    rw[this]
    cases ad<;>simp[Builtin.firstCells,loadCells,loadCellsFrom]
  ·simp only[Builtin.firstCells,Sem.run_pure]
   congr 1
   apply Array.ext'
   rw[Array.toList_map]
   simp[ByteArray.data_extract]
 have II:Nat.min ysz dLen=n:=hn.symm
 simp[Builtin.copy_,run_underlying ht,run_sizeOf iA,hlen,II,hf,g1,goInt]
end Go.Ab
namespace Go.Ab
variable [eo]
variable {P:Program} {nt:Nat} {ds:List Deferred} {s:St} {Γ:Cx} {a:Act} {w:World}
def St.put (s:St) (d:Option Nat) (p:PV):St:=
 match d with
 |some d=> {s with env:=Ab.put s.env d p}
 |none=>s
mutual
def wk:PV->PV
 | .sl sz l _=> .sl sz (jE l) false
 | .st w l=> .st w (jE l)
 | .ar z n l=> .ar z n (jE l)
 | .tup l=> .tup (jE l)
 |p=>p
def jE:List PV->List PV
 |[]=>[]
 |p::l=>wk p::jE l
end
def Us:br->PV->PV
 | .arr _ _,v=>wk v
 | .box _,v=>v
 | .map ..,v=>v
def u8 (b:UInt8):PV:= .int .u8 b.toNat
def gP (s:St) (d:Option Nat) (sz bytes:Nat) (p:PV) (ys:List PV) (K:St->Prop):Prop:=
 match d with
 |none=>False
 |
  some d=>match p with
  | .sl sz0 l true=>(get s.bx d=none∧(l=[]∨(sz0=sz∧ys≠[]))∧(l.length+ys.length)*bytes≤140737488355328∧l.length+ys.length≤9223372036854775807)∧
    K {env:=put s.env d (.rs d [] 0 (l.length+ys.length) (l.length+ys.length) sz .tip),bx:=put s.bx d (.arr sz (l++ys))}
  |
   .rs k [] 0 len aK cR .tip=>(match get s.bx k with
   |
    some (.arr sz'' l)=>(aK=l.length∧len=l.length∧cR=sz∧sz''=sz∧(l.length+ys.length)*bytes≤140737488355328∧l.length+ys.length≤9223372036854775807)∧
    K {env:=put s.env d (.rs k [] 0 (l.length+ys.length) (l.length+ys.length) sz .tip),bx:=put s.bx k (.arr sz (l++ys))}
   |_=>False)
  |
   .rs k [] 0 len aK cR (.full n)=>(match get s.bx k with
   |
    some (.arr sz'' l)=>(aK=l.length∧cR=sz∧sz''=sz∧len≤n∧n≤l.length∧ys≠[]∧get s.bx d=none∧(len+ys.length)*bytes≤140737488355328∧len+ys.length≤9223372036854775807)∧
    (len+ys.length≤n->K {env:=put s.env d (.rs k [] 0 (len+ys.length) aK sz (.full n)),bx:=put s.bx k (.arr sz (l.take len++ys++l.drop (len+ys.length)))})∧
    (n<len+ys.length->K {env:=put s.env d (.rs d [] 0 (len+ys.length) (len+ys.length) sz .tip),bx:=put s.bx d (.arr sz (l.take len++ys))})
   |_=>False)
  | .rs k p off len aK cR .clip=>content s (.rs k p off len aK cR .clip) λsz'' l=>(get s.bx d=none∧sz''=sz∧ys≠[]∧(l.length+ys.length)*bytes≤140737488355328∧l.length+ys.length≤9223372036854775807)∧
    K {env:=put s.env d (.rs d [] 0 (l.length+ys.length) (l.length+ys.length) sz .tip),bx:=put s.bx d (.arr sz (l++ys))}
  |_=>False
def oO (s:St) (d:Option Nat) (sz bytes:Nat) (z p:PV) (m:Int) (K:St->Prop):Prop:=
 match d with
 |none=>False
 |
  some d=>match p with
  |
   .rs k [] 0 len aK cR (.full n)=>(match get s.bx k with
   |
    some (.arr sz'' l)=>(get s.bx d=none∧aK=l.length∧cR=sz∧sz''=sz∧len≤n∧n≤l.length∧0<m∧n<len+m.toNat∧(len+m.toNat)*bytes≤140737488355328∧len+m.toNat≤9223372036854775807)∧
    K {env:=put s.env d (.rs d [] 0 (len+m.toNat) (len+m.toNat) sz .tip),bx:=put s.bx d (.arr sz (l.take len++List.replicate m.toNat z))}
   |_=>False)
  |_=>False
def src (s:St) (str:Bool) (sz:Nat) (q:PV) (K:List PV->Prop):Prop:=
 if str then(match q with| .str bs=>sz=1∧K (bs.map u8)|_=>False)
 else content s q λcR ys=>(ys=[]∨cR=sz)∧K ys
def kE (s:St) (d:Option Nat) (sz:Nat) (p:PV) (ys:List PV) (K:St->Prop):Prop:=
 match p with
 |
  .rs k pth off len aK cR _=>(match get s.bx k with
  |some (.arr sz'' l)=>(aK=l.length∧pth=[]∧cR=sz∧sz''=sz∧off+len≤l.length)∧
    K ({s with bx:=put s.bx k (.arr sz (l.take off++ys.take (min ys.length len)++l.drop (off+min ys.length len)))}.put d (.int .i64 (min ys.length len:Nat)))
  |
   some (.box v)=>(match aX v pth with
   |
    some (.ar sz'' n l)=>(match gN v pth (.ar sz'' n (l.take off++ys.take (min ys.length len)++l.drop (off+min ys.length len)))with
    |some v'=>(aK=0∧cR=sz∧sz''=sz∧off+len≤n)∧K ({s with bx:=put s.bx k (.box v')}.put d (.int .i64 (min ys.length len:Nat)))
    |none=>False)
   |_=>False)
  |_=>False)
 |_=>False
def KM (s:St) (d:Option Nat) (sz:Nat) (z p:PV) (K:St->Prop):Prop:=
 d=none∧match p with
 | .rs k pth off len aK cR c=>kE s none sz (.rs k pth off len aK cR c) (List.replicate len z) K
 |_=>False
def Ut (p:PV):List (PV×PV)->Option PV
 |[]=>none
 |(k,v)::r=>if PV.beq p k=true then some v else Ut p r
def aaT (p v:PV):List (PV×PV)->List (PV×PV)
 |[]=>[(p,v)]
 |(k,w)::r=>if PV.beq p k=true then(p,v)::r else(k,w)::aaT p v r
def ex (s:St) (d:Option Nat):AK->(St->Prop)->Prop
 |
  .alloc z,K=>(match d with
  |some k=>get s.bx k=none∧K {env:=put s.env k (.pt k [] 0),bx:=put s.bx k (.box z)}
  |none=>False)
 |
  .box x,K=>(match d with
  |some k=>vg true s x λp=>(get s.bx k=none∧p.bG=true)∧K {env:=put s.env k (.pt k [] 0),bx:=put s.bx k (.box p)}
  |none=>False)
 |
  .buildSlice own sz z n parts,K=>y5 true s parts λps=>(match dJ (List.replicate n z) (ps.map λx=>(x.1,wk x.2))with
  |some l=>if own=true then(match d with
    |some k=>get s.bx k=none∧K {env:=put s.env k (.rs k [] 0 n n sz .tip),bx:=put s.bx k (.arr sz l)}
    |none=>False)else K (s.put d (.sl sz l true))
  |none=>False)
 |
  .makeSlice sz bytes z len cap,K=>vg true s len λp=>ot p λl=>vg true s cap λq=>ot q λc=>
  (match d with
  |some k=>(get s.bx k=none∧0≤l∧l≤c∧c*bytes≤281474976710656∧c≤9223372036854775807)∧
    K {env:=put s.env k (.rs k [] 0 l.toNat l.toNat sz .tip),bx:=put s.bx k (.arr sz (List.replicate l.toNat z))}
  |none=>False)
 |
  .store n x y,K=>vg true s x λp=>vg true s y λv=>(match p with
  |
   .pt k pth aK=>(match get s.bx k with
   |
    some blk=>(match sc blk pth (Us blk v)with
    |some b8=>(aK=blk.aK∧v.width=n∧v.bG=true)∧K {s with bx:=put s.bx k b8}
    |none=>False)
   |none=>False)
  |_=>False)
 |
  .isNil ng x,K=>vg true s x λp=>(match p with
  | .sl _ l _=>∀b:Bool,(b=true->l=[])->K (s.put d (.bl (b !=ng)))
  | .rs k _ _ len aK _ _=>(match get s.bx k with|some blk=>aK=blk.aK∧∀b:Bool,(b=true->len=0)->K (s.put d (.bl (b !=ng)))|none=>False)
  |_=>False)
 | .append sz bytes str x y,K=>vg true s x λp=>vg true s y λq=>src s str sz q λys=>gP s d sz bytes p ys K
 | .appendZ sz bytes z x y,K=>vg true s x λp=>vg true s y λq=>ot q λm=>oO s d sz bytes z p m K
 |
  .copy sz x y,K=>vg true s x λp=>vg true s y λq=>(match q with
  | .str _=>src s true sz q λys=>kE s d sz p ys K
  |_=>src s false sz q λys=>kE s d sz p ys K)
 | .fill sz z x,K=>vg true s x λp=>KM s d sz z p K
 |
  .mkMap ks vs,K=>(match d with
  |some k=>get s.bx k=none∧∀b:Nat,K {env:=put s.env k (.mp k b),bx:=put s.bx k (.map b ks vs [])}
  |none=>False)
 |
  .mapGet ks vs z ok m x,K=>vg true s m λpm=>vg true s x λp=>(match pm with
  |
   .mp k b=>(match get s.bx k with
   |some (.map b' ks' vs' l)=>(b'=b∧ks'=ks∧vs'=vs∧fits ks p=true)∧K (s.put d (if ok=true then .tup [(Ut p l).getD z,.bl (Ut p l).isSome]else(Ut p l).getD z))
   |_=>False)
  |_=>False)
 |
  .mapSet ks vs m x y,K=>vg true s m λpm=>vg true s x λp=>vg true s y λv=>(match pm with
  |
   .mp k b=>(match get s.bx k with
   |some (.map b' ks' vs' l)=>(d=none∧b'=b∧ks'=ks∧vs'=vs∧fits ks p=true∧fits vs v=true)∧K {s with bx:=put s.bx k (.map b' ks' vs' (aaT p v l))}
   |_=>False)
  |_=>False)
 | .convB x,K=>vg true s x λp=>(match p with| .str bs=>K (s.put d (.sl 1 (bs.map u8) false))|_=>False)
 |
  .convL x,K=>vg true s x λp=>(match p with
  |
   .rs k pth off len aK sz c=>(match get s.bx k with
   |some (.arr cR l)=>(pth=[]∧off=0∧sz=1∧cR=1∧c= .tip∧len=l.length∧aK=l.length∧l≠[]∧l.all PV.isNum=true)∧
     K (St.put {s with bx:=put s.bx k (.arr 1 (l++[.int .u8 0]))} d (.sl 1 l false))
   |_=>False)
  |_=>False)
 |_,_=>False
def lK (P:Program) (nt:Nat) (ds:List Deferred) (o:Oper) (a:Act) (w:World) (Γ:Cx) (K:St->Prop):Prop:=
 ∃nx v w' s' Γ',(execOp a.eval o).run P w= .ok nx w'∧(nx= .value v∨nx= .skip∧v=undef)∧iz nt ds s' Γ' (a.put o.dst v)∧w'.heap=Γ'.heap∧Le Γ Γ'∧WF w w'∧K s'
theorem iz.put (hs:iz nt ds s Γ a) {d:Option Nat} (hd:∀k,d=some k->k<nt) {p:PV} {v:Value} (hr:aN Γ p v):iz nt ds (s.put d p) Γ (a.put d v):=by
 cases d with
 |none=>exact hs
 |
  some d=>
  refine⟨hs.bx,by simp[Act.put,hs.size],hs.defers,λk q hk=> ?_,hs.mem⟩
  simp only[St.put,iD]at hk
  have eu:=hd d rfl
  split at hk
  ·rename_i hdk
   simp only[sJ]at hk;subst hk hdk
   simp only[Act.put]
   have:(a.tmps.setIfInBounds d v).getD d undef=v:=by
    rw[Array.getD_eq_getD_getElem?,uJ (by rw[hs.size];exact eu)];rfl
   rw[this];exact hr
  ·rename_i dF
   have:=hs.env k q hk
   simp only[Act.put]
   rw[Array.getD_eq_getD_getElem?,Array.getElem?_setIfInBounds_ne dF,←Array.getD_eq_getD_getElem?]
   exact this
theorem iz.le (hs:iz nt ds s Γ a) {Γ':Cx} {vY:List (Nat×br)} (hle:Le Γ Γ') (hm:Mem Γ') (hb:Γ'.bx=vY):iz nt ds {s with bx:=vY} Γ' a:=
 ⟨hb,hs.size,hs.defers,λk p h=>(hs.env k p h).mono hle,hm⟩
theorem OH {k:Nat} {b:Nat} {v:PV} (hb:get Γ.bx k=some (.box v)) (hι:Γ.ι k=some b):aN Γ (.pt k [] 0) (.pointer (some ⟨b,0,none⟩)):=
 aN.KD hb rfl hι rfl
theorem D0 {o:Oper} {k:Nat} {p:PV} {cs:Array Value} {e:TypeId} {K:St->Prop} (hs:iz nt ds s Γ a) (hw:w.heap=Γ.heap) (hk:o.dst=some k) (eu:k<nt) (j6:get s.bx k=none)
  (hr:aD Γ [p] cs.toList) (ja:(execOp a.eval o).run P w= .ok (.value (.pointer (some ⟨w.heap.size,0,none⟩))) (w.alloc (.cells cs e))) (hK:K {env:=put s.env k (.pt k [] 0),bx:=put s.bx k (.box p)}):
  lK P nt ds o a w Γ K:=by
 rw[←hs.bx]at j6
 have hle:=zb Γ (.cells cs e) (k:=k) (.box p) j6
 have kp:Mem (Γ.ext (.cells cs e) k (.box p)):=Hs hs.mem j6 ⟨Γ.heap.size,cs,e,rfl,by simp[Cx.ext],hr.mono hle⟩
 have h1:=hs.le hle kp (vY:=put s.bx k (.box p)) (by simp[Cx.ext,hs.bx])
 have h2:aN (Γ.ext (.cells cs e) k (.box p)) (.pt k [] 0) (.pointer (some ⟨w.heap.size,0,none⟩)):=by
  rw[hw];exact OH (v:=p) (by simp[Cx.ext,cZ]) (by simp[Cx.ext])
 have h3:=h1.put (d:=some k) (λj hj=>by cases hj;exact eu) h2
 exact⟨_,_,_,_,_,ja,.inl rfl,by rw[hk];exact h3,by simp[World.alloc,Cx.ext,hw],hle,⟨rfl,rfl,rfl⟩,hK⟩
theorem oP {o:Oper} {k sz:Nat} {l:List PV} {cs rest:List Value} {e:TypeId} {cap:Nat} {w':World} {K:St->Prop} (hs:iz nt ds s Γ a) (hw:w.heap=Γ.heap) (hk:o.dst=some k) (eu:k<nt) (j6:get s.bx k=none) (iA:0<sz)
  (hr:aD Γ l cs) (mY:∀x∈l,x.width=sz) (uw:cap*sz=(cs++rest).length) (xq:l.length≤cap) (FT:∀v∈rest,gq v=true)
  (ja:(execOp a.eval o).run P w= .ok (.value (.slice (some ⟨w.heap.size,0,none⟩) l.length cap)) w') (sM:w'.heap=w.heap.push (.cells (cs++rest).toArray e (0,0))) (qq:WF w w')
  (hK:K {env:=put s.env k (.rs k [] 0 l.length l.length sz .tip),bx:=put s.bx k (.arr sz l)}):lK P nt ds o a w Γ K:=by
 rw[←hs.bx]at j6
 have hle:=zb Γ (.cells (cs++rest).toArray e (0,0)) (k:=k) (.arr sz l) j6
 have hh:(Γ.ext (.cells (cs++rest).toArray e (0,0)) k (.arr sz l)).heap[Γ.heap.size]? =some (.cells (cs++rest).toArray e (0,0)):=by simp[Cx.ext]
 have kp:Mem (Γ.ext (.cells (cs++rest).toArray e (0,0)) k (.arr sz l)):=Hs hs.mem j6 ⟨mY,iA,_,e,cs,rest,hh,rfl,hr.mono hle,FT⟩
 have h1:=hs.le hle kp (vY:=put s.bx k (.arr sz l)) (by simp[Cx.ext,hs.bx])
 have h2:aN (Γ.ext (.cells (cs++rest).toArray e (0,0)) k (.arr sz l)) (.rs k [] 0 l.length l.length sz .tip) (.slice (some ⟨w.heap.size,0,none⟩) l.length cap):=by
  rw[hw]
  simp only[aN]
  refine .rs k [] 0 _ _ sz _ _ (.arr sz l) ⟨by simp[Cx.ext,cZ],by simp[br.aK]⟩ rfl (λ_=>⟨_,_,rfl,?_⟩) .nil
  unfold jo
  have:(Γ.ext (.cells (cs++rest).toArray e (0,0)) k (.arr sz l)).ι k=some Γ.heap.size:=by simp[Cx.ext]
  rw[this]
  exact⟨xq,.inr (by simp[cG]),trivial,λ_=>⟨rfl,_,e,hh,by simpa using uw⟩⟩
 have h3:=h1.put (d:=some k) (λj hj=>by cases hj;exact eu) h2
 exact⟨_,_,_,_,_,ja,.inl rfl,by rw[hk];exact h3,by rw[sM,hw];rfl,hle,qq,hK⟩
theorem I2 {o:Oper} {k sz:Nat} {ad:Option Addr} {K:St->Prop} (hs:iz nt ds s Γ a) (hw:w.heap=Γ.heap) (hk:o.dst=some k) (eu:k<nt) (j6:get s.bx k=none) (iA:0<sz)
  (ja:(execOp a.eval o).run P w= .ok (.value (.slice ad 0 0)) w)
  (hK:K {env:=put s.env k (.rs k [] 0 0 0 sz .tip),bx:=put s.bx k (.arr sz [])}):lK P nt ds o a w Γ K:=by
 rw[←hs.bx]at j6
 have hle:=sP Γ (k:=k) (.arr sz []) j6
 have kp:Mem (Γ.mu k (.arr sz [])):=zc hs.mem j6 ⟨by simp,iA,trivial⟩
 have h1:=hs.le hle kp (vY:=put s.bx k (.arr sz [])) (by simp[Cx.mu,hs.bx])
 have h2:aN (Γ.mu k (.arr sz [])) (.rs k [] 0 0 0 sz .tip) (.slice ad 0 0):=by
  simp only[aN]
  refine .rs k [] 0 _ _ sz _ _ (.arr sz []) ⟨by simp[Cx.mu,cZ],by simp[br.aK]⟩ rfl (λ_=>⟨_,_,rfl,?_⟩) .nil
  unfold jo
  have:(Γ.mu k (.arr sz [])).ι k=none:=by simp[Cx.mu]
  rw[this];exact⟨rfl,rfl,trivial⟩
 have h3:=h1.put (d:=some k) (λj hj=>by cases hj;exact eu) h2
 exact⟨_,_,_,_,Γ.mu k (.arr sz []),ja,.inl rfl,by rw[hk];exact h3,hw,hle,WF.refl w,hK⟩
theorem q5 {o:Oper} {p:PV} {v:Value} {w':World} {Γ':Cx} {K:St->Prop} (hs:iz nt ds s Γ a) (hd:∀k,o.dst=some k->k<nt) (hle:Le Γ Γ') (hm:Mem Γ') (hb:Γ'.bx=Γ.bx)
  (ja:(execOp a.eval o).run P w= .ok (.value v) w') (hh:w'.heap=Γ'.heap) (qq:WF w w') (hr:aN Γ' p v) (hK:K (s.put o.dst p)):lK P nt ds o a w Γ K:=by
 have h1:=hs.le hle hm (vY:=s.bx) (by rw[hb,hs.bx])
 exact⟨_,v,w',_,_,ja,.inl rfl,h1.put hd hr,hh,hle,qq,hK⟩
theorem KN (p:PV):(wk p).width=p.width:=by cases p<;>simp[wk,PV.width]
theorem tN (l:List PV):(jE l).length=l.length:=by induction l<;>simp[jE, *]
theorem zd (l:List PV):jE l=l.map wk:=by induction l<;>simp[jE, *]
theorem OI {l:List PV} {q:PV} (h:q∈jE l):∃p∈l,q=wk p:=by
 rw[zd]at h;obtain⟨p,hp,e⟩:=List.mem_map.1 h;exact⟨p,hp,e.symm⟩
theorem BI {l:List PV} {sz:Nat} (h:∀x∈l,x.width=sz):∀x∈jE l,x.width=sz:=by
 intro x hx;obtain⟨p,hp,rfl⟩:=OI hx;rw[KN];exact h p hp
theorem aD.jE {l:List PV} {cs:List Value} (h:aD Γ l cs):aD Γ (jE l) cs:=by
 induction h with
 |nil=>exact .nil
 |un h hr ih=>simp only[Ab.jE,Ab.wk];exact .un h ih
 |bl x hr ih=>simp only[Ab.jE,Ab.wk];exact .bl x ih
 |int k n hr ih=>simp only[Ab.jE,Ab.wk];exact .int k n ih
 |str l s h hr ih=>simp only[Ab.jE,Ab.wk];exact .str l s h ih
 |st w l hl hw hr ihl ih=>simp only[Ab.jE,Ab.wk];exact .st w _ ihl hw ih
 |ar sz n l hl hn hs hr ihl ih=>simp only[Ab.jE,Ab.wk];exact .ar sz n _ ihl (by rw[tN];exact hn) (BI hs) ih
 |
  sl sz l clip a bt hl hw hc hk hb hr ihl ih=>
  simp only[Ab.jE,Ab.wk]
  have:=aD.sl sz (Ab.jE l) false a bt ihl (BI hw) (by rw[tN];exact hc) (by simp) (λdF=>hb (λhe=>dF (by rw[he];rfl))) ih
  rwa [tN]at this
 |rs k p off len aK sz c v blk hg h1 hv hr ih=>simp only[Ab.jE,Ab.wk];exact .rs k p off len aK sz c v blk hg h1 hv ih
 |np hr ih=>simp only[Ab.jE,Ab.wk];exact .np ih
 |pt k p aK v blk hg h1 hv hr ih=>simp only[Ab.jE,Ab.wk];exact .pt k p aK v blk hg h1 hv ih
 |fp sz l p b o hl hw hm hc hr ihl ih=>simp only[Ab.jE,Ab.wk];exact .fp sz l p b o hl hw hm hc ih
 |fn f first cap h1 h2 h3 h4 hr i1 i2 ih=>simp only[Ab.jE,Ab.wk];exact .fn f first cap h1 h2 h3 h4 ih
 |nf hr ih=>simp only[Ab.jE,Ab.wk];exact .nf ih
 |ifc t v h1 h2 hr i1 ih=>simp only[Ab.jE,Ab.wk];exact .ifc t v h1 h2 ih
 |ni hr ih=>simp only[Ab.jE,Ab.wk];exact .ni ih
 |mp k b hr ih=>simp only[Ab.jE,Ab.wk];exact .mp k b ih
theorem aD.wk {p:PV} {cs:List Value} (h:aD Γ [p] cs):aD Γ [wk p] cs:=by
 have:=h.jE;simpa[Ab.jE]using this
theorem kr.wk {p:PV} {v:Value} (h:kr Γ p v):kr Γ (wk p) v:=by
 cases p
 case st w l=>obtain⟨cs,h1,h2⟩:=h;simp only[Ab.wk];exact⟨cs,h1,by simpa[Ab.wk]using aD.wk h2⟩
 case ar z n l=>obtain⟨cs,h1,h2⟩:=h;simp only[Ab.wk];exact⟨cs,h1,by simpa[Ab.wk]using aD.wk h2⟩
 case sl z l c=>have:=aD.wk (show aD Γ [.sl z l c] [v] from h);simp only[Ab.wk]at this⊢;exact this
 case tup l=>have:=aD.wk (show aD Γ [.tup l] [v] from h);cases h
 all_goals (simp only[Ab.wk];exact h)
theorem kS.jE:∀ {l:List PV} {vs:List Value},kS Γ l vs->kS Γ (Ab.jE l) vs
 |[],[],_=>trivial
 |[],_::_,h=>by simp[kS]at h
 |_::_,[],h=>by simp[kS]at h
 |p::l,v::vs,h=>by simp only[kS,Ab.jE]at h⊢;exact⟨h.1.wk,kS.jE h.2⟩
theorem aN.wk {p:PV} {v:Value} (h:aN Γ p v):aN Γ (wk p) v:=by
 cases p
 case st w l=>obtain⟨cs,h1,h2⟩:=h;simp only[Ab.wk];exact⟨cs,h1,by simpa[Ab.wk]using aD.wk h2⟩
 case ar z n l=>obtain⟨cs,h1,h2⟩:=h;simp only[Ab.wk];exact⟨cs,h1,by simpa[Ab.wk]using aD.wk h2⟩
 case sl z l c=>simp only[aN,Ab.wk]at h⊢;simpa[Ab.wk]using aD.wk h
 case tup l=>simp only[aN,Ab.wk]at h⊢;obtain⟨vs,e,h⟩:=h;exact⟨vs,e,h.jE⟩
 all_goals (simp only[Ab.wk];exact h)
theorem I3 {o:Oper} {t:TypeId} {z:PV} {K:St->Prop} (ho:o.op= .alloc t) (hz:zeroOf P t=some z) (hs:iz nt ds s Γ a) (hw:w.heap=Γ.heap) (hd:∀k,o.dst=some k->k<nt) (he:ex s o.dst (.alloc z) K):
  lK P nt ds o a w Γ K:=by
 simp only[ex]at he
 split at he
 ·rename_i k hk
  obtain⟨v,hv,hr,_,_,_⟩:=lX (Γ:=Γ) hz
  refine D0 (cs:=v.cells) (e:=t) hs hw hk (hd k hk) he.1 hr ?_ he.2
  simp only[execOp,ho,Instr.alloc,bJ,hv,rJ,newVar,newRow]
  rfl
 ·exact he.elim
theorem OJ {o:Oper} {t:TypeId} {x:Operand} {y:AX} {K:St->Prop} (ho:o.op= .box t x) (hx:jG x=some y) (hs:iz nt ds s Γ a) (hw:w.heap=Γ.heap) (hd:∀k,o.dst=some k->k<nt) (he:ex s o.dst (.box y) K):
  lK P nt ds o a w Γ K:=by
 simp only[ex]at he
 split at he
 ·rename_i k hk
  obtain⟨p,⟨⟨h1,h2⟩,h3⟩,hr⟩:=cy hx hs rfl he
  refine D0 (cs:=(a.eval x).cells) (e:=t) hs hw hk (hd k hk) h1 (hr.y6 h2) ?_ h3
  simp only[execOp,ho,Instr.box,bJ,newVar,newRow]
  rfl
 ·exact he.elim
theorem jM {z:PV} {cs:List Value} (h:aD Γ [z] cs):∀n,aD Γ (List.replicate n z) (List.replicate n cs).flatten
 |0=> .nil
 |n+1=>by rw[List.replicate_succ,List.replicate_succ,List.flatten_cons];exact h.cons (jM h n)
theorem lV (z:Array Value) (n:Nat):((Array.range (n*z.size)).map (z[·%z.size]!)).toList=(List.replicate n z.toList).flatten:=by
 induction n with
 |zero=>simp
 |
  succ n ih=>
  have e:(n+1)*z.size=n*z.size+z.size:=by rw[Nat.add_mul];omega
  rw[List.replicate_succ',List.flatten_append,←ih,e]
  simp only[Array.toList_map,Array.toList_range,List.range_add,List.map_append,List.map_map,List.flatten_cons,List.flatten_nil,List.append_nil]
  congr 1
  apply List.ext_getElem?
  intro i
  by_cases hi:i<z.size
  ·simp[hi,Nat.mod_eq_of_lt hi,Nat.add_mod,Nat.mul_mod_left]
  ·simp[hi]
end Go.Ab
namespace Go.Ab
variable [eo]
variable {P:Program} {nt:Nat} {ds:List Deferred} {s:St} {Γ:Cx} {a:Act} {w:World}
theorem ze {o:Oper} {t e:TypeId} {n sz:Nat} {parts:Array (Nat×Operand)} {ps:List (Nat×AX)} {z:PV} {own:Bool} {K:St->Prop} (ho:o.op= .buildSlice t n parts) (hu:P.underlying t=some (.slice e))
  (hp:qX parts.toList=some ps) (hz:zeroOf P e=some z) (iA:jz P e=some sz) (kz:0<sz) (Ka:n*sz≤2^24)
  (hs:iz nt ds s Γ a) (hw:w.heap=Γ.heap) (hd:∀k,o.dst=some k->k<nt) (he:ex s o.dst (.buildSlice own sz z n ps) K):lK P nt ds o a w Γ K:=by
 simp only[ex]at he
 obtain⟨qs,hq,hlen,eO⟩:=yz hs rfl hp he
 obtain⟨zv,Oo,T8,AV,_,T9⟩:=lX (Γ:=Γ) hz
 have RQ:z.width=sz:=by rw[iA]at AV;exact(Option.some.inj AV).symm
 split at hq
 ·rename_i l hl
  have hzc:zv.cells.size=sz:=by rw[T9,RQ]
  have aeU:aD Γ (List.replicate n z) ((Array.range (n*sz)).map (zv.cells[·%zv.cells.size]!)).toList:=by
   have:=lV zv.cells n
   rw[hzc]at this⊢
   rw[this]
   exact jM T8 n
  have hwr:∀x∈List.replicate n z,x.width=sz:=by intro x hx;rw[(List.mem_replicate.1 hx).2];exact RQ
  obtain⟨cells,h1,h2⟩:=uO (Γ:=Γ) (qs.map λx=>(x.1,wk x.2)) (parts.toList.map λp=>(p.1,a.eval p.2)) (λi=>some (i*sz,sz)) (List.replicate n z) l _ aeU hl (by simp[hlen])
   (λi j p k u h3 h4=>by
    rw[List.getElem?_map,mJ]at h3 h4
    obtain⟨⟨k',x⟩,h5,h6⟩:=h4
    obtain⟨⟨j',q⟩,h7,h8⟩:=h3
    simp only[Prod.mk.injEq]at h6 h8
    obtain⟨rfl,rfl⟩:=h6
    obtain⟨rfl,rfl⟩:=h8
    have:=eO i j' q k' x h7 h5
    exact⟨this.1,this.2.wk⟩)
   (λi q hi=>by
    have FR:=(List.getElem?_eq_some_iff.1 hi).1
    rw[iH hwr (by omega),hwr q (List.mem_of_getElem? hi)])
  have RR:l.length=n:=by rw[wh.setParts_length hl];simp
  have hlw:=wh.setParts_width hl hwr
  have AS:cells.toList.length=n*sz:=by rw[h2.length,bF hlw,RR]
  have eu:¬n*sz>2^24:=by omega
  have IJ:Instr.fill (λi=>some (i*sz,sz)) ((Array.range (n*sz)).map ((if n*sz=0 then #[]else zv.cells)[·%(if n*sz=0 then #[]else zv.cells).size]!)) (parts.map λp=>(p.1,a.eval p.2)).toList=some cells:=by
   have e1:(parts.map λp=>(p.1,a.eval p.2)).toList=parts.toList.map λp=>(p.1,a.eval p.2):=by simp
   rw[e1]
   by_cases h0:n*sz=0
   ·rw[if_pos h0]
    rw[h0]at h1⊢
    have em:∀f:Nat->Value,Array.map f (Array.range 0)= #[]:=λf=>by apply Array.ext';simp
    rw[em]at h1⊢
    exact h1
   ·rw[if_neg h0];exact h1
  have hb:(Instr.buildSlice t n (parts.map λp=>(p.1,a.eval p.2))).run P w= .ok (.slice (some ⟨w.heap.size,0,none⟩) n n) (w.alloc (.cells cells e)):=by
   simp only[Instr.buildSlice,bJ,run_underlying hu,rJ,run_sizeOf iA]
   rw[if_neg eu]
   by_cases h0:n*sz=0
   ·rw[if_pos h0]
    rw[if_pos h0]at IJ
    simp only[bJ,Sem.run_pure,rJ]
    rw[IJ]
    rfl
   ·rw[if_neg h0]
    rw[if_neg h0]at IJ
    simp only[bJ,Oo,Sem.run_pure,rJ]
    rw[IJ]
    rfl
  have ja:(execOp a.eval o).run P w= .ok (.value (.slice (some ⟨w.heap.size,0,none⟩) n n)) (w.alloc (.cells cells e)):=by
   have e2:execOp a.eval o=(do Pure.pure (Next.value (←Instr.buildSlice t n (parts.map λp=>(p.1,a.eval p.2))))):=by unfold execOp;rw[ho]
   rw[e2,bJ,hb];rfl
  split at hq
  ·rename_i RL
   split at hq
   ·rename_i k hk
    refine oP (P:=P) (cs:=cells.toList) (rest:=[]) (e:=e) (cap:=n) (w':=w.alloc (.cells cells e)) hs hw hk (hd k hk) hq.1 kz h2 hlw (by rw[List.append_nil];exact AS.symm) (by omega) (by simp) (by rw[RR];exact ja) (by rw[List.append_nil];rfl) ⟨rfl,rfl,rfl⟩ (by rw[RR];exact hq.2)
   ·exact hq.elim
  ·refine q5 hs hd (qZ Γ (.cells cells e)) (mem_push hs.mem _) rfl ja (by show w.heap.push _=Γ.heap.push _;rw[hw]) ⟨rfl,rfl,rfl⟩ ?_ hq
   simp only[aN]
   have:=aD.sl (Γ:=Γ.push (.cells cells e)) sz l true (some ⟨w.heap.size,0,none⟩) n (h2.mono (qZ Γ _)) hlw (by omega) (λ_=>RR.symm) (λ_=>⟨w.heap.size,0,rfl,by simp[Cx.push,hw],by
    rw[hw]
    have:=hs.mem.xz
    exact this,λi c hc=>by
     have hi:=(List.getElem?_eq_some_iff.1 hc).1
     simp only[cell,Cx.push,hw,Nat.zero_add,Array.getElem?_push_size]
     rw[←Array.getElem?_toList];exact hc⟩) .nil
   rw[RR]at this
   exact this
 ·exact hq.elim
theorem Bh {o:Oper} {t e:TypeId} {i:TypeInfo} {ln cp:Operand} {ln' cp':AX} {z:PV} {K:St->Prop} (ho:o.op= .makeSlice t ln cp) (hu:P.underlying t=some (.slice e)) (hl:jG ln=some ln') (hc:jG cp=some cp')
  (hz:zeroOf P e=some z) (hi:P.info? e=some i) (kz:0<i.size)
  (hs:iz nt ds s Γ a) (hw:w.heap=Γ.heap) (hd:∀k,o.dst=some k->k<nt) (he:ex s o.dst (.makeSlice i.size i.bytes z ln' cp') K):lK P nt ds o a w Γ K:=by
 simp only[ex]at he
 obtain⟨p,hp,tt⟩:=cy hl hs rfl he
 obtain⟨k1,l,v7,hp⟩:=gO hp tt
 obtain⟨q,hq,pG⟩:=cy hc hs rfl hp
 obtain⟨k2,c,mD,hK⟩:=gO hq pG
 obtain⟨zv,Oo,T8,AV,_,T9⟩:=lX (Γ:=Γ) hz
 have RQ:z.width=i.size:=by rw[wm hi]at AV;exact(Option.some.inj AV).symm
 have hzc:zv.cells.size=i.size:=by rw[T9,RQ]
 split at hK
 ·rename_i k hk
  obtain⟨⟨h1,h2,h3,h4,h5⟩,hK⟩:=hK
  have Kq:IntKind.i64.wrap l=l:=by
   have e1:(2:Int)^IntKind.i64.bits=18446744073709551616:=by decide
   have e2:(2:Int)^(IntKind.i64.bits-1)=9223372036854775808:=by decide
   simp only[IntKind.wrap,e1,e2]
   have:l%18446744073709551616=l:=Int.emod_eq_of_lt h2 (by omega)
   rw[this]
   rw[if_neg (by simp;intro _;omega)]
  have hwc:IntKind.i64.wrap c=c:=by
   have e1:(2:Int)^IntKind.i64.bits=18446744073709551616:=by decide
   have e2:(2:Int)^(IntKind.i64.bits-1)=9223372036854775808:=by decide
   simp only[IntKind.wrap,e1,e2]
   have:c%18446744073709551616=c:=Int.emod_eq_of_lt (by omega) (by omega)
   rw[this]
   rw[if_neg (by simp;intro _;omega)]
  have mZ:((Array.range (c.toNat*i.size)).map (zv.cells[·%zv.cells.size]!)).toList=(List.replicate c.toNat zv.cells.toList).flatten:=by
   have:=lV zv.cells c.toNat
   rw[hzc]at this⊢
   exact this
  have DE:(List.replicate c.toNat zv.cells.toList).flatten=(List.replicate l.toNat zv.cells.toList).flatten++(List.replicate (c.toNat-l.toNat) zv.cells.toList).flatten:=by
   rw[←List.flatten_append,List.replicate_append_replicate,show l.toNat+(c.toNat-l.toNat)=c.toNat by omega]
  refine oP (P:=P) (l:=List.replicate l.toNat z) (cs:=(List.replicate l.toNat zv.cells.toList).flatten) (rest:=(List.replicate (c.toNat-l.toNat) zv.cells.toList).flatten) (e:=e) (cap:=c.toNat) (w':=w.alloc (.cells ((Array.range (c.toNat*i.size)).map (zv.cells[·%zv.cells.size]!)) e)) hs hw hk (hd k hk) h1 kz (jM T8 _)
   (by intro x hx;rw[(List.mem_replicate.1 hx).2];exact RQ) ?_ (by simp;omega) (jM T8 _).one ?_ ?_ ⟨rfl,rfl,rfl⟩ (by simpa using hK)
  ·rw[←DE,←mZ];simp
  ·simp only[List.length_replicate]
   have hb:¬((i.bytes:Int)*c>2^48):=by
    have:(2:Int)^48=281474976710656:=by decide
    rw[this,Int.mul_comm];omega
   have hm:(Instr.makeSlice t (a.eval ln) (a.eval cp)).run P w= .ok (.slice (some ⟨w.heap.size,0,none⟩) l.toNat c.toNat) (w.alloc (.cells ((Array.range (c.toNat*i.size)).map (zv.cells[·%zv.cells.size]!)) e)):=by
    have AU:((decide (c<0)||decide ((i.bytes:Int)*c>2^48))||decide (l<0)||decide (l>c))=false:=by
     have e1:decide (c<0)=false:=decide_eq_false (by omega)
     have e2:decide ((i.bytes:Int)*c>2^48)=false:=decide_eq_false hb
     have e3:decide (l<0)=false:=decide_eq_false (by omega)
     have e4:decide (l>c)=false:=decide_eq_false (by omega)
     rw[e1,e2,e3,e4];rfl
    have iA:=wm hi
    have Oq:(typeInfo e).run P w= .ok i w:=by simp[typeInfo,hi]
    simp only[Instr.makeSlice,bJ,run_underlying hu,rJ,v7,mD,asInt,asIntOf,Sem.run_pure,Oq,Kq,hwc]
    rw[if_neg (by rw[AU];simp)]
    simp only[bJ,run_askRoom,rJ,run_sizeOf iA]
    by_cases h0:c.toNat*i.size=0
    ·rw[if_pos h0]
     have em:∀f:Nat->Value,Array.map f (Array.range (c.toNat*i.size))= #[]:=by intro f;rw[h0];apply Array.ext';simp
     simp only[bJ,Sem.run_pure,rJ,em]
     rfl
    ·rw[if_neg h0]
     simp only[bJ,Oo,rJ,Sem.run_pure]
     rfl
   have e2:execOp a.eval o=(do Pure.pure (Next.value (←Instr.makeSlice t (a.eval ln) (a.eval cp)))):=by unfold execOp;rw[ho]
   rw[e2,bJ,hm];rfl
  ·rw[←DE,←mZ];rfl
 ·exact hK.elim
theorem KO (l:List UInt8):aD Γ (l.map u8) (l.map λb=>Value.int .u8 b.toNat):=by
 induction l with
 |nil=>exact .nil
 |cons b l ih=>exact .int .u8 _ ih
theorem I4 {o:Oper} {t d e:TypeId} {x:Operand} {x':AX} {K:St->Prop} (ho:o.op= .convert t d x) (h1:P.underlying t=some .string) (h2:P.underlying d=some (.slice e)) (h3:P.underlying e=some (.int .u8))
  (hx:jG x=some x') (hs:iz nt ds s Γ a) (hw:w.heap=Γ.heap) (hd:∀k,o.dst=some k->k<nt) (he:ex s o.dst (.convB x') K):lK P nt ds o a w Γ K:=by
 simp only[ex]at he
 obtain⟨p,hp,hr⟩:=cy hx hs rfl he
 cases p<;>simp only at hp<;>first|exact hp.elim|skip
 rename_i l
 simp only[aN]at hr
 obtain⟨bs,hv,hl⟩:∃bs:ByteArray,a.eval x= .string bs∧bs.data.toList=l:=by
  generalize a.eval x=v at hr
  cases hr with
  |str l s h _=>exact⟨s,rfl,h⟩
 subst hl
 have Ua:=run_bytes_of_string (P:=P) w t d e bs h1 h2 h3
 generalize hC:bytesRow bs (grownCap w bs.size 0 e)=C at Ua
 have ja:(execOp a.eval o).run P w= .ok (.value (.slice (some ⟨w.heap.size,0,none⟩) bs.size (grownCap w bs.size 0 e))) (w.drew.alloc (.cells C e (C.size,C.size+1))):=by
  have e2:execOp a.eval o=(do Pure.pure (Next.value (←convert t d (a.eval x)))):=by unfold execOp;rw[ho]
  rw[e2,bJ,hv,Ua];rfl
 refine q5 hs hd (qZ Γ (.cells C e (C.size,C.size+1))) (mem_push hs.mem _) rfl ja (by show w.heap.push _=Γ.heap.push _;rw[hw]) ⟨rfl,rfl,rfl⟩ ?_ hp
 simp only[aN]
 have iA:(bs.data.toList.map u8).length=bs.size:=by rw[List.length_map,Array.length_toList];rfl
 have:=aD.sl (Γ:=Γ.push (.cells C e (C.size,C.size+1))) 1 (bs.data.toList.map u8) false (some ⟨w.heap.size,0,none⟩) (grownCap w bs.size 0 e) (KO _) (by
   intro x hx
   obtain⟨b,_,rfl⟩:=List.mem_map.1 hx
   rfl) (by rw[iA];have:=grownCap_ge w bs.size 0 e;omega) (by simp) (λ_=>⟨w.heap.size,0,rfl,by simp[Cx.push,hw],by
    rw[hw]
    exact hs.mem.xz,λi c hc=>by
     simp only[cell,Cx.push,hw,Nat.zero_add,Array.getElem?_push_size]
     rw[←hC]
     simp only[bytesRow]
     have hi:=(List.getElem?_eq_some_iff.1 hc).1
     rw[Array.getElem?_append_left (by simpa using hi)]
     rw[←hc]
     simp⟩) .nil
 rw[iA]at this
 exact this
end Go.Ab
namespace Go.Ab
variable [eo]
variable {P:Program} {nt:Nat} {ds:List Deferred} {s:St} {Γ:Cx} {a:Act} {w:World}
theorem si (hm:Mem Γ) {k b:Nat} {blk b8:br} {pth:List Step} {x:PV} {us:List Value} (hg:get Γ.bx k=some blk) (hb:Γ.ι k=some b) (hx:aD Γ [x] us) (my:sc blk pth x=some b8):
  ∃
   c e,Γ.heap[b]? =some (.cells c e (0,0))∧cG pth+us.length≤c.size∧b8.aK=blk.aK∧
   ∀c',c'.toList=bL c.toList (cG pth) us->b8.xv (Γ.jD b (.cells c' e (0,0)) k b8) (some b):=by
 have h:=hm.blk k blk hg
 cases blk with
 |
  box v=>
  obtain⟨b',c,e,h1,h2,h3⟩:=h
  rw[hb]at h1;cases h1
  simp only[sc]at my
  split at my
  ·rename_i v' hv'
   simp only[sJ]at my;subst my
   obtain⟨g1,g2,g3⟩:=y0 hx pth h3 hv'
   refine⟨c,e,h2,by simpa using g1,rfl,λc' G7=> ?_⟩
   have iA:c'.size=c.size:=by rw[←Array.length_toList,G7,fQ g1,Array.length_toList]
   refine⟨b,c',e,rfl,by simp only[Cx.jD];rw[uJ (cH h2)],?_⟩
   rw[G7]
   exact g3.mono (mH (b8:= .box v') hg hb h2 iA (Nat.le_refl _))
  ·simp at my
 |
  arr sz l=>
  obtain⟨h1,h2,h3⟩:=h
  rw[hb]at h3
  obtain⟨c,e,cs,rest,h4,h5,h6,FT⟩:=h3
  cases pth with
  |nil=>simp[sc]at my
  |cons st r=>
  cases st with
  |f=>simp[sc]at my
  |
   i j sz''=>
   simp only[sc]at my
   split at my
   ·rename_i hs;subst hs
    split at my
    ·rename_i cj hc
     split at my
     ·rename_i c2 xr
      simp only[sJ]at my;subst my
      have r3:=h6.at hc
      obtain⟨g4,g5,g6⟩:=y0 hx r r3 xr
      have g7:=r3.iR
      have:=yZ h6 hc (by omega) g5 g6
      have hj:=(List.getElem?_eq_some_iff.1 hc).1
      rw[iH h1 (by omega)]at this
      have hle:cG (Step.i j sz''::r)+us.length≤cs.length:=by simp only[cG];exact this.1
      have Nx:c.size=cs.length+rest.length:=by rw[←Array.length_toList,h5];simp
      refine⟨c,e,h4,by omega,by simp[br.aK],λc' G7=> ?_⟩
      have iA:c'.size=c.size:=by rw[←Array.length_toList,G7,fQ (by simp;omega),Array.length_toList]
      have Ny:=mH (Γ:=Γ) (b8:= .arr sz'' (l.set j c2)) hg hb h4 iA (by simp[br.aK])
      refine⟨qd h1 (by rw[g5];exact h1 cj (List.mem_of_getElem? hc)),h2,c',e,bL cs (cG (Step.i j sz''::r)) us,rest,by simp only[Cx.jD];rw[uJ (cH h4)],?_,?_,FT⟩
      ·rw[G7,h5];exact splice_append hle
      ·exact(by simpa only[cG]using this.2:aD Γ _ _).mono Ny
     ·simp at my
    ·simp at my
   ·simp at my
  |w o n s=>simp[sc]at my
 |map b0 ks vs l=>simp[sc]at my
where
 splice_append {cs rest us:List Value} {o:Nat} (h:o+us.length≤cs.length):bL (cs++rest) o us=bL cs o us++rest:=by
  simp only[bL]
  rw[List.take_append_of_le_length (by omega),List.drop_append_of_le_length (by omega)]
  simp
theorem I5 {o:Oper} {t:TypeId} {n:Nat} {x y:Operand} {x' y':AX} {K:St->Prop} (ho:o.op= .store t x y) (hn:jz P t=some n) (hx:jG x=some x') (hy:jG y=some y')
  (hs:iz nt ds s Γ a) (hw:w.heap=Γ.heap) (hd:o.dst=none) (he:ex s o.dst (.store n x' y') K):lK P nt ds o a w Γ K:=by
 simp only[ex]at he
 obtain⟨p,hp,tt⟩:=cy hx hs rfl he
 obtain⟨v,hv,pG⟩:=cy hy hs rfl hp
 split at hv
 ·rename_i k pth aK
  split at hv
  ·rename_i blk hg
   split at hv
   ·rename_i b8 my
    obtain⟨⟨h1,h2,h3⟩,hK⟩:=hv
    rw[←hs.bx]at hg
    obtain⟨b,hι,hpv⟩:=tt.pt hg h1
    have mZ:=pG.y6 h3
    have RS:aD Γ [Us blk v] (a.eval y).cells.toList:=by
     cases blk
     ·exact mZ
     ·exact mZ.wk
     ·exact mZ
    obtain⟨c,e,g1,g2,g3,g4⟩:=si hs.mem hg hι RS my
    have hvs:(a.eval y).cells.size=n:=by rw[←h2,←mZ.iR];simp
    obtain⟨w',r1,r2,r3⟩:=CI (P:=P) (w:=w) (t:=t) (b:=b) (o:=cG pth) (c:=c) (e:=e) (v:=a.eval y) (by rw[hw];exact g1) hn hvs (by have:=g2;simp at this;omega) (λz hz=>mZ.one z hz)
    have iA:(bL c.toList (cG pth) (a.eval y).cells.toList).toArray.size=c.size:=by simp[fQ (show cG pth+(a.eval y).cells.toList.length≤c.toList.length by simpa using g2)]
    have hle:=mH (Γ:=Γ) (b8:=b8) hg hι g1 iA (by omega)
    have kp:=ou (Γ:=Γ) (b8:=b8) hs.mem hg hι g1 iA (by omega) (g4 _ (by simp))
    have h1:=hs.le hle kp (vY:=put s.bx k b8) (by simp[Cx.jD,hs.bx])
    refine⟨.skip,undef,w',_,_,?_,.inr ⟨rfl,rfl⟩,by rw[hd];exact h1,by rw[r2,hw];rfl,hle,r3,hK⟩
    have e2:execOp a.eval o=(do Instr.storeAt t (a.eval x) (a.eval y);Pure.pure Next.skip):=by unfold execOp;rw[ho]
    rw[e2,bJ]
    simp only[Instr.storeAt,hpv,Instr.sureAddr,bJ,Sem.run_pure,rJ,r1]
   ·exact hv.elim
  ·exact hv.elim
 ·exact hv.elim
theorem CJ {str:Bool} {sz:Nat} {q:PV} {v:Value} {K:List PV->Prop} (hs:iz nt ds s Γ a) (hw:w.heap=Γ.heap) (h:src s str sz q K) (hr:aN Γ q v):
  ∃ys news,K ys∧qx w sz ys.length v news∧aD Γ ys news∧(∀x∈ys,x.width=sz):=by
 unfold src at h
 split at h
 ·split at h
  ·rename_i bs
   obtain⟨st,hv,hd⟩:=hr.str
   obtain⟨rfl,hK⟩:=h
   have hlen:bs.length=st.size:=by rw[←hd];exact Array.length_toList
   refine⟨_,_,hK,.inr ⟨st,hv,by simp[hlen],rfl,rfl⟩,?_,?_⟩
   ·rw[hd]
    clear hK hlen hd hv hr
    induction bs with
    |nil=>exact .nil
    |cons b bs ih=>exact .int _ _ ih
   ·intro x hx;obtain⟨b,_,rfl⟩:=List.mem_map.1 hx;rfl
  ·exact h.elim
 ·obtain⟨cR,l,cs,ad,bt,⟨h1,hK⟩,hv,hl,mX,hle,mY⟩:=pI hs h hr
  refine⟨l,cs,hK,.inl ⟨ad,bt,hv,λkz=> ?_⟩,hl,λx hx=> ?_⟩
  ·obtain⟨b,o,e1,e2⟩:=mX (by intro h;subst h;simp at kz)
   exact⟨b,o,e1,by rw[hw];exact e2⟩
  ·rcases h1 with rfl|rfl
   ·simp at hx
   ·exact mY x hx
end Go.Ab
namespace Go.Ab
variable [eo]
variable {P:Program} {nt:Nat} {ds:List Deferred} {s:St} {Γ:Cx} {a:Act} {w:World}
theorem yA (Γ:Cx) (o:Obj) {k:Nat} {blk b8:br} (hk:get Γ.bx k=some blk) (ht:blk.aK<b8.aK):Le Γ (Γ.ext o k b8) where
 heap b hb _:=mG _ _ hb
 iQ b hb h:=by
  obtain⟨i,bl,hg,hi⟩:=h
  simp only[Cx.ext]at hg hi
  by_cases iP:i=k
  ·subst iP;simp at hi;omega
  ·rw[if_neg iP]at hi
   rw[ch _ _ _ _ (λh=>iP h.symm)]at hg
   exact⟨i,bl,hg,hi⟩
 dU:=rfl
 size:=by simp[Cx.ext]
 ref i bl h:=by
  by_cases iP:i=k
  ·subst iP
   rw[hk]at h;cases h
   exact⟨b8,by simp[Cx.ext,cZ],by omega,λe=>by omega⟩
  ·exact⟨bl,by simp only[Cx.ext];rw[ch _ _ _ _ (λh=>iP h.symm)];exact h,Nat.le_refl _,λ_=>⟨by simp[Cx.ext,iP],λb _ cs e hc=>⟨cs,by rw[←hc];exact mG _ _ (cH hc),rfl⟩⟩⟩
theorem KP (hm:Mem Γ) {o:Obj} {k:Nat} {blk b8:br} (hk:get Γ.bx k=some blk) (ht:blk.aK<b8.aK) (hr:b8.xv (Γ.ext o k b8) (some Γ.heap.size)):Mem (Γ.ext o k b8) where
 blk i bl h:=by
  by_cases iP:i=k
  ·subst iP
   simp only[Cx.ext,cZ,sJ]at h
   subst h
   have:(Γ.ext o i b8).ι i=some Γ.heap.size:=by simp[Cx.ext]
   rw[this];exact hr
  ·simp only[Cx.ext]at h
   rw[ch _ _ _ _ (λh=>iP h.symm)]at h
   have:=hm.blk i bl h
   have e:(Γ.ext o k b8).ι i=Γ.ι i:=by simp[Cx.ext,iP]
   rw[e]
   exact this.mono (yA Γ o hk ht) (λb hb=>by rw[hb]at this;exact mG _ _ this.lt)
 inj i j b hi hj h1 h2:=by
  simp only[Cx.ext,iD]at hi hj h1 h2
  by_cases iP:i=k<;>by_cases vX:j=k
  ·rw[iP,vX]
  ·rw[if_pos iP]at h1
   rw[if_neg vX]at h2
   rw[if_neg (λh=>vX h.symm)]at hj
   obtain⟨bl,qS⟩:=Option.isSome_iff_exists.1 hj
   have:=hm.lt ⟨j,bl,qS,h2⟩
   simp at h1;omega
  ·rw[if_neg iP]at h1
   rw[if_pos vX]at h2
   rw[if_neg (λh=>iP h.symm)]at hi
   obtain⟨bl,qS⟩:=Option.isSome_iff_exists.1 hi
   have:=hm.lt ⟨i,bl,qS,h1⟩
   simp at h2;omega
  ·rw[if_neg iP]at h1
   rw[if_neg vX]at h2
   rw[if_neg (λh=>iP h.symm)]at hi
   rw[if_neg (λh=>vX h.symm)]at hj
   exact hm.inj i j b hi hj h1 h2
 dU b h:=by have:=hm.dU b h;simp only[Cx.ext,Array.size_push];omega
 apart b h hp:=by
  have eu:=hm.dU b hp
  exact hm.apart b ((yA Γ o hk ht).iQ b eu h) hp
 uI:=hm.ns (yA Γ o hk ht)
theorem oQ {bx:List (Nat×br)} (h:∀i,get bx i=get Γ.bx i):Le Γ {Γ with bx:=bx} where
 heap _ _ _:=rfl
 iQ b _ hm:=by obtain⟨k,blk,hg,hk⟩:=hm;exact⟨k,blk,by rw[←h];exact hg,hk⟩
 dU:=rfl
 size:=Nat.le_refl _
 ref k blk hg:=⟨blk,by show get bx k=_;rw[h];exact hg,Nat.le_refl _,λ_=>⟨rfl,λ_ _ cs _ hc=>⟨cs,hc,rfl⟩⟩⟩
theorem zf (hm:Mem Γ) {bx:List (Nat×br)} (h:∀i,get bx i=get Γ.bx i):Mem {Γ with bx:=bx} where
 blk k blk hg:=(hm.blk k blk (by rw[←h];exact hg)).mono (oQ h) (λ_ _=>rfl)
 inj i j b hi hj h1 h2:=hm.inj i j b (by rw[←h];exact hi) (by rw[←h];exact hj) h1 h2
 dU:=hm.dU
 apart b hb:=hm.apart b ((oQ h).iQ b (hm.lt (by obtain⟨k,blk,hg,hk⟩:=hb;exact⟨k,blk,by rw[←h];exact hg,hk⟩)) hb)
 uI:=hm.ns (oQ h)
theorem mI {α:Type} {l:List (Nat×α)} {k:Nat} {x:α} (h:get l k=some x):∀i,get (put l k x) i=get l i:=by
 intro i
 rw[iD]
 split
 ·subst_vars;exact h.symm
 ·rfl
theorem BJ {o:Oper} {k d sz:Nat} {blk:br} {l:List PV} {cs rest:List Value} {e:TypeId} {cap:Nat} {w':World} {K:St->Prop} (hs:iz nt ds s Γ a) (hw:w.heap=Γ.heap) (hk:o.dst=some d) (eu:d<nt) (hg:get s.bx k=some blk)
  (ht:blk.aK<l.length) (iA:0<sz) (hr:aD Γ l cs) (mY:∀x∈l,x.width=sz) (uw:cap*sz=(cs++rest).length) (xq:l.length≤cap) (FT:∀v∈rest,gq v=true)
  (ja:(execOp a.eval o).run P w= .ok (.value (.slice (some ⟨w.heap.size,0,none⟩) l.length cap)) w') (sM:w'.heap=w.heap.push (.cells (cs++rest).toArray e (0,0))) (qq:WF w w')
  (hK:K {env:=put s.env d (.rs k [] 0 l.length l.length sz .tip),bx:=put s.bx k (.arr sz l)}):lK P nt ds o a w Γ K:=by
 rw[←hs.bx]at hg
 have hle:=yA Γ (.cells (cs++rest).toArray e (0,0)) (k:=k) (b8:= .arr sz l) hg (by simpa[br.aK]using ht)
 have hh:(Γ.ext (.cells (cs++rest).toArray e (0,0)) k (.arr sz l)).heap[Γ.heap.size]? =some (.cells (cs++rest).toArray e (0,0)):=by simp[Cx.ext]
 have kp:Mem (Γ.ext (.cells (cs++rest).toArray e (0,0)) k (.arr sz l)):=KP hs.mem hg (by simpa[br.aK]using ht) ⟨mY,iA,_,e,cs,rest,hh,rfl,hr.mono hle,FT⟩
 have h1:=hs.le hle kp (vY:=put s.bx k (.arr sz l)) (by simp[Cx.ext,hs.bx])
 have h2:aN (Γ.ext (.cells (cs++rest).toArray e (0,0)) k (.arr sz l)) (.rs k [] 0 l.length l.length sz .tip) (.slice (some ⟨w.heap.size,0,none⟩) l.length cap):=by
  rw[hw]
  simp only[aN]
  refine .rs k [] 0 _ _ sz _ _ (.arr sz l) ⟨by simp[Cx.ext,cZ],by simp[br.aK]⟩ rfl (λ_=>⟨_,_,rfl,?_⟩) .nil
  unfold jo
  have:(Γ.ext (.cells (cs++rest).toArray e (0,0)) k (.arr sz l)).ι k=some Γ.heap.size:=by simp[Cx.ext]
  rw[this]
  exact⟨xq,.inr (by simp[cG]),trivial,λ_=>⟨rfl,_,e,hh,by simpa using uw⟩⟩
 have h3:=h1.put (d:=some d) (λj hj=>by cases hj;exact eu) h2
 exact⟨_,_,_,_,_,ja,.inl rfl,by rw[hk];exact h3,by rw[sM,hw];rfl,hle,qq,hK⟩
theorem tv {o:Oper} {b:Builtin} {x y:Operand} {t u:TypeId} {f:Array TypeId->TypeId->Array Value->Sem Value} (ho:o.op= .call {callee:= .builtin b,args:= #[x,y],argTypes:= #[t,u]})
  (hb:∀ {c:Array Bool} {args:Array Value},builtin b #[t,u] o.type c args=(do Pure.pure (Next.value (←f #[t,u] o.type args)))):
  execOp a.eval o=(do Pure.pure (Next.value (←f #[t,u] o.type #[a.eval x,a.eval y]))):=by
 have e1:Array.map a.eval #[x,y]= #[a.eval x,a.eval y]:=by simp
 rw[←e1,←hb (c:=(#[x,y]:Array Operand).map λ| .const _=>true|_=>false)]
 unfold execOp
 rw[ho]
 rfl
theorem kF {o:Oper} {x y:Operand} {t u:TypeId} (ho:o.op= .call {callee:= .builtin .append,args:= #[x,y],argTypes:= #[t,u]}) {r:Value} {w':World}
  (h:(Builtin.append_ #[t,u] o.type #[a.eval x,a.eval y]).run P w= .ok r w'):(execOp a.eval o).run P w= .ok (.value r) w':=by
 have e2:execOp a.eval o=(do Pure.pure (Next.value (←Builtin.append_ #[t,u] o.type #[a.eval x,a.eval y]))):=tv ho rfl
 rw[e2,bJ,h];rfl
theorem aD.D1 {l:List PV} {cs:List Value} {sz:Nat} (h:aD Γ l cs) (hw:∀x∈l,x.width=sz) (n:Nat) (hn:n≤l.length):aD Γ (l.take n) (cs.take (n*sz)):=by
 have e1:l=l.take n++l.drop n:=by rw[List.take_append_drop]
 rw[e1]at h
 obtain⟨c1,v1,rfl,r1,r2⟩:=h.split
 have l1:c1.length=n*sz:=by rw[r1.length,iH hw hn]
 rw[←l1,List.take_left];exact r1
theorem aD.Sb {l:List PV} {cs:List Value} {sz:Nat} (h:aD Γ l cs) (hw:∀x∈l,x.width=sz) (n:Nat) (hn:n≤l.length):aD Γ (l.drop n) (cs.drop (n*sz)):=by
 have e1:l=l.take n++l.drop n:=by rw[List.take_append_drop]
 rw[e1]at h
 obtain⟨c1,v1,rfl,r1,r2⟩:=h.split
 have l1:c1.length=n*sz:=by rw[r1.length,iH hw hn]
 rw[←l1,List.drop_left];exact r2
theorem aD.over {l ys:List PV} {cs news:List Value} {sz:Nat} (h:aD Γ l cs) (hw:∀x∈l,x.width=sz) (hy:aD Γ ys news) (hyw:∀x∈ys,x.width=sz) (off n:Nat) (hn:n≤ys.length) (ho:off+n≤l.length):
  aD Γ (l.take off++ys.take n++l.drop (off+n)) (bL cs (off*sz) (news.take (n*sz))):=by
 have hl:(news.take (n*sz)).length=n*sz:=by
  rw[lJ,hy.length,bF hyw];exact Nat.min_eq_left (Nat.mul_le_mul_right _ hn)
 simp only[bL,hl]
 rw[show off*sz+n*sz=(off+n)*sz by rw[Nat.add_mul]]
 exact((h.D1 hw off (by omega)).append (hy.D1 hyw n hn)).append (h.Sb hw (off+n) ho)
theorem zg {cs rest us:List Value} {o:Nat} (h:o+us.length≤cs.length):bL (cs++rest) o us=bL cs o us++rest:=by
 simp only[bL]
 rw[List.take_append_of_le_length (by omega),List.drop_append_of_le_length h,List.append_assoc,List.append_assoc,List.append_assoc]
theorem tw {z:Array Value} (h0:0<z.size) (h:z.toList.all gq=true) {n:Nat}:∀v∈(Builtin.zeroCells z n).toList,gq v=true:=by
 intro v hv
 simp only[Builtin.zeroCells,Array.toList_map,List.mem_map]at hv
 obtain⟨j,_,rfl⟩:=hv
 have eu:j%z.size<z.size:=Nat.mod_lt _ h0
 rw[getElem!_pos z _ eu]
 exact List.all_eq_true.1 h _ (by simp)
theorem zh {o:Oper} {t u e:TypeId} {d:TypeDesc} {i:TypeInfo} {z:Value} {x y:Operand} {x' y':AX} {str:Bool} {K:St->Prop} (ho:o.op= .call {callee:= .builtin .append,args:= #[x,y],argTypes:= #[t,u]})
  (ht:P.underlying t=some (.slice e)) (hu:P.underlying u=some d) (DF:(∃x,d= .slice x)∨d= .string) (hi:P.info? e=some i) (hz:i.zero=some z) (T9:z.cells.size=i.size) (kz:0<i.size) (Xw:z.cells.toList.all gq=true)
  (hx:jG x=some x') (hy:jG y=some y') (hs:iz nt ds s Γ a) (hw:w.heap=Γ.heap) (hd:∀k,o.dst=some k->k<nt) (he:ex s o.dst (.append i.size i.bytes str x' y') K):lK P nt ds o a w Γ K:=by
 simp only[ex]at he
 obtain⟨p,hp,tt⟩:=cy hx hs rfl he
 obtain⟨q,hq,pG⟩:=cy hy hs rfl hp
 obtain⟨ys,news,hA,A5,xY,A7⟩:=CJ hs hw hq pG
 have lU:news.length=ys.length*i.size:=by rw[xY.length,bF A7]
 have Ub:=xY.one
 have hz1:∀ {n:Nat},∀v∈(Builtin.zeroCells z.cells n).toList,gq v=true:=tw (by omega) Xw
 --a fresh array out of what is there and what comes
 have fresh:∀ {k:Nat} {ad:Option Addr} {l:List PV} {cs:List Value} {bt:Nat},o.dst=some k->a.eval x= .slice ad l.length bt->bt<l.length+ys.length->aD Γ l cs->(∀x∈l,x.width=i.size)->
   (l≠[]->∃b o,ad=some ⟨b,o,none⟩∧∀i c,cs[i]? =some c->cell Γ.heap b (o+i)=some c)->(l.length+ys.length)*i.bytes≤140737488355328->l.length+ys.length≤9223372036854775807->
   ∃
    w' cap,(execOp a.eval o).run P w= .ok (.value (.slice (some ⟨w.heap.size,0,none⟩) (l++ys).length cap)) w'∧(l++ys).length≤cap∧WF w w'∧
    w'.heap=w.heap.push (.cells ((cs++news)++(Builtin.zeroCells z.cells (cap-(l.length+ys.length))).toList).toArray e (0,0))∧cap*i.size=((cs++news)++(Builtin.zeroCells z.cells (cap-(l.length+ys.length))).toList).length:=by
  intro k ad l cs bt hk hv eu hl mY mX hb h63
  have qV:cs.length=l.length*i.size:=by rw[hl.length,bF mY]
  obtain⟨w',cap,r1,r2,r3,r4⟩:=wo (P:=P) (w:=w) (ty:=o.type) ht hu DF hi hz (ad:=ad) (sLen:=l.length) (sCap:=bt) (n:=ys.length) (y:=a.eval y) (olds:=cs) (news:=news)
   (.inl ⟨ad,bt,rfl,λkz=>by rw[hw];exact mX (by intro h;subst h;simp at kz)⟩) qV A5 lU eu h63 hb
  refine⟨w',cap,?_,by simpa using r2,r4,by simpa using r3,?_⟩
  ·rw[←hv]at r1
   rw[List.length_append]
   exact kF ho r1
  ·simp only[List.length_append,Array.length_toList,qz,T9,qV,lU,←Nat.add_mul]
   congr 1;omega
 unfold gP at hA
 split at hA
 ·exact hA.elim
 ·rename_i k hk
  split at hA
  ·rename_i sz0 l
   obtain⟨⟨h1,h2,h3,h4⟩,hK⟩:=hA
   obtain⟨ad,bt,cs,hv,hl,mY,hc,Nt,hb⟩:=tt.sl
   have hrc:=Nt rfl
   subst hrc
   by_cases DR:ys=[]
   ·subst DR
    have IF:l=[]:=by rcases h2 with h2|h2;exact h2;exact absurd rfl h2.2
    subst IF
    have Xx:news=[]:=List.eq_nil_of_length_eq_zero (by simpa using lU)
    subst Xx
    have:=nu (P:=P) (w:=w) (ty:=o.type) ht hu DF hi (ad:=ad) (sLen:=0) (sCap:=0) A5 (Nat.le_refl _)
    rw[show Value.slice ad 0 0=a.eval x from hv.symm]at this
    exact I2 (ad:=ad) hs hw hk (hd k hk) h1 kz (by rw[kF ho this,hv];rfl) hK
   ·have aeW:∀x∈l,x.width=i.size:=by
     rcases h2 with h2|h2
     ·subst h2;simp
     ·rw[←h2.1];exact mY
    have Cr:0<ys.length:=List.length_pos_iff.2 DR
    obtain⟨w',cap,r1,r2,r3,r4,r5⟩:=fresh hk hv (by omega) hl aeW (λdF=>let⟨b,o,g1,_,_,g4⟩:=hb dF;⟨b,o,g1,g4⟩) h3 h4
    exact oP hs hw hk (hd k hk) h1 kz (hl.append xY) (λx hx=>(List.mem_append.1 hx).elim (aeW x) (A7 x)) r5 r2 hz1 r1 r4 r3 (by rw[List.length_append];exact hK)
  ·rename_i k2 len aK cR
   split at hA
   ·rename_i sz'' l hg
    obtain⟨⟨h1,h2,h3,h4,h5,h6⟩,hK⟩:=hA
    subst h1 h2 h3 h4
    have lI:=hg
    rw[←hs.bx]at lI
    obtain⟨ad,bt,hv,cY⟩:=tt.rs lI rfl
    obtain⟨mY,_,lH⟩:=hs.mem.blk k2 _ lI
    unfold jo at cY
    cases hι:Γ.ι k2 with
    |
     none=>
     rw[hι]at cY
     have IF:l=[]:=List.eq_nil_of_length_eq_zero cY.1
     subst IF
     obtain⟨_,rfl,_⟩:=cY
     by_cases DR:ys=[]
     ·subst DR
      have Xx:news=[]:=List.eq_nil_of_length_eq_zero (by simpa using lU)
      subst Xx
      have:=nu (P:=P) (w:=w) (ty:=o.type) ht hu DF hi (ad:=ad) (sLen:=0) (sCap:=0) A5 (Nat.le_refl _)
      rw[show Value.slice ad 0 0=a.eval x from hv.symm]at this
      have lx:=mI lI
      have q1:=hs.le (oQ lx) (zf hs.mem lx) (vY:=put s.bx k2 (.arr i.size [])) (by rw[hs.bx])
      have q2:=(tt.mono (oQ lx))
      have q3:=q1.put (d:=some k) (λj hj=>by cases hj;exact hd k hk) q2
      exact⟨_,_,w,_,{Γ with bx:=put Γ.bx k2 (.arr i.size [])},kF ho this,.inl rfl,by rw[hk];exact q3,hw,oQ lx,WF.refl w,hK⟩
     ·have Cr:0<ys.length:=List.length_pos_iff.2 DR
      obtain⟨w',cap,r1,r2,r3,r4,r5⟩:=fresh (l:=[]) (cs:=[]) hk hv (by simpa using Cr) .nil (by simp) (by simp) (by simpa using h5) (by simpa using h6)
      exact BJ (l:=[]++ys) hs hw hk (hd k hk) hg (by simpa[br.aK]using Cr) kz (aD.nil.append xY) (by simpa using A7) r5 r2 hz1 r1 r4 r3 (by rw[List.length_append];exact hK)
    |
     some b=>
     rw[hι]at cY lH
     obtain⟨o1,o2,_,o4⟩:=cY
     obtain⟨_,IK,e0,q1,q2⟩:=o4 rfl
     obtain⟨c,ce,cs,rest,h7,h8,h9,FT⟩:=lH
     rw[q1]at h7
     simp only[sJ,Obj.cells.injEq]at h7
     obtain⟨rfl,rfl,_⟩:=h7
     have qV:cs.length=l.length*i.size:=by rw[h9.length,bF mY]
     have Nx:IK.size=cs.length+rest.length:=by rw[←Array.length_toList,h8];simp
     simp only[Nat.zero_add]at q2
     by_cases tK:l.length+ys.length≤bt
     ·by_cases hz0:bt=0
      ·have IF:l=[]:=List.eq_nil_of_length_eq_zero (by omega)
       have hy0:ys=[]:=List.eq_nil_of_length_eq_zero (by omega)
       subst IF hy0 hz0
       have Xx:news=[]:=List.eq_nil_of_length_eq_zero (by simpa using lU)
       subst Xx
       have:=nu (P:=P) (w:=w) (ty:=o.type) ht hu DF hi (ad:=ad) (sLen:=0) (sCap:=0) A5 (Nat.le_refl _)
       rw[show Value.slice ad 0 0=a.eval x from hv.symm]at this
       have lx:=mI lI
       have q1:=hs.le (oQ lx) (zf hs.mem lx) (vY:=put s.bx k2 (.arr i.size [])) (by rw[hs.bx])
       have q2:=(tt.mono (oQ lx))
       have q3:=q1.put (d:=some k) (λj hj=>by cases hj;exact hd k hk) q2
       exact⟨_,_,w,_,{Γ with bx:=put Γ.bx k2 (.arr i.size [])},kF ho this,.inl rfl,by rw[hk];exact q3,hw,oQ lx,WF.refl w,hK⟩
      ·rcases o2 with o2|rfl
       ·exact absurd o2 hz0
       simp only[cG,Nat.zero_mul,Nat.add_zero]at hv
       have y8:0+l.length*i.size+ys.length*i.size≤IK.size:=by
        rw[←q2,Nat.zero_add,←Nat.add_mul];exact Nat.mul_le_mul_right _ tK
       obtain⟨w',r1,r2,r3⟩:=qA (P:=P) (w:=w) (ty:=o.type) ht hu DF hi (b:=b) (o:=0) (sLen:=l.length) (sCap:=bt) (n:=ys.length) (c:=IK) (ce:=e0) A5 lU Ub tK (by rw[hw];exact q1) y8
       rw[←hv]at r1
       have G9:bL IK.toList (0+l.length*i.size) news=(cs++news)++rest.drop news.length:=by
        rw[h8,Nat.zero_add,←qV]
        simp only[bL]
        rw[List.take_left,←List.drop_drop,List.drop_left]
       have Kb:(bL IK.toList (0+l.length*i.size) news).toArray.size=IK.size:=by
        have:=fQ (cs:=IK.toList) (us:=news) (o:=0+l.length*i.size) (by rw[lU];simpa using y8)
        simpa using this
       have hle:=mH (Γ:=Γ) (b8:= .arr i.size (l++ys)) lI hι q1 Kb (by simp[br.aK])
       have Kc:(br.arr i.size (l++ys)).xv (Γ.jD b (.cells (bL IK.toList (0+l.length*i.size) news).toArray e0 (0,0)) k2 (.arr i.size (l++ys))) (some b):=
        ⟨λx hx=>(List.mem_append.1 hx).elim (mY x) (A7 x),kz,_,e0,cs++news,rest.drop news.length,by simp only[Cx.jD];rw[uJ (cH q1)],by simpa using G9,(h9.append xY).mono hle,λv hv=>FT v (List.mem_of_mem_drop hv)⟩
       have kp:=ou (Γ:=Γ) (b8:= .arr i.size (l++ys)) hs.mem lI hι q1 Kb (by simp[br.aK]) Kc
       have t1:=hs.le hle kp (vY:=put s.bx k2 (.arr i.size (l++ys))) (by simp[Cx.jD,hs.bx])
       have t2:aN (Γ.jD b (.cells (bL IK.toList (0+l.length*i.size) news).toArray e0 (0,0)) k2 (.arr i.size (l++ys))) (.rs k2 [] 0 (l.length+ys.length) (l.length+ys.length) i.size .tip) (.slice (some ⟨b,0,none⟩) (l.length+ys.length) bt):=by
        simp only[aN]
        refine .rs k2 [] 0 _ _ i.size _ _ (.arr i.size (l++ys)) ⟨by simp[Cx.jD,cZ],by simp[br.aK]⟩ rfl (λ_=>⟨_,_,rfl,?_⟩) .nil
        unfold jo
        rw[show(Γ.jD b (.cells (bL IK.toList (0+l.length*i.size) news).toArray e0 (0,0)) k2 (.arr i.size (l++ys))).ι k2=some b from hι]
        refine⟨tK,.inr (by simp[cG]),trivial,λ_=>⟨rfl,_,e0,by simp only[Cx.jD];rw[uJ (cH q1)],by rw[Kb,Nat.zero_add];exact q2⟩⟩
       have t3:=t1.put (d:=some k) (λj hj=>by cases hj;exact hd k hk) t2
       exact⟨_,_,w',_,_,kF ho r1,.inl rfl,by rw[hk];exact t3,by rw[r2,hw];rfl,hle,r3,hK⟩
     ·have mX:l≠[]->∃b o,ad=some ⟨b,o,none⟩∧∀i c,cs[i]? =some c->cell Γ.heap b (o+i)=some c:=by
       intro dF
       have:=List.length_pos_iff.2 dF
       rcases o2 with o2|rfl
       ·omega
       exact⟨b,_,rfl,by simpa[cG]using mf q1 cs rest h8⟩
      obtain⟨w',cap,r1,r2,r3,r4,r5⟩:=fresh hk hv (by omega) h9 mY mX h5 h6
      have hy0:0<ys.length:=by omega
      exact BJ (l:=l++ys) hs hw hk (hd k hk) hg (by simp[br.aK];omega) kz (h9.append xY) (λx hx=>(List.mem_append.1 hx).elim (mY x) (A7 x)) r5 r2 hz1 r1 r4 r3 (by rw[List.length_append];exact hK)
   ·exact hA.elim
  ·rename_i k2 len aK cR n
   split at hA
   ·rename_i sz'' l hg
    obtain⟨⟨h1,h2,h3,hln,akS,DR,j6,h5,h6⟩,hK1,nn⟩:=hA
    subst h1 h2 h3
    have lI:=hg
    rw[←hs.bx]at lI
    obtain⟨ad,bt,hv,cY⟩:=tt.rs lI rfl
    obtain⟨mY,_,lH⟩:=hs.mem.blk k2 _ lI
    have Cr:0<ys.length:=List.length_pos_iff.2 DR
    have hwt:∀x∈l.take len,x.width=i.size:=λx hx=>mY x (List.mem_of_mem_take hx)
    have FU:(l.take len).length=len:=by rw[lJ];omega
    unfold jo at cY
    cases hι:Γ.ι k2 with
    |
     none=>
     rw[hι]at cY
     obtain⟨rfl,rfl,Hq⟩:=cY
     simp only[og]at Hq
     subst Hq
     obtain⟨w',cap,r1,r2,r3,r4,r5⟩:=fresh (l:=[]) (cs:=[]) hk hv (by simpa using Cr) .nil (by simp) (by simp) (by simpa using h5) (by simpa using h6)
     exact oP (l:=[]++ys) hs hw hk (hd k hk) j6 kz (aD.nil.append xY) (by simpa using A7) r5 r2 hz1 r1 r4 r3 (by
      have:=nn (by omega)
      rw[List.take_zero]at this
      rw[List.length_append];simpa using this)
    |
     some b=>
     rw[hι]at cY lH
     obtain⟨o1,o2,Hq,_⟩:=cY
     simp only[og]at Hq
     subst Hq
     obtain⟨c,ce,cs,rest,h7,h8,h9,FT⟩:=lH
     have qV:cs.length=l.length*i.size:=by rw[h9.length,bF mY]
     have Nx:c.size=cs.length+rest.length:=by rw[←Array.length_toList,h8];simp
     have h9t:=h9.D1 mY len (by omega)
     by_cases tK:len+ys.length≤bt
     ·have hz0:bt≠0:=by omega
      rcases o2 with o2|rfl
      ·exact absurd o2 hz0
      simp only[cG,Nat.zero_mul,Nat.add_zero]at hv
      have y8:0+len*i.size+ys.length*i.size≤cs.length:=by
       rw[qV,Nat.zero_add,←Nat.add_mul];exact Nat.mul_le_mul_right _ (by omega)
      obtain⟨w',r1,r2,r3⟩:=qA (P:=P) (w:=w) (ty:=o.type) ht hu DF hi (b:=b) (o:=0) (sLen:=len) (sCap:=bt) (n:=ys.length) (c:=c) (ce:=ce) A5 lU Ub tK (by rw[hw];exact h7) (by omega)
      rw[←hv]at r1
      have RT:=h9.over mY xY A7 len ys.length (Nat.le_refl _) (by omega)
      rw[List.take_length]at RT
      have G9:bL c.toList (0+len*i.size) news=bL cs (len*i.size) news++rest:=by
       rw[h8,Nat.zero_add]
       exact zg (by rw[lU];omega)
      have Kb:(bL c.toList (0+len*i.size) news).toArray.size=c.size:=by
       have:=fQ (cs:=c.toList) (us:=news) (o:=0+len*i.size) (by simp only[Array.length_toList,lU];omega)
       simpa using this
      have Xy:(br.arr i.size l).aK=(br.arr i.size (l.take len++ys++l.drop (len+ys.length))).aK:=by simp[br.aK];omega
      have hle:=mH (Γ:=Γ) (b8:= .arr i.size (l.take len++ys++l.drop (len+ys.length))) lI hι h7 Kb (by omega)
      have akT:∀x∈l.take len++ys++l.drop (len+ys.length),x.width=i.size:=by
       intro x hx
       rcases List.mem_append.1 hx with hx|hx
       ·rcases List.mem_append.1 hx with hx|hx
        ·exact hwt x hx
        ·exact A7 x hx
       ·exact mY x (List.mem_of_mem_drop hx)
      rw[show news.take (ys.length*i.size)=news from tJ (by omega)]at RT
      have Kc:(br.arr i.size (l.take len++ys++l.drop (len+ys.length))).xv (Γ.jD b (.cells (bL c.toList (0+len*i.size) news).toArray ce (0,0)) k2 (.arr i.size (l.take len++ys++l.drop (len+ys.length)))) (some b):=
       ⟨akT,kz,_,ce,bL cs (len*i.size) news,rest,by simp only[Cx.jD];rw[uJ (cH h7)],by simpa using G9,RT.mono hle,FT⟩
      have kp:=ou (Γ:=Γ) (b8:= .arr i.size (l.take len++ys++l.drop (len+ys.length))) hs.mem lI hι h7 Kb (by omega) Kc
      have t1:=hs.le hle kp (vY:=put s.bx k2 (.arr i.size (l.take len++ys++l.drop (len+ys.length)))) (by simp[Cx.jD,hs.bx])
      have t2:aN (Γ.jD b (.cells (bL c.toList (0+len*i.size) news).toArray ce (0,0)) k2 (.arr i.size (l.take len++ys++l.drop (len+ys.length)))) (.rs k2 [] 0 (len+ys.length) l.length i.size (.full bt)) (.slice (some ⟨b,0,none⟩) (len+ys.length) bt):=by
       simp only[aN]
       refine .rs k2 [] 0 _ _ i.size _ _ (.arr i.size (l.take len++ys++l.drop (len+ys.length))) ⟨by simp[Cx.jD,cZ],by rw[←Xy];simp[br.aK]⟩ rfl (λ_=>⟨_,_,rfl,?_⟩) .nil
       unfold jo
       rw[show(Γ.jD b (.cells (bL c.toList (0+len*i.size) news).toArray ce (0,0)) k2 (.arr i.size (l.take len++ys++l.drop (len+ys.length)))).ι k2=some b from hι]
       exact⟨tK,.inr (by simp[cG]),rfl,λhc=>by cases hc⟩
      have t3:=t1.put (d:=some k) (λj hj=>by cases hj;exact hd k hk) t2
      exact⟨_,_,w',_,_,kF ho r1,.inl rfl,by rw[hk];exact t3,by rw[r2,hw];rfl,hle,r3,hK1 tK⟩
     ·have mX:l.take len≠[]->∃b o,ad=some ⟨b,o,none⟩∧∀j x,(cs.take (len*i.size))[j]? =some x->cell Γ.heap b (o+j)=some x:=by
       intro dF
       have:=List.length_pos_iff.2 dF
       rcases o2 with o2|rfl
       ·omega
       refine⟨b,_,rfl,λj x hj=> ?_⟩
       have hb:=mf h7 cs rest h8
       have rK:cs[j]? =some x:=by
        rw[List.getElem?_take]at hj;split at hj
        ·exact hj
        ·cases hj
       simpa[cG]using hb j x rK
      obtain⟨w',cap,r1,r2,r3,r4,r5⟩:=fresh (l:=l.take len) hk (by rw[FU];exact hv) (by rw[FU];omega) h9t hwt mX (by rw[FU];exact h5) (by rw[FU];exact h6)
      exact oP (l:=l.take len++ys) hs hw hk (hd k hk) j6 kz (h9t.append xY) (λx hx=>(List.mem_append.1 hx).elim (hwt x) (A7 x)) r5 r2 hz1 r1 r4 r3 (by rw[List.length_append,FU];exact nn (by omega))
   ·exact hA.elim
  ·rename_i k2 p off len aK cR
   obtain⟨sz'',l,cs,ad,bt,⟨⟨h1,rfl,h3,h4,h5⟩,hK⟩,hv,hl,mX,hle,mY⟩:=pI hs hA tt
   have hrc:bt=l.length:=by
    have Ot:=hA
    simp only[content]at Ot
    split at Ot
    ·rename_i hb
     rw[←hs.bx]at hb
     obtain⟨ad2,aeX,mD,cY⟩:=tt.rs hb (by simpa[br.aK]using Ot.1.1)
     rw[hv]at mD
     simp only[Value.slice.injEq]at mD
     obtain⟨rfl,Ny,rfl⟩:=mD
     unfold jo at cY
     split at cY
     ·omega
     ·have:=cY.2.2.1.clip rfl;omega
    ·rename_i hb
     split at Ot
     ·rw[←hs.bx]at hb
      obtain⟨ad2,aeX,mD,cY⟩:=tt.rs hb (by simpa[br.aK]using Ot.1.1)
      rw[hv]at mD
      simp only[Value.slice.injEq]at mD
      obtain⟨rfl,Ny,rfl⟩:=mD
      unfold jo at cY
      split at cY
      ·omega
      ·have:=cY.2.2.1.clip rfl;omega
     ·exact Ot.elim
    ·exact Ot.elim
   have Cr:0<ys.length:=List.length_pos_iff.2 h3
   obtain⟨w',cap,r1,r2,r3,r4,r5⟩:=fresh hk hv (by omega) hl mY mX h4 h5
   exact oP hs hw hk (hd k hk) h1 kz (hl.append xY) (λx hx=>(List.mem_append.1 hx).elim (mY x) (A7 x)) r5 r2 hz1 r1 r4 r3 (by rw[List.length_append];exact hK)
  ·exact hA.elim
end Go.Ab
namespace Go.Ab
variable [eo]
variable {P:Program} {nt:Nat} {ds:List Deferred} {s:St} {Γ:Cx} {a:Act} {w:World}
theorem KQ {o:Oper} {t u e:TypeId} {sz:Nat} {x y:Operand} {x' y':AX} {K:St->Prop} (ho:o.op= .call {callee:= .builtin .copy,args:= #[x,y],argTypes:= #[t,u]})
  (ht:P.underlying t=some (.slice e)) (iA:jz P e=some sz) (hx:jG x=some x') (hy:jG y=some y') (hs:iz nt ds s Γ a) (hw:w.heap=Γ.heap) (hd:∀k,o.dst=some k->k<nt) (he:ex s o.dst (.copy sz x' y') K):lK P nt ds o a w Γ K:=by
 simp only[ex]at he
 obtain⟨p,hp,tt⟩:=cy hx hs rfl he
 obtain⟨q,hq,pG⟩:=cy hy hs rfl hp
 have hA:∃ys news,kE s o.dst sz p ys K∧qx w sz ys.length (a.eval y) news∧aD Γ ys news∧(∀x∈ys,x.width=sz):=by
  split at hq
  ·exact CJ hs hw hq pG
  ·exact CJ hs hw hq pG
 obtain⟨ys,news,hA,A5,xY,A7⟩:=hA
 have lU:news.length=ys.length*sz:=by rw[xY.length,bF A7]
 have AW:∀ {r:Value} {w':World},(Builtin.copy_ #[t,u] o.type #[a.eval x,a.eval y]).run P w= .ok r w'->(execOp a.eval o).run P w= .ok (.value r) w':=by
  intro r w' h
  rw[tv ho rfl,bJ,h];rfl
 --nothing copied
 have none:∀ {ad:Option Addr} {len cap:Nat},a.eval x= .slice ad len cap->min ys.length len=0->(execOp a.eval o).run P w= .ok (.value (.int .i64 0)) w:=by
  intro ad len cap hv h0
  refine AW ?_
  have hlen:=qy (P:=P) A5
  have hf:(Builtin.firstCells sz 0 (a.eval y)).run P w= .ok #[] w:=by
   rcases A5 with⟨ad2,rc,mD,h⟩|⟨str,mD,h2,rfl,rfl⟩
   ·rw[mD];cases ad2<;>simp[Builtin.firstCells,loadCells,loadCellsFrom]
   ·rw[mD];simp[Builtin.firstCells]
  have II:Nat.min ys.length len=0:=h0
  rw[hv]
  cases ad<;>simp[Builtin.copy_,run_underlying ht,run_sizeOf iA,hlen,II,hf,goInt,storeCells]
 unfold kE at hA
 split at hA
 ·rename_i k pth off len aK cR ck
  split at hA
  ·rename_i sz'' l hg
   obtain⟨⟨h1,rfl,rfl,rfl,h4⟩,hK⟩:=hA
   have lI:=hg
   rw[←hs.bx]at lI
   obtain⟨ad,bt,hv,cY⟩:=tt.rs lI (by simpa[br.aK]using h1)
   obtain⟨mY,kz,lH⟩:=hs.mem.blk k _ lI
   by_cases h0:min ys.length len=0
   ·rw[h0]at hK
    have lx:∀i,get (put Γ.bx k (.arr sz'' (l.take off++ys.take 0++l.drop (off+0)))) i=get Γ.bx i:=mI (by simpa using lI)
    have q1:=hs.le (oQ lx) (zf hs.mem lx) (vY:=put s.bx k (.arr sz'' (l.take off++ys.take 0++l.drop (off+0)))) (by rw[hs.bx])
    have q3:=q1.put (p:= .int .i64 0) (v:= .int .i64 0) hd dC
    exact⟨_,_,w,_,_,none hv h0,.inl rfl,q3,hw,oQ lx,WF.refl w,hK⟩
   ·unfold jo at cY
    cases hι:Γ.ι k with
    |none=>rw[hι]at cY;omega
    |
     some b=>
     rw[hι]at cY lH
     obtain⟨o1,o2,_,_⟩:=cY
     rcases o2 with o2|rfl
     ·omega
     obtain⟨c,ce,cs,rest,h7,h8,h9,FT⟩:=lH
     have qV:cs.length=l.length*sz'':=by rw[h9.length,bF mY]
     have Nx:c.size=cs.length+rest.length:=by rw[←Array.length_toList,h8];simp
     have y8:off*sz''+(min ys.length len)*sz''≤cs.length:=by
      rw[qV,←Nat.add_mul];exact Nat.mul_le_mul_right _ (by omega)
     simp only[cG,Nat.zero_add]at hv
     obtain⟨w',r1,r2,r3⟩:=BH (P:=P) (w:=w) (u:=u) (ty:=o.type) ht iA (b:=b) (o:=off*sz'') (dLen:=len) (dCap:=bt) (n:=min ys.length len) (c:=c) (ce:=ce) A5 lU rfl xY.one (by rw[hw];exact h7) (by omega)
     rw[←hv]at r1
     have eu:(news.take (min ys.length len*sz'')).length=min ys.length len*sz'':=by rw[lJ,lU];exact Nat.min_eq_left (Nat.mul_le_mul_right _ (by omega))
     have G9:bL c.toList (off*sz'') (news.take (min ys.length len*sz''))=bL cs (off*sz'') (news.take (min ys.length len*sz''))++rest:=by
      rw[h8];exact si.splice_append (by omega)
     have AY:(bL c.toList (off*sz'') (news.take (min ys.length len*sz''))).toArray.size=c.size:=by
      have:=fQ (cs:=c.toList) (us:=news.take (min ys.length len*sz'')) (o:=off*sz'') (by simp only[Array.length_toList];omega)
      simpa using this
     have Xy:(br.arr sz'' (l.take off++ys.take (min ys.length len)++l.drop (off+min ys.length len))).aK=(br.arr sz'' l).aK:=by simp[br.aK];omega
     have hle:=mH (Γ:=Γ) (b8:= .arr sz'' (l.take off++ys.take (min ys.length len)++l.drop (off+min ys.length len))) lI hι h7 AY (by omega)
     have kp:=ou (Γ:=Γ) (b8:= .arr sz'' (l.take off++ys.take (min ys.length len)++l.drop (off+min ys.length len))) hs.mem lI hι h7 AY (by omega)
      ⟨λx hx=>by
       rcases List.mem_append.1 hx with hx|hx
       ·rcases List.mem_append.1 hx with hx|hx
        ·exact mY x (List.mem_of_mem_take hx)
        ·exact A7 x (List.mem_of_mem_take hx)
       ·exact mY x (List.mem_of_mem_drop hx),kz,_,ce,_,rest,by simp only[Cx.jD];rw[uJ (cH h7)],by simpa using G9,
       (h9.over mY xY A7 off (min ys.length len) (by omega) (by omega)).mono hle,FT⟩
     have t1:=hs.le hle kp (vY:=put s.bx k (.arr sz'' (l.take off++ys.take (min ys.length len)++l.drop (off+min ys.length len)))) (by simp[Cx.jD,hs.bx])
     have t3:=t1.put (p:= .int .i64 (min ys.length len:Nat)) (v:= .int .i64 (min ys.length len:Nat)) hd dC
     exact⟨_,_,w',_,_,AW r1,.inl rfl,t3,by rw[r2,hw];rfl,hle,r3,hK⟩
  ·rename_i v hg
   split at hA
   ·rename_i sz'' n l G8
    split at hA
    ·rename_i v' BE
     obtain⟨⟨h1,rfl,rfl,h4⟩,hK⟩:=hA
     have lI:=hg
     rw[←hs.bx]at lI
     obtain⟨ad,bt,hv,cY⟩:=tt.rs lI (by simpa[br.aK]using h1)
     unfold jo at cY
     obtain⟨b,c,ce,hι,h7,h8⟩:=hs.mem.blk k _ lI
     rw[hι]at cY
     obtain⟨o1,o2,_,_⟩:=cY
     obtain⟨g1,g2⟩:=qu pth h8 G8
     obtain⟨hl,hn,mY⟩:=g2.oM
     have Xz:PV.width (.ar sz'' n l)=n*sz'':=rfl
     rw[Xz]at g1 g2 hl
     have Nz:=hl.over mY xY A7 off (min ys.length len) (by omega) (by omega)
     have eu:(news.take (min ys.length len*sz'')).length=min ys.length len*sz'':=by rw[lJ,lU];exact Nat.min_eq_left (Nat.mul_le_mul_right _ (by omega))
     have y8:off*sz''+(min ys.length len)*sz''≤n*sz'':=by rw[←Nat.add_mul];exact Nat.mul_le_mul_right _ (by omega)
     have BK:aD Γ [.ar sz'' n (l.take off++ys.take (min ys.length len)++l.drop (off+min ys.length len))] (bL ((c.toList.drop (cG pth)).take (n*sz'')) (off*sz'') (news.take (min ys.length len*sz''))):=
      Nz.Sa (by simp;omega) (λx hx=>by
       rcases List.mem_append.1 hx with hx|hx
       ·rcases List.mem_append.1 hx with hx|hx
        ·exact mY x (List.mem_of_mem_take hx)
        ·exact A7 x (List.mem_of_mem_take hx)
       ·exact mY x (List.mem_of_mem_drop hx))
     obtain⟨c2,e2,k1,k2,k3,k4⟩:=si (b8:= .box v') (pth:=pth) hs.mem lI hι BK (by simp only[sc,BE])
     rw[h7]at k1
     simp only[sJ,Obj.cells.injEq]at k1
     obtain⟨rfl,rfl,_⟩:=k1
     have XA:=qc (cs:=c.toList) (us:=news.take (min ys.length len*sz'')) (o:=cG pth) (m:=n*sz'') (p:=off*sz'') g1 (by omega)
     by_cases h0:min ys.length len=0
     ·rw[h0]at hK
      have XB:news.take (min ys.length len*sz'')=[]:=by rw[h0];simp
      have pq:(bL c.toList (cG pth) (bL ((c.toList.drop (cG pth)).take (n*sz'')) (off*sz'') (news.take (min ys.length len*sz''))))=c.toList:=by
       rw[XA,XB];simp[bL]
      have hle:=mH (Γ:=Γ) (c':=c) (b8:= .box v') lI hι h7 rfl (Nat.le_refl _)
      have kp:=ou (Γ:=Γ) (c':=c) (b8:= .box v') hs.mem lI hι h7 rfl (Nat.le_refl _) (k4 c pq.symm)
      have t1:=hs.le hle kp (vY:=put s.bx k (.box v')) (by simp[Cx.jD,hs.bx])
      have t3:=t1.put (p:= .int .i64 0) (v:= .int .i64 0) hd dC
      refine⟨_,_,w,_,_,none hv h0,.inl rfl,t3,?_,hle,WF.refl w,hK⟩
      simp only[Cx.jD]
      rw[hw]
      apply Array.ext_getElem?
      intro j
      by_cases hj:b=j
      ·subst hj;rw[uJ (cH h7)];exact h7
      ·rw[Array.getElem?_setIfInBounds_ne hj]
     ·rcases o2 with o2|rfl
      ·omega
      obtain⟨w',r1,r2,r3⟩:=BH (P:=P) (w:=w) (u:=u) (ty:=o.type) ht iA (b:=b) (o:=cG pth+off*sz'') (dLen:=len) (dCap:=bt) (n:=min ys.length len) (c:=c) (ce:=ce) A5 lU rfl xY.one (by rw[hw];exact h7) (by simp only[Array.length_toList]at g1;omega)
      rw[←hv]at r1
      rw[←XA]at r2
      have AY:(bL c.toList (cG pth) (bL ((c.toList.drop (cG pth)).take (n*sz'')) (off*sz'') (news.take (min ys.length len*sz'')))).toArray.size=c.size:=by
       rw[XA]
       have:=fQ (cs:=c.toList) (us:=news.take (min ys.length len*sz'')) (o:=cG pth+off*sz'') (by simp only[Array.length_toList]at g1⊢;omega)
       simpa using this
      have hle:=mH (Γ:=Γ) (b8:= .box v') lI hι h7 AY (Nat.le_refl _)
      have kp:=ou (Γ:=Γ) (b8:= .box v') hs.mem lI hι h7 AY (Nat.le_refl _) (k4 _ (by simp))
      have t1:=hs.le hle kp (vY:=put s.bx k (.box v')) (by simp[Cx.jD,hs.bx])
      have t3:=t1.put (p:= .int .i64 (min ys.length len:Nat)) (v:= .int .i64 (min ys.length len:Nat)) hd dC
      exact⟨_,_,w',_,_,AW r1,.inl rfl,t3,by rw[r2,hw];rfl,hle,r3,hK⟩
    ·exact hA.elim
   ·exact hA.elim
  ·exact hA.elim
 ·exact hA.elim
theorem Bi {z:PV} {zv:Value} (h:aD Γ [z] zv.cells.toList) (n:Nat):aD Γ (List.replicate n z) (Builtin.zeroCells zv.cells n).toList:=by
 have e:(Builtin.zeroCells zv.cells n).toList=(List.replicate n zv.cells.toList).flatten:=lV zv.cells n
 rw[e];exact jM h n
theorem zi {t e:TypeId} {ty:TypeId} {zv:Value} (ht:P.underlying t=some (.slice e)) (Oo:∀w,(zeroValue e).run P w= .ok zv w)
  {b o dLen dCap m:Nat} {news:List Value} {c:Array Value} {ce:TypeId} (hm:news.take m=news) (h0:0<dLen) (hn:news=(Builtin.zeroCells zv.cells dLen).toList) (h1:∀v∈news,gq v=true)
  (hb:w.heap[b]? =some (.cells c ce (0,0))) (y8:o+news.length≤c.size):
  ∃
   w',(Builtin.clear_ #[t] ty #[.slice (some ⟨b,o,none⟩) dLen dCap]).run P w= .ok (.tuple #[]) w'∧
   w'.heap=w.heap.setIfInBounds b (.cells (bL c.toList o (news.take m)).toArray ce (0,0))∧WF w w':=by
 rw[hm]
 obtain⟨w',g1,g2,g3⟩:=kC (P:=P) news w b o 0 c ce hb (by omega) h1
 refine⟨w',?_,by simpa using g2,g3⟩
 obtain⟨m,rfl⟩:∃m,dLen=m+1:=⟨dLen-1,by omega⟩
 rw[hn]at g1
 simp[Builtin.clear_,run_underlying ht,Oo,g1]
theorem KR {o:Oper} {t e:TypeId} {sz:Nat} {z:PV} {x:Operand} {x':AX} {K:St->Prop} (ho:o.op= .call {callee:= .builtin .clear,args:= #[x],argTypes:= #[t]})
  (ht:P.underlying t=some (.slice e)) (iA:jz P e=some sz) (hz:zeroOf P e=some z) (hx:jG x=some x') (hs:iz nt ds s Γ a) (hw:w.heap=Γ.heap) (he:ex s o.dst (.fill sz z x') K):lK P nt ds o a w Γ K:=by
 simp only[ex]at he
 obtain⟨p,hp,tt⟩:=cy hx hs rfl he
 obtain⟨hdn,hp⟩:=hp
 split at hp
 case h_2=>exact hp.elim
 rename_i k pth off len aK cR ck
 obtain⟨zv,Oo,T8,AV,_,T9⟩:=lX (Γ:=Γ) hz
 have RQ:z.width=sz:=by rw[iA]at AV;exact(Option.some.inj AV).symm
 obtain⟨ys,DR⟩:∃ys,ys=List.replicate len z:=⟨_,rfl⟩
 obtain⟨news,NA⟩:∃news,news=(Builtin.zeroCells zv.cells len).toList:=⟨_,rfl⟩
 have xY:aD Γ ys news:=by rw[DR,NA];exact Bi T8 len
 have A7:∀x∈ys,x.width=sz:=by rw[DR];intro x hx;rw[List.eq_of_mem_replicate hx];exact RQ
 have lU:news.length=ys.length*sz:=by rw[xY.length,bF A7]
 have RU:ys.length=len:=by rw[DR];simp
 have hA:kE s none sz (.rs k pth off len aK cR ck) ys K:=by rw[DR];exact hp
 have AW:∀ {r:Value} {w':World},(Builtin.clear_ #[t] o.type #[a.eval x]).run P w= .ok r w'->(execOp a.eval o).run P w= .ok (.value r) w':=by
  intro r w' h
  have e1:execOp a.eval o=(do Pure.pure (Next.value (←Builtin.clear_ #[t] o.type #[a.eval x]))):=by
   have e0:Array.map a.eval #[x]= #[a.eval x]:=by simp
   rw[←e0]
   have hb:builtin .clear #[t] o.type ((#[x]:Array Operand).map λ| .const _=>true|_=>false) (Array.map a.eval #[x])=(do Pure.pure (Next.value (←Builtin.clear_ #[t] o.type (Array.map a.eval #[x])))):=rfl
   rw[←hb]
   unfold execOp
   rw[ho]
   rfl
  rw[e1,bJ,h];rfl
 have none:∀ {ad:Option Addr} {len cap:Nat},a.eval x= .slice ad len cap->len=0->(execOp a.eval o).run P w= .ok (.value (.tuple #[])) w:=by
  intro ad len cap hv h0
  refine AW ?_
  rw[hv,h0]
  cases ad<;>simp[Builtin.clear_,run_underlying ht]
 unfold lK
 rw[hdn]
 have hyl:min ys.length len=len:=by rw[RU,Nat.min_self]
 have pB:news.take (min ys.length len*sz)=news:=tJ (by rw[lU,hyl,RU];exact Nat.le_refl _)
 unfold kE at hA
 simp only at hA
 ·skip
  split at hA
  ·rename_i sz'' l hg
   obtain⟨⟨h1,rfl,rfl,rfl,h4⟩,hK⟩:=hA
   have lI:=hg
   rw[←hs.bx]at lI
   obtain⟨ad,bt,hv,cY⟩:=tt.rs lI (by simpa[br.aK]using h1)
   obtain⟨mY,kz,lH⟩:=hs.mem.blk k _ lI
   by_cases h0:min ys.length len=0
   ·rw[h0]at hK
    have lx:∀i,get (put Γ.bx k (.arr sz'' (l.take off++ys.take 0++l.drop (off+0)))) i=get Γ.bx i:=mI (by simpa using lI)
    have q1:=hs.le (oQ lx) (zf hs.mem lx) (vY:=put s.bx k (.arr sz'' (l.take off++ys.take 0++l.drop (off+0)))) (by rw[hs.bx])
    exact⟨_,_,w,_,_,none hv (by omega),.inl rfl,q1,hw,oQ lx,WF.refl w,hK⟩
   ·unfold jo at cY
    cases hι:Γ.ι k with
    |none=>rw[hι]at cY;omega
    |
     some b=>
     rw[hι]at cY lH
     obtain⟨o1,o2,_,_⟩:=cY
     rcases o2 with o2|rfl
     ·omega
     obtain⟨c,ce,cs,rest,h7,h8,h9,FT⟩:=lH
     have qV:cs.length=l.length*sz'':=by rw[h9.length,bF mY]
     have Nx:c.size=cs.length+rest.length:=by rw[←Array.length_toList,h8];simp
     have y8:off*sz''+(min ys.length len)*sz''≤cs.length:=by
      rw[qV,←Nat.add_mul];exact Nat.mul_le_mul_right _ (by omega)
     simp only[cG,Nat.zero_add]at hv
     obtain⟨w',r1,r2,r3⟩:=zi (P:=P) (w:=w) (ty:=o.type) ht Oo (b:=b) (o:=off*sz'') (dLen:=len) (dCap:=bt) (m:=min ys.length len*sz'') (c:=c) (ce:=ce) pB (by omega) NA xY.one (by rw[hw];exact h7) (by rw[lU,RU];rw[hyl]at y8;omega)
     rw[←hv]at r1
     have eu:(news.take (min ys.length len*sz'')).length=min ys.length len*sz'':=by rw[lJ,lU];exact Nat.min_eq_left (Nat.mul_le_mul_right _ (by omega))
     have G9:bL c.toList (off*sz'') (news.take (min ys.length len*sz''))=bL cs (off*sz'') (news.take (min ys.length len*sz''))++rest:=by
      rw[h8];exact si.splice_append (by omega)
     have AY:(bL c.toList (off*sz'') (news.take (min ys.length len*sz''))).toArray.size=c.size:=by
      have:=fQ (cs:=c.toList) (us:=news.take (min ys.length len*sz'')) (o:=off*sz'') (by simp only[Array.length_toList];omega)
      simpa using this
     have Xy:(br.arr sz'' (l.take off++ys.take (min ys.length len)++l.drop (off+min ys.length len))).aK=(br.arr sz'' l).aK:=by simp[br.aK];omega
     have hle:=mH (Γ:=Γ) (b8:= .arr sz'' (l.take off++ys.take (min ys.length len)++l.drop (off+min ys.length len))) lI hι h7 AY (by omega)
     have kp:=ou (Γ:=Γ) (b8:= .arr sz'' (l.take off++ys.take (min ys.length len)++l.drop (off+min ys.length len))) hs.mem lI hι h7 AY (by omega)
      ⟨λx hx=>by
       rcases List.mem_append.1 hx with hx|hx
       ·rcases List.mem_append.1 hx with hx|hx
        ·exact mY x (List.mem_of_mem_take hx)
        ·exact A7 x (List.mem_of_mem_take hx)
       ·exact mY x (List.mem_of_mem_drop hx),kz,_,ce,_,rest,by simp only[Cx.jD];rw[uJ (cH h7)],by simpa using G9,
       (h9.over mY xY A7 off (min ys.length len) (by omega) (by omega)).mono hle,FT⟩
     have t1:=hs.le hle kp (vY:=put s.bx k (.arr sz'' (l.take off++ys.take (min ys.length len)++l.drop (off+min ys.length len)))) (by simp[Cx.jD,hs.bx])
     exact⟨_,_,w',_,_,AW r1,.inl rfl,t1,by rw[r2,hw];rfl,hle,r3,hK⟩
  ·rename_i v hg
   split at hA
   ·rename_i sz'' n l G8
    split at hA
    ·rename_i v' BE
     obtain⟨⟨h1,rfl,rfl,h4⟩,hK⟩:=hA
     have lI:=hg
     rw[←hs.bx]at lI
     obtain⟨ad,bt,hv,cY⟩:=tt.rs lI (by simpa[br.aK]using h1)
     unfold jo at cY
     obtain⟨b,c,ce,hι,h7,h8⟩:=hs.mem.blk k _ lI
     rw[hι]at cY
     obtain⟨o1,o2,_,_⟩:=cY
     obtain⟨g1,g2⟩:=qu pth h8 G8
     obtain⟨hl,hn,mY⟩:=g2.oM
     have Xz:PV.width (.ar sz'' n l)=n*sz'':=rfl
     rw[Xz]at g1 g2 hl
     have Nz:=hl.over mY xY A7 off (min ys.length len) (by omega) (by omega)
     have eu:(news.take (min ys.length len*sz'')).length=min ys.length len*sz'':=by rw[lJ,lU];exact Nat.min_eq_left (Nat.mul_le_mul_right _ (by omega))
     have y8:off*sz''+(min ys.length len)*sz''≤n*sz'':=by rw[←Nat.add_mul];exact Nat.mul_le_mul_right _ (by omega)
     have BK:aD Γ [.ar sz'' n (l.take off++ys.take (min ys.length len)++l.drop (off+min ys.length len))] (bL ((c.toList.drop (cG pth)).take (n*sz'')) (off*sz'') (news.take (min ys.length len*sz''))):=
      Nz.Sa (by simp;omega) (λx hx=>by
       rcases List.mem_append.1 hx with hx|hx
       ·rcases List.mem_append.1 hx with hx|hx
        ·exact mY x (List.mem_of_mem_take hx)
        ·exact A7 x (List.mem_of_mem_take hx)
       ·exact mY x (List.mem_of_mem_drop hx))
     obtain⟨c2,e2,k1,k2,k3,k4⟩:=si (b8:= .box v') (pth:=pth) hs.mem lI hι BK (by simp only[sc,BE])
     rw[h7]at k1
     simp only[sJ,Obj.cells.injEq]at k1
     obtain⟨rfl,rfl,_⟩:=k1
     have XA:=qc (cs:=c.toList) (us:=news.take (min ys.length len*sz'')) (o:=cG pth) (m:=n*sz'') (p:=off*sz'') g1 (by omega)
     by_cases h0:min ys.length len=0
     ·rw[h0]at hK
      have XB:news.take (min ys.length len*sz'')=[]:=by rw[h0];simp
      have pq:(bL c.toList (cG pth) (bL ((c.toList.drop (cG pth)).take (n*sz'')) (off*sz'') (news.take (min ys.length len*sz''))))=c.toList:=by
       rw[XA,XB];simp[bL]
      have hle:=mH (Γ:=Γ) (c':=c) (b8:= .box v') lI hι h7 rfl (Nat.le_refl _)
      have kp:=ou (Γ:=Γ) (c':=c) (b8:= .box v') hs.mem lI hι h7 rfl (Nat.le_refl _) (k4 c pq.symm)
      have t1:=hs.le hle kp (vY:=put s.bx k (.box v')) (by simp[Cx.jD,hs.bx])
      refine⟨_,_,w,_,_,none hv (by omega),.inl rfl,t1,?_,hle,WF.refl w,hK⟩
      simp only[Cx.jD]
      rw[hw]
      apply Array.ext_getElem?
      intro j
      by_cases hj:b=j
      ·subst hj;rw[uJ (cH h7)];exact h7
      ·rw[Array.getElem?_setIfInBounds_ne hj]
     ·rcases o2 with o2|rfl
      ·omega
      obtain⟨w',r1,r2,r3⟩:=zi (P:=P) (w:=w) (ty:=o.type) ht Oo (b:=b) (o:=cG pth+off*sz'') (dLen:=len) (dCap:=bt) (m:=min ys.length len*sz'') (c:=c) (ce:=ce) pB (by omega) NA xY.one (by rw[hw];exact h7) (by simp only[Array.length_toList]at g1;rw[lU,RU];rw[hyl]at y8;omega)
      rw[←hv]at r1
      rw[←XA]at r2
      have AY:(bL c.toList (cG pth) (bL ((c.toList.drop (cG pth)).take (n*sz'')) (off*sz'') (news.take (min ys.length len*sz'')))).toArray.size=c.size:=by
       rw[XA]
       have:=fQ (cs:=c.toList) (us:=news.take (min ys.length len*sz'')) (o:=cG pth+off*sz'') (by simp only[Array.length_toList]at g1⊢;omega)
       simpa using this
      have hle:=mH (Γ:=Γ) (b8:= .box v') lI hι h7 AY (Nat.le_refl _)
      have kp:=ou (Γ:=Γ) (b8:= .box v') hs.mem lI hι h7 AY (Nat.le_refl _) (k4 _ (by simp))
      have t1:=hs.le hle kp (vY:=put s.bx k (.box v')) (by simp[Cx.jD,hs.bx])
      exact⟨_,_,w',_,_,AW r1,.inl rfl,t1,by rw[r2,hw];rfl,hle,r3,hK⟩
    ·exact hA.elim
   ·exact hA.elim
  ·exact hA.elim
end Go.Ab
namespace Go.Ab
variable [eo]
variable {P:Program} {nt:Nat} {ds:List Deferred} {s:St} {Γ:Cx} {a:Act} {w:World}
theorem I6 {own ng:Bool} {op:BinOp} {t yt:TypeId} {x y:Operand} {p:AX} (hk:lB P own (.binOp op t x y yt)=some (.isNil ng p)):
  (op= .eql∨op= .neq)∧(∃e,P.underlying t=some (.slice e))∧y= .const (.slice none 0 0)∧ng=decide (op= .neq)∧jG x=some p:=by
 simp only[lB]at hk
 split at hk
 ·rename_i q r hx hy
  split at hk
  ·rename_i ho
   split at hk
   ·simp at hk
   ·simp at hk
   ·simp at hk
   ·simp at hk
   ·rename_i e hu
    split at hk
    ·simp only[sJ,AK.isNil.injEq]at hk
     exact⟨ho,⟨e,hu⟩,rfl,hk.1.symm,by rw[hx,hk.2]⟩
    ·simp at hk
   ·split at hk
    ·split at hk<;>simp at hk
    ·simp at hk
   ·split at hk
    ·split at hk<;>simp at hk
    ·simp at hk
   ·simp at hk
  ·simp at hk
 ·simp at hk
theorem aN.slnil {sz:Nat} {l:List PV} {c:Bool} {v:Value} (h:aN Γ (.sl sz l c) v):∃ad n rc,v= .slice ad n rc∧(ad.isNone=true->l=[]):=by
 simp only[aN]at h
 cases h with
 |
  sl _ _ _ ad bt h1 h2 h3 h4 h5 _=>
  refine⟨ad,_,bt,rfl,λhn=> ?_⟩
  by_cases hl:l=[]
  ·exact hl
  ·obtain⟨b,o,e,_⟩:=h5 hl
   rw[e]at hn;simp at hn
theorem aN.aaU {k off len aK sz:Nat} {p:List Step} {c:iC} {v:Value} {blk:br} (h:aN Γ (.rs k p off len aK sz c) v) (hb:get Γ.bx k=some blk) (ht:aK=blk.aK):∃ad n rc,v= .slice ad n rc∧(ad.isNone=true->len=0):=by
 simp only[aN]at h
 cases h with
 |
  rs _ _ _ _ _ _ _ _ b8 h1 h2 h3 _=>
  rw[hb]at h1
  obtain⟨h1,_⟩:=h1
  cases h1
  obtain⟨ad,rc,rfl,hr⟩:=h3 ht
  refine⟨ad,_,rc,rfl,λhn=> ?_⟩
  unfold jo at hr
  split at hr
  ·exact hr.1
  ·obtain⟨h4,h5,_⟩:=hr
   rcases h5 with h5|h5
   ·omega
   ·rw[h5]at hn;simp at hn
theorem F3 {t e:TypeId} {ad:Option Addr} {n c:Nat} (h:P.underlying t=some (.slice e)):(Op.equalIn 10000 t (.slice ad n c) (.slice none 0 0)).run P w= .ok ad.isNone w:=by
 have:∀d,(Op.equalIn (d+1) t (.slice ad n c) (.slice none 0 0)).run P w= .ok ad.isNone w:=by
  intro d
  cases ad with
  |none=>simp only[Op.equalIn,bJ,run_underlying h,rJ];rfl
  |some ad=>simp only[Op.equalIn,bJ,run_underlying h,rJ];rfl
 exact this 9999
theorem I7 {o:Oper} {own ng:Bool} {op:BinOp} {t yt:TypeId} {x y:Operand} {p:AX} {K:St->Prop} (ho:o.op= .binOp op t x y yt) (hk:lB P own (.binOp op t x y yt)=some (.isNil ng p)) (hs:iz nt ds s Γ a) (hw:w.heap=Γ.heap)
  (hd:∀k,o.dst=some k->k<nt) (he:ex s o.dst (.isNil ng p) K):lK P nt ds o a w Γ K:=by
 obtain⟨od,⟨e,hu⟩,rfl,rfl,hx⟩:=I6 hk
 simp only[ex]at he
 obtain⟨q,hq,hr⟩:=cy hx hs rfl he
 have fin:∀ {ad:Option Addr} {n c:Nat},a.eval x= .slice ad n c->K (s.put o.dst (.bl (ad.isNone !=decide (op= .neq))))->lK P nt ds o a w Γ K:=by
  intro ad n c hv hK
  have ja:=uP (P:=P) (w:=w) (F3 (ad:=ad) (n:=n) (c:=c) hu) rfl rfl op od
  refine q5 hs hd (Le.refl Γ) hs.mem rfl (v:= .bool (ad.isNone !=decide (op= .neq))) ?_ hw (WF.refl w) ?_ hK
  ·unfold execOp
   rw[ho]
   have hg:(eqGuard op t x (.const (.slice none 0 0)) (.slice ad n c) (.slice none 0 0)).run P w= .ok () w:=by
    unfold eqGuard
    rcases od with rfl|rfl<;>rfl
   have e2:a.eval (.const (.slice none 0 0))= .slice none 0 0:=rfl
   simp only[hv,e2,bJ,hg,rJ,ja]
   rcases od with rfl|rfl<;>cases ad<;>rfl
  ·simp only[aN];exact .bl _ .nil
 split at hq
 ·obtain⟨ad,n,c,hv,hn⟩:=hr.slnil
  exact fin hv (hq _ hn)
 ·split at hq
  ·rename_i blk hb
   rw[←hs.bx]at hb
   obtain⟨ad,n,c,hv,hn⟩:=hr.aaU hb hq.1
   exact fin hv (hq.2 _ hn)
  ·exact hq.elim
 ·exact hq.elim
end Go.Ab
namespace Go.Ab
variable [eo]
variable {P:Program} {nt:Nat} {ds:List Deferred} {s:St} {Γ:Cx} {a:Act} {w:World}
mutual
def ab (f:Nat->Bool):PV->Bool
 | .rs k _ _ _ _ _ _=>f k
 | .pt k _ _=>f k
 | .st _ l=>ae f l
 | .ar _ _ l=>ae f l
 | .tup l=>ae f l
 | .sl _ l _=>ae f l
 | .fp _ l _=>ae f l
 | .fn _ x y=>ae f x&&ae f y
 | .gd _ p=>ab f p
 | .ifc _ p=>ab f p
 |_=>true
def ae (f:Nat->Bool):List PV->Bool
 |[]=>true
 |p::l=>ab f p&&ae f l
end
mutual
def az (ρ:Nat->Nat):PV->PV
 | .rs k p o l t z c=> .rs (ρ k) p o l t z c
 | .pt k p t=> .pt (ρ k) p t
 | .st w l=> .st w (aO ρ l)
 | .ar z n l=> .ar z n (aO ρ l)
 | .tup l=> .tup (aO ρ l)
 | .sl z l c=> .sl z (aO ρ l) c
 | .fp z l p=> .fp z (aO ρ l) p
 | .fn f x y=> .fn f (aO ρ x) (aO ρ y)
 | .gd b p=> .gd b (az ρ p)
 | .ifc t p=> .ifc t (az ρ p)
 |p=>p
def aO (ρ:Nat->Nat):List PV->List PV
 |[]=>[]
 |p::l=>az ρ p::aO ρ l
end
theorem oG (ρ:Nat->Nat) (p:PV):(az ρ p).width=p.width:=by cases p<;>simp[az,PV.width]
theorem wv (ρ:Nat->Nat) (p:PV):(az ρ p).isAgg=p.isAgg:=by cases p<;>simp[az,PV.isAgg]
theorem mh (ρ:Nat->Nat) (l:List PV):(aO ρ l).length=l.length:=by induction l<;>simp[aO, *]
theorem qB {ρ:Nat->Nat} {l:List PV} {q:PV} (h:q∈aO ρ l):∃p∈l,q=az ρ p:=by
 induction l with
 |nil=>simp[aO]at h
 |
  cons x l ih=>
  simp only[aO,cJ]at h
  rcases h with h|h
  ·exact⟨x,by simp,h⟩
  ·obtain⟨p,hp,e⟩:=ih h;exact⟨p,by simp[hp],e⟩
mutual
theorem zj {ρ:Nat->Nat} {f:Nat->Bool} (h:∀k,f k=true->ρ k=k):∀p,ab f p=true->az ρ p=p
 | .rs k _ _ _ _ _ _,hp=>by simp only[ab]at hp;simp[az,h k hp]
 | .pt k _ _,hp=>by simp only[ab]at hp;simp[az,h k hp]
 | .st _ l,hp=>by simp only[ab]at hp;simp[az,nF h l hp]
 | .ar _ _ l,hp=>by simp only[ab]at hp;simp[az,nF h l hp]
 | .tup l,hp=>by simp only[ab]at hp;simp[az,nF h l hp]
 | .sl _ l _,hp=>by simp only[ab]at hp;simp[az,nF h l hp]
 | .fp _ l _,hp=>by simp only[ab]at hp;simp[az,nF h l hp]
 | .fn _ x y,hp=>by simp only[ab,aJ]at hp;simp[az,nF h x hp.1,nF h y hp.2]
 | .gd _ p,hp=>by simp only[ab]at hp;simp[az,zj h p hp]
 | .ifc _ p,hp=>by simp only[ab]at hp;simp[az,zj h p hp]
 | .un,_=>by simp[az]
 | .bl _,_=>by simp[az]
 | .int _ _,_=>by simp[az]
 | .str _,_=>by simp[az]
 | .np,_=>by simp[az]
 | .nf,_=>by simp[az]
 | .ni,_=>by simp[az]
 | .mp ..,_=>by simp[az]
theorem nF {ρ:Nat->Nat} {f:Nat->Bool} (h:∀k,f k=true->ρ k=k):∀l,ae f l=true->aO ρ l=l
 |[],_=>rfl
 |p::l,hp=>by simp only[ae,aJ]at hp;simp[aO,zj h p hp.1,nF h l hp.2]
end
structure wA (f:Nat->Bool) (ρ:Nat->Nat) (Γ Δ:Cx):Prop where
 heap:Δ.heap=Γ.heap
 own:∀b,b<Γ.heap.size->¬Γ.own b->¬Δ.own b
 ref:∀k blk,f k=true->get Γ.bx k=some blk->∃b8,get Δ.bx (ρ k)=some b8∧b8.aK=blk.aK∧Δ.ι (ρ k)=Γ.ι k
theorem jo.az {Δ:Cx} {k k' off len sz:Nat} {p:List Step} {c:iC} {ad:Option Addr} {bt:Nat} (h:jo Γ k p off len sz c ad bt) (hι:Δ.ι k'=Γ.ι k) (hh:Δ.heap=Γ.heap):jo Δ k' p off len sz c ad bt:=by
 unfold jo at*
 rw[hι,hh];exact h
theorem aD.az {f:Nat->Bool} {ρ:Nat->Nat} {Δ:Cx} (hs:wA f ρ Γ Δ) {l:List PV} {cs:List Value} (h:aD Γ l cs):ae f l=true->aD Δ (aO ρ l) cs:=by
 induction h with
 |nil=>intro _;exact .nil
 |un h hr ih=>intro hf;simp only[ae,aJ]at hf;exact .un h (ih hf.2)
 |bl x hr ih=>intro hf;simp only[ae,aJ]at hf;exact .bl x (ih hf.2)
 |int k n hr ih=>intro hf;simp only[ae,aJ]at hf;exact .int k n (ih hf.2)
 |str l s h hr ih=>intro hf;simp only[ae,aJ]at hf;exact .str l s h (ih hf.2)
 |st w l hl hw hr ihl ih=>intro hf;simp only[ae,ab,aJ]at hf;exact .st w _ (ihl hf.1) hw (ih hf.2)
 |
  ar sz n l hl hn hw hr ihl ih=>
  intro hf;simp only[ae,ab,aJ]at hf
  refine .ar sz n _ (ihl hf.1) (by rw[mh];exact hn) (λx hx=> ?_) (ih hf.2)
  obtain⟨p,hp,rfl⟩:=qB hx
  rw[oG];exact hw p hp
 |
  sl sz l clip ad bt hl hw hc hk hb hr ihl ih=>
  intro hf;simp only[ae,ab,aJ]at hf
  have:=aD.sl (Γ:=Δ) sz (aO ρ l) clip ad bt (ihl hf.1) (λx hx=>by obtain⟨p,hp,rfl⟩:=qB hx;rw[oG];exact hw p hp) (by rw[mh];exact hc) (by rw[mh];exact hk)
   (λdF=>by
    obtain⟨b,o,h1,h2,h3,h4⟩:=hb (by intro h;subst h;simp[aO]at dF)
    exact⟨b,o,h1,by rw[hs.heap];exact h2,hs.own b h2 h3,by rw[hs.heap];exact h4⟩) (ih hf.2)
  rw[mh]at this
  exact this
 |
  rs k p off len aK sz c v blk hg h1 hv hr ih=>
  intro hf;simp only[ae,ab,aJ]at hf
  obtain⟨b8,g1,g2,g3⟩:=hs.ref k blk hf.1 hg.1
  refine .rs (ρ k) p off len aK sz c v b8 ⟨g1,by rw[g2];exact hg.2⟩ h1 (λht=> ?_) (ih hf.2)
  obtain⟨ad,bt,e1,e2⟩:=hv (by rw[ht,g2])
  exact⟨ad,bt,e1,e2.az g3 hs.heap⟩
 |np hr ih=>intro hf;simp only[ae,aJ]at hf;exact .np (ih hf.2)
 |
  pt k p aK v blk hg h1 hv hr ih=>
  intro hf;simp only[ae,ab,aJ]at hf
  obtain⟨b8,g1,g2,g3⟩:=hs.ref k blk hf.1 hg.1
  refine .pt (ρ k) p aK v b8 ⟨g1,by rw[g2];exact hg.2⟩ h1 (λht=> ?_) (ih hf.2)
  obtain⟨b,e1,e2⟩:=hv (by rw[ht,g2])
  exact⟨b,by rw[g3,e1],e2⟩
 |
  fp sz l p b o hl hw hm hc hr ihl ih=>
  intro hf;simp only[ae,ab,aJ]at hf
  exact .fp sz _ p b o (ihl hf.1) (λx hx=>by obtain⟨p,hp,rfl⟩:=qB hx;rw[oG];exact hw p hp) ⟨by rw[hs.heap];exact hm.1,hs.own b hm.1 hm.2⟩ (by rw[hs.heap];exact hc) (ih hf.2)
 |
  fn g first cap h1 h2 h3 h4 hr i1 i2 ih=>
  intro hf;simp only[ae,ab,aJ]at hf
  exact .fn g _ _ (i1 hf.1.1) (i2 hf.1.2) (λx hx=>by obtain⟨p,hp,rfl⟩:=qB hx;rw[wv];exact h3 p hp) (λx hx=>by obtain⟨p,hp,rfl⟩:=qB hx;rw[wv];exact h4 p hp) (ih hf.2)
 |nf hr ih=>intro hf;simp only[ae,aJ]at hf;exact .nf (ih hf.2)
 |
  ifc t v h1 h2 hr i1 ih=>
  intro hf;simp only[ae,ab,aJ]at hf
  have:=i1 (by simp[ae,hf.1])
  simp only[aO]at this
  exact .ifc t _ this (by rw[wv];exact h2) (ih hf.2)
 |ni hr ih=>intro hf;simp only[ae,aJ]at hf;exact .ni (ih hf.2)
 |mp k b hr ih=>intro hf;simp only[ae,aJ]at hf;exact .mp k b (ih hf.2)
theorem aD.bE {f:Nat->Bool} {ρ:Nat->Nat} {Δ:Cx} (hs:wA f ρ Γ Δ) {p:PV} {cs:List Value} (h:aD Γ [p] cs) (hf:ab f p=true):aD Δ [Ab.az ρ p] cs:=by
 have:=h.az hs (by simp[ae,hf])
 simpa only[aO]using this
theorem kr.az {f:Nat->Bool} {ρ:Nat->Nat} {Δ:Cx} (hs:wA f ρ Γ Δ) {p:PV} {v:Value} (h:kr Γ p v) (hf:ab f p=true):kr Δ (Ab.az ρ p) v:=by
 cases p
 case un=>trivial
 case st w l=>obtain⟨cs,h1,h2⟩:=h;exact⟨cs,h1,h2.bE hs hf⟩
 case ar sz n l=>obtain⟨cs,h1,h2⟩:=h;exact⟨cs,h1,h2.bE hs hf⟩
 all_goals exact aD.bE hs h hf
theorem aN.az {f:Nat->Bool} {ρ:Nat->Nat} {Δ:Cx} (hs:wA f ρ Γ Δ):∀ {p:PV} {v:Value},aN Γ p v->ab f p=true->aN Δ (Ab.az ρ p) v:=by
 have h2:∀ {l:List PV} {vs:List Value},kS Γ l vs->ae f l=true->kS Δ (aO ρ l) vs:=by
  intro l
  induction l with
  |nil=>intro vs h hf;cases vs<;>simp_all [kS,aO]
  |
   cons p l ih=>
   intro vs h hf
   simp only[ae,aJ]at hf
   cases vs with
   |nil=>simp[kS]at h
   |cons v vs=>simp only[kS,aO]at h⊢;exact⟨h.1.az hs hf.1,ih h.2 hf.2⟩
 intro p
 induction p using PV.rec (motive_2:=λ_=>True)with
 |gd b p ih=>intro v h hf;simp only[Ab.az,ab]at hf⊢;rw[aN]at h⊢;exact⟨λhb=>ih (h.1 hb) hf,h.2⟩
 |tup l=>intro v h hf;simp only[aN,Ab.az,ab]at h hf⊢;obtain⟨vs,e,h⟩:=h;exact⟨vs,e,h2 h hf⟩
 |un=>intro v h hf;simp[aN,Ab.az]
 |st w l=>intro v h hf;obtain⟨cs,e,h⟩:=h;exact⟨cs,e,h.bE hs hf⟩
 |ar sz n l=>intro v h hf;obtain⟨cs,e,h⟩:=h;exact⟨cs,e,h.bE hs hf⟩
 |nil=>trivial
 |cons=>trivial
 |_=>intro v h hf;exact aD.bE hs h hf
def aM (ρ:Nat->Nat):br->br
 | .box v=> .box (Ab.az ρ v)
 | .arr sz l=> .arr sz (aO ρ l)
 | .map b ks vs l=> .map b ks vs l
def ah (f:Nat->Bool):br->Bool
 | .box v=>ab f v
 | .arr _ l=>ae f l
 | .map .. =>true
theorem ke (ρ:Nat->Nat) (b:br):(aM ρ b).aK=b.aK:=by cases b<;>simp[aM,br.aK,mh]
theorem br.xv.az {f:Nat->Bool} {ρ:Nat->Nat} {Δ:Cx} (hs:wA f ρ Γ Δ) {blk:br} {ob:Option Nat} (h:blk.xv Γ ob) (hf:ah f blk=true):(aM ρ blk).xv Δ ob:=by
 cases blk with
 |
  box v=>
  obtain⟨b,c,e,h1,h2,h3⟩:=h
  exact⟨b,c,e,h1,by rw[hs.heap];exact h2,h3.bE hs hf⟩
 |
  arr sz l=>
  obtain⟨h1,h2,h3⟩:=h
  refine⟨λx hx=>by obtain⟨p,hp,rfl⟩:=qB hx;rw[oG];exact h1 p hp,h2,?_⟩
  cases ob with
  |none=>trivial
  |
   some b=>
   obtain⟨c,e,cs,rest,h4,h5,h6,h7⟩:=h3
   exact⟨c,e,cs,rest,by rw[hs.heap];exact h4,h5,h6.az hs hf,h7⟩
 |
  map b ks vs l=>
  obtain⟨h1,h2⟩:=h
  exact⟨h1,by rw[hs.heap];exact h2⟩
end Go.Ab
namespace Go.Ab
variable [eo]
variable {P:Program} {nt:Nat} {ds:List Deferred} {s:St} {Γ:Cx} {a:Act} {w:World}
def KB:Nat:=9000
def aG:Nat->List br->List (Nat×br)
 |_,[]=>[]
 |i,b::r=>(KB+i,b)::aG (i+1) r
theorem BM (B:Nat):∀(l:List br) (i k:Nat),get ((l.zipIdx i).map λx=>(B+x.2,x.1)) k=if B+i≤k then l[k-B-i]?else none
 |[],i,k=>by simp[get]
 |
  b::l,i,k=>by
  have ih:=BM B l (i+1) k
  rw[List.zipIdx_cons,List.map_cons]
  unfold get
  rw[ih]
  by_cases h:B+i=k
  ·rw[if_pos h,if_pos (by omega),show k-B-i=0 by omega];rfl
  ·rw[if_neg h]
   by_cases h2:B+i≤k
   ·rw[if_pos h2,if_pos (by omega),show k-B-i=(k-B-(i+1))+1 by omega,List.getElem?_cons_succ]
   ·rw[if_neg h2,if_neg (by omega)]
theorem Ht:∀(l:List br) (i:Nat),aG i l=(l.zipIdx i).map λx=>(KB+x.2,x.1)
 |[],i=>rfl
 |b::l,i=>by rw[aG,Ht l (i+1),List.zipIdx_cons,List.map_cons]
theorem ig (l:List br) (i k:Nat):get (aG i l) k=if KB+i≤k then l[k-KB-i]?else none:=by
 rw[Ht];exact BM KB l i k
def gp (Γ:Cx):List PV->List Value->Prop
 |[],[]=>True
 |p::ps,v::vs=>aN Γ p v∧gp Γ ps vs
 |_,_=>False
def BN (P:Program) (f:FuncId) (vs:Array Value) (w:World) (Q:Ending->World->Prop):Prop:=
 ((callFunc f vs).run P w= .ok (.enter f vs) w∧Calls P f vs w Q)∨∃v w',(callFunc f vs).run P w= .ok (.value v) w'∧Q (.returned v) w'
theorem BN.mono {f:FuncId} {vs:Array Value} {w:World} {Q Q':Ending->World->Prop} (h:BN P f vs w Q) (hq:∀e w',Q e w'->Q' e w'):BN P f vs w Q':=by
 rcases h with⟨h1,h2⟩|⟨v,w',h1,h2⟩
 ·exact .inl ⟨h1,h2.mono hq⟩
 ·exact .inr ⟨v,w',h1,hq _ _ h2⟩
theorem BN.calls {f:FuncId} {vs:Array Value} {w:World} {Q:Ending->World->Prop} (h:BN P f vs w Q) (he:(callFunc f vs).run P w= .ok (.enter f vs) w):Calls P f vs w Q:=by
 rcases h with⟨h1,h2⟩|⟨v,w',h1,h2⟩
 ·exact h2
 ·rw[he]at h1;simp at h1
def af (P:Program) (f:FuncId) (args:List PV) (fp:List br) (R:PV->List br->Prop):Prop:=
 ∀
  (Γ:Cx) (w:World) (vs:List Value),w.heap=Γ.heap->Mem Γ->Γ.bx=aG 0 fp->gp Γ args vs->
  BN P f vs.toArray w (λe w'=>∃v r rR Γ',e= .returned v∧R r rR∧w'.heap=Γ'.heap∧Mem Γ'∧Γ'.bx=aG 0 rR∧aN Γ' r v∧Le Γ Γ'∧WF w w')
theorem af.mono {f:FuncId} {args:List PV} {fp:List br} {R R':PV->List br->Prop} (h:af P f args fp R) (hr:∀r rR,R r rR->R' r rR):af P f args fp R':=by
 intro Γ w vs h1 h2 h3 h4
 refine(h Γ w vs h1 h2 h3 h4).mono ?_
 rintro e w' ⟨v,r,rR,Γ',e1,e2,e3⟩
 exact⟨v,r,rR,Γ',e1,hr _ _ e2,e3⟩
def idx:List Nat->Nat->Option Nat
 |[],_=>none
 |x::r,k=>if x=k then some 0 else match idx r k with|some i=>some (i+1)|none=>none
theorem nG:∀ {l:List Nat} {k i:Nat},idx l k=some i->l[i]? =some k
 |[],k,i,h=>by simp[idx]at h
 |
  x::r,k,i,h=>by
  simp only[idx]at h
  split at h
  ·simp at h;subst_vars;rfl
  ·split at h
   ·rename_i j hj
    simp at h;subst h
    simpa using nG hj
   ·simp at h
theorem zk:∀ {l:List Nat} {k i:Nat},l.Nodup->l[i]? =some k->idx l k=some i
 |[],k,i,_,h=>by simp at h
 |
  x::r,k,i,hn,h=>by
  rw[List.nodup_cons]at hn
  cases i with
  |zero=>simp at h;subst h;simp[idx]
  |
   succ i=>
   simp at h
   have dF:x≠k:=by intro e;subst e;exact hn.1 (List.mem_of_getElem? h)
   simp[idx,dF,zk hn.2 h]
theorem D2 {l:List Nat} {k:Nat} (h:idx l k=none):k∉l:=by
 induction l with
 |nil=>simp
 |
  cons x r ih=>
  simp only[idx]at h
  split at h
  ·simp at h
  ·split at h
   ·simp at h
   ·rename_i dF _ hr
    simp only[cJ,not_or]
    exact⟨λe=>dF e.symm,ih hr⟩
def getAll (bx:List (Nat×br)):List Nat->Option (List br)
 |[]=>some []
 |k::r=>match get bx k,getAll bx r with|some b,some l=>some (b::l)|_,_=>none
theorem fN:∀ {ks:List Nat} {bx:List (Nat×br)} {l:List br},getAll bx ks=some l->l.length=ks.length∧∀(i:Nat) k,ks[i]? =some k->∃b,get bx k=some b∧l[i]? =some b
 |[],bx,l,h=>by simp[getAll]at h;subst h;simp
 |
  k::r,bx,l,h=>by
  simp only[getAll]at h
  split at h
  ·rename_i b l' hb hl
   simp only[sJ]at h;subst h
   obtain⟨h1,h2⟩:=fN hl
   refine⟨by simp[h1],λi j hj=> ?_⟩
   cases i with
   |zero=>simp at hj;subst hj;exact⟨b,hb,rfl⟩
   |succ i=>simp at hj;simpa using h2 i j hj
  ·simp at h
def bB (bx:List (Nat×br)):List Nat->List br->List (Nat×br)
 |k::ks,b::bs=>bB (put bx k b) ks bs
 |_,_=>bx
theorem tP:∀ {ks:List Nat} {bs:List br} {bx:List (Nat×br)} (k:Nat),ks.Nodup->bs.length=ks.length->get (bB bx ks bs) k=match idx ks k with|some i=>bs[i]? |none=>get bx k
 |[],bs,bx,k,_,hl=>by cases bs<;>simp_all [bB,idx]
 |
  x::r,bs,bx,k,hn,hl=>by
  cases bs with
  |nil=>simp at hl
  |
   cons b bs=>
   rw[List.nodup_cons]at hn
   simp only[bB,tP k hn.2 (by simpa using hl),idx]
   by_cases hx:x=k
   ·subst hx
    have:idx r x=none:=by
     cases hi:idx r x with
     |none=>rfl
     |some i=>exact absurd (List.mem_of_getElem? (nG hi)) hn.1
    simp[this,cZ]
   ·rw[if_neg hx]
    cases idx r k with
    |none=>simp[ch _ _ _ _ hx]
    |some i=>simp
def bE (ks:List Nat) (k:Nat):Nat:=match idx ks k with|some i=>KB+i|none=>k
def fu (ks:List Nat) (k:Nat):Nat:=if KB≤k then(ks[k-KB]?).getD k else k
def bS (ks:List Nat) (k:Nat):Bool:=(idx ks k).isSome
def eI (n:Nat) (k:Nat):Bool:=decide (KB≤k∧k<KB+n)
def uQ (P:Program) (s:St) (d:Option Nat) (f:FuncId) (args:List PV) (ks os:List Nat) (K:St->Prop):Prop:=
 ∃
  cm R,getAll s.bx ks=some cm∧(ks++os).Nodup∧(∀o∈os,get s.bx o=none)∧ae (bS ks) args=true∧cm.all (ah (bS ks))=true∧
  af P f (aO (bE ks) args) (cm.map (aM (bE ks))) R∧
  ∀
   r fp,R r fp->(fp.length=(ks++os).length∧ab (eI fp.length) r=true∧fp.all (ah (eI fp.length))=true)∧
   K ({s with bx:=bB s.bx (ks++os) (fp.map (aM (fu (ks++os))))}.put d (az (fu (ks++os)) r))
def Cx.call (Γ:Cx) (ks:List Nat) (cm:List br):Cx:=
 {
  heap:=Γ.heap,ι:=λk=>if KB≤k then(match ks[k-KB]?with|some j=>Γ.ι j|none=>none)else none,
  bx:=aG 0 (cm.map (aM (bE ks))),dU:=λb=>Γ.own b∧¬∃(i:Nat) (k:Nat),ks[i]? =some k∧Γ.ι k=some b}
def Cx.back (Γ Γ':Cx) (all:List Nat) (fp:List br):Cx:=
 {
  heap:=Γ'.heap,ι:=λk=>match idx all k with|some i=>Γ'.ι (KB+i)|none=>Γ.ι k,
  bx:=bB Γ.bx all (fp.map (aM (fu all))),dU:=Γ.dU}
theorem Cx.oH {ks:List Nat} {cm:List br} (hg:getAll Γ.bx ks=some cm):wA (bS ks) (bE ks) Γ (Γ.call ks cm) where
 heap:=rfl
 own b _ hn:=by
  rintro(⟨k,blk,h1,h2⟩|⟨h,_⟩)
  ·simp only[Cx.call]at h2
   split at h2
   ·split at h2
    ·rename_i j hj
     obtain⟨_,fo⟩:=fN hg
     obtain⟨b',g1,_⟩:=fo _ _ hj
     exact hn (.inl ⟨j,b',g1,h2⟩)
    ·simp at h2
   ·simp at h2
  ·exact hn h
 ref k blk hk hb:=by
  obtain⟨i,hi⟩:=Option.isSome_iff_exists.1 hk
  obtain⟨hl,fo⟩:=fN hg
  obtain⟨b',g1,g2⟩:=fo i k (nG hi)
  rw[hb]at g1;cases g1
  refine⟨aM (bE ks) blk,?_,ke _ _,?_⟩
  ·simp only[Cx.call,bE,hi,ig]
   rw[if_pos (by omega)]
   simp[g2]
  ·simp only[Cx.call,bE,hi]
   rw[if_pos (by omega)]
   simp[nG hi]
theorem Cx.mi {ks:List Nat} {cm:List br} (hg:getAll Γ.bx ks=some cm) {b:Nat}:(Γ.call ks cm).iQ b↔∃(i:Nat) (k:Nat),ks[i]? =some k∧Γ.ι k=some b:=by
 obtain⟨hl,fo⟩:=fN hg
 constructor
 ·rintro⟨k,blk,h1,h2⟩
  simp only[Cx.call]at h2
  split at h2
  ·split at h2
   ·rename_i j hj;exact⟨_,j,hj,h2⟩
   ·simp at h2
  ·simp at h2
 ·rintro⟨i,k,h1,h2⟩
  obtain⟨b',g1,g2⟩:=fo i k h1
  refine⟨KB+i,aM (bE ks) b',?_,?_⟩
  ·simp only[Cx.call,ig]
   rw[if_pos (by omega)]
   simp[g2]
  ·simp only[Cx.call]
   rw[if_pos (by omega)]
   simp[h1,h2]
theorem Cx.uR (hm:Mem Γ) {ks:List Nat} {cm:List br} (hg:getAll Γ.bx ks=some cm) (hn:ks.Nodup) (cY:cm.all (ah (bS ks))=true):Mem (Γ.call ks cm) where
 blk k blk hk:=by
  obtain⟨hl,fo⟩:=fN hg
  simp only[Cx.call,ig]at hk
  split at hk
  ·rename_i hle
   rw[List.getElem?_map,mJ]at hk
   obtain⟨b0,Ha,rfl⟩:=hk
   have hi:=(List.getElem?_eq_some_iff.1 Ha).1
   obtain⟨j,hj⟩:∃j,ks[k-KB]? =some j:=⟨_,gJ (by omega)⟩
   obtain⟨b1,g1,g2⟩:=fo _ _ hj
   simp only[Nat.sub_zero]at Ha
   rw[Ha]at g2;cases g2
   have:=(hm.blk j b0 g1).az (Cx.oH hg) (List.all_eq_true.1 cY b0 (List.mem_of_getElem? Ha))
   have e:(Γ.call ks cm).ι k=Γ.ι j:=by simp only[Cx.call];rw[if_pos (by omega),hj]
   rw[e];exact this
  ·simp at hk
 inj i j b hi hj h1 h2:=by
  obtain⟨hl,fo⟩:=fN hg
  simp only[Cx.call]at h1 h2
  split at h1
  ·split at h2
   ·split at h1
    ·rename_i x hx
     split at h2
     ·rename_i y hy
      obtain⟨b1,g1,_⟩:=fo _ _ hx
      obtain⟨b2,g2,_⟩:=fo _ _ hy
      have:=hm.inj x y b (by simp[g1]) (by simp[g2]) h1 h2
      subst this
      have e1:=zk hn hx
      have e2:=zk hn hy
      rw[e1]at e2;simp at e2;omega
     ·simp at h2
    ·simp at h1
   ·simp at h2
  ·simp at h1
 dU b h:=by
  rcases h.1 with h|h
  ·exact hm.lt h
  ·exact hm.dU b h
 apart b h hp:=hp.2 ((Cx.mi hg).1 h)
 uI b cs h:=by
  obtain⟨h1,h2⟩:=hm.uI b cs h
  refine⟨λhb=>h1 ?_,h2⟩
  obtain⟨i,k,g1,g2⟩:=(Cx.mi hg).1 hb
  obtain⟨b',g3,_⟩:=(fN hg).2 i k g1
  exact⟨k,b',g3,g2⟩
theorem tQ (hm:Mem Γ) {Γ':Cx} {ks os:List Nat} {cm fp:List br} (hg:getAll Γ.bx ks=some cm) (hn:(ks++os).Nodup) (Ou:∀o∈os,get Γ.bx o=none)
  (tI:Mem Γ') (lj:Γ'.bx=aG 0 fp) (hle:Le (Γ.call ks cm) Γ') (hlen:fp.length=(ks++os).length) (cY:fp.all (ah (eI fp.length))=true):
  wA (eI fp.length) (fu (ks++os)) Γ' (Γ.back Γ' (ks++os) fp)∧Le Γ (Γ.back Γ' (ks++os) fp)∧Mem (Γ.back Γ' (ks++os) fp):=by
 obtain⟨hl,fo⟩:=fN hg
 have hnk:ks.Nodup:=(List.nodup_append.1 hn).1
 have G8:∀k,get (Γ.back Γ' (ks++os) fp).bx k=match idx (ks++os) k with|some i=>(fp.map (aM (fu (ks++os))))[i]? |none=>get Γ.bx k:=λk=>tP k hn (by simpa using hlen)
 have iA:Γ.heap.size≤Γ'.heap.size:=hle.size
 --a block of a key that is handed over or comes back
 have yu:∀ {k i:Nat},idx (ks++os) k=some i->∃b0,fp[i]? =some b0∧get Γ'.bx (KB+i)=some b0:=by
  intro k i hi
  have eu:=(List.getElem?_eq_some_iff.1 (nG hi)).1
  have:fp[i]? =some (fp[i]'(by omega)):=gJ (by omega)
  exact⟨_,this,by rw[lj,ig,if_pos (by omega)];simpa using this⟩
 have IL:Γ'.dU=(Γ.call ks cm).dU:=hle.dU
 have AZ:∀ {k b:Nat} {blk:br},idx (ks++os) k=none->get Γ.bx k=some blk->Γ.ι k=some b->(Γ.call ks cm).dU b:=by
  intro k b blk hi hb hι
  refine⟨.inl ⟨k,blk,hb,hι⟩,?_⟩
  rintro⟨i,k',h1,h2⟩
  obtain⟨b',g1,_⟩:=fo i k' h1
  have:=hm.inj k k' b (by simp[hb]) (by simp[g1]) hι h2
  subst this
  exact D2 hi (List.mem_append.2 (.inl (List.mem_of_getElem? h1)))
 have same:wA (eI fp.length) (fu (ks++os)) Γ' (Γ.back Γ' (ks++os) fp):=by
  refine⟨rfl,λb hb DG=> ?_,λk blk hk hb=> ?_⟩
  ·rintro(⟨k,blk,h1,h2⟩|h)
   ·rw[G8]at h1
    simp only[Cx.back]at h2
    cases hi:idx (ks++os) k with
    |
     some i=>
     rw[hi]at h2
     obtain⟨b0,_,g2⟩:=yu hi
     exact DG (.inl ⟨_,b0,g2,h2⟩)
    |
     none=>
     rw[hi]at h1 h2
     exact DG (.inr (by rw[IL];exact AZ hi h1 h2))
   ·have h':Γ.dU b:=h
    have hpc:(Γ.call ks cm).dU b:=by
     refine⟨.inr h',?_⟩
     rintro⟨i,k',h1,h2⟩
     obtain⟨b',g1,_⟩:=fo i k' h1
     exact hm.apart b ⟨k',b',g1,h2⟩ h'
    exact DG (.inr (by rw[IL];exact hpc))
  ·simp only[eI,decide_eq_true_eq]at hk
   obtain⟨i,rfl⟩:∃i,k=KB+i:=⟨k-KB,by omega⟩
   have iP:(ks++os)[i]? =some ((ks++os)[i]'(by omega)):=gJ (by omega)
   have hr:fu (ks++os) (KB+i)=(ks++os)[i]'(by omega):=by
    simp only[fu];rw[if_pos (by omega)];simp[iP]
   have aeZ:=zk hn iP
   rw[lj,ig,if_pos (by omega)]at hb
   simp only[Nat.add_sub_cancel_left,Nat.sub_zero]at hb
   refine⟨aM (fu (ks++os)) blk,?_,ke _ _,?_⟩
   ·rw[G8,hr,aeZ];simp[hb]
   ·simp only[Cx.back];rw[hr,aeZ]
 have le:Le Γ (Γ.back Γ' (ks++os) fp):=by
  refine⟨λb hb DG=> ?_,λb hb h=> ?_,rfl,iA,λk blk hk=> ?_⟩
  ·refine hle.heap b hb (λh=>DG ?_)
   obtain⟨i,k,h1,h2⟩:=(Cx.mi hg).1 h
   obtain⟨b',g1,_⟩:=fo i k h1
   exact⟨k,b',g1,h2⟩
  ·obtain⟨k,blk,h1,h2⟩:=h
   rw[G8]at h1
   simp only[Cx.back]at h2
   cases hi:idx (ks++os) k with
   |
    some i=>
    rw[hi]at h2
    obtain⟨b0,_,g2⟩:=yu hi
    obtain⟨i',k',g3,g4⟩:=(Cx.mi hg).1 (hle.iQ b hb ⟨_,b0,g2,h2⟩)
    obtain⟨b',g1,_⟩:=fo i' k' g3
    exact⟨k',b',g1,g4⟩
   |
    none=>
    rw[hi]at h1 h2
    exact⟨k,blk,h1,h2⟩
  ·cases hi:idx (ks++os) k with
   |
    some i=>
    obtain⟨b0,g1,g2⟩:=yu hi
    have FX:=nG hi
    have iP:ks[i]? =some k:=by
     rw[List.getElem?_append]at FX
     split at FX
     ·exact FX
     ·rw[Ou k (List.mem_of_getElem? FX)]at hk;simp at hk
    obtain⟨b1,g3,g4⟩:=fo i k iP
    rw[hk]at g3;cases g3
    have hce:get (Γ.call ks cm).bx (KB+i)=some (aM (bE ks) blk):=by
     simp only[Cx.call,ig];rw[if_pos (by omega)];simp[g4]
    have hcι:(Γ.call ks cm).ι (KB+i)=Γ.ι k:=by
     simp only[Cx.call];rw[if_pos (by omega)];simp[iP]
    obtain⟨b2,g5,g6,g7⟩:=hle.ref _ _ hce
    rw[g2]at g5;cases g5
    refine⟨aM (fu (ks++os)) b0,by rw[G8,hi];simp[g1],by rw[ke];rw[ke]at g6;exact g6,λht=> ?_⟩
    rw[ke]at ht g7
    obtain⟨g8,g9⟩:=g7 ht
    rw[hcι]at g8 g9
    refine⟨by simp only[Cx.back];rw[hi];exact g8,g9⟩
   |
    none=>
    refine⟨blk,by rw[G8,hi];exact hk,Nat.le_refl _,λ_=>⟨by simp only[Cx.back];rw[hi],λb hb cs e hc=>⟨cs,?_,rfl⟩⟩⟩
    have hp:=AZ hi hk hb
    rw[←hc]
    refine hle.heap b (cH hc) (λh=>hp.2 ((Cx.mi hg).1 h))
 refine⟨same,le,⟨λk blk hk=> ?_,λi j b hi hj h1 h2=> ?_,λb h=>Nat.lt_of_lt_of_le (hm.dU b h) iA,λb h hp=>hm.apart b (le.iQ b (hm.dU b hp) h) hp,hm.ns le⟩⟩
 ·rw[G8]at hk
  cases hi:idx (ks++os) k with
  |
   some i=>
   rw[hi]at hk
   obtain⟨b0,g1,g2⟩:=yu hi
   simp only[List.getElem?_map,g1,Option.map_some,sJ]at hk
   subst hk
   have:=(tI.blk _ _ g2).az same (List.all_eq_true.1 cY b0 (List.mem_of_getElem? g1))
   have e:(Γ.back Γ' (ks++os) fp).ι k=Γ'.ι (KB+i):=by simp only[Cx.back];rw[hi]
   rw[e];exact this
  |
   none=>
   rw[hi]at hk
   have e:(Γ.back Γ' (ks++os) fp).ι k=Γ.ι k:=by simp only[Cx.back];rw[hi]
   rw[e]
   have hb:=hm.blk k blk hk
   refine hb.mono le (λb BC=> ?_)
   have hp:=AZ hi hk BC
   rw[BC]at hb
   exact hle.heap b hb.lt (λh=>hp.2 ((Cx.mi hg).1 h))
 ·rw[G8]at hi hj
  simp only[Cx.back]at h1 h2
  cases e1:idx (ks++os) i with
  |
   some x=>
   rw[e1]at h1
   obtain⟨b0,_,g2⟩:=yu e1
   cases e2:idx (ks++os) j with
   |
    some y=>
    rw[e2]at h2
    obtain⟨b1,_,g3⟩:=yu e2
    have:=tI.inj _ _ b (by simp[g2]) (by simp[g3]) h1 h2
    have Hb:x=y:=by omega
    subst Hb
    have:=nG e1
    rw[nG e2]at this
    exact(Option.some.inj this).symm
   |
    none=>
    rw[e2]at hj h2
    obtain⟨b1,IM⟩:=Option.isSome_iff_exists.1 hj
    have hp:=AZ e2 IM h2
    rw[←IL]at hp
    exact absurd hp (tI.apart b ⟨_,b0,g2,h1⟩)
  |
   none=>
   rw[e1]at hi h1
   obtain⟨b0,Ha⟩:=Option.isSome_iff_exists.1 hi
   cases e2:idx (ks++os) j with
   |
    some y=>
    rw[e2]at h2
    obtain⟨b1,_,g3⟩:=yu e2
    have hp:=AZ e1 Ha h1
    rw[←IL]at hp
    exact absurd hp (tI.apart b ⟨_,b1,g3,h2⟩)
   |
    none=>
    rw[e2]at hj h2
    exact hm.inj i j b (by simpa[Ha]using hi) hj h1 h2
end Go.Ab
namespace Go.Ab
variable [eo]
variable {P:Program} {nt:Nat} {ds:List Deferred} {s:St} {Γ:Cx} {a:Act} {w:World} {l:Nat} {o:Obj}
abbrev FW (ro:Option Nat):Fence:= {Fence.wide with round:=ro}
theorem KS {ro:Option Nat} {f:FuncId} {args:Array Value} {R:Ending->World->Prop} (h:Calls P f args w R):CallsIn (FW ro) 0 P f args w R:=
 (callsIn_wide (n:=0)).2 h
theorem I8 {ro:Option Nat} {f:FuncId} {args:Array Value} {R:Ending->World->Prop} (h:CallsIn (FW ro) 0 P f args w R):Calls P f args w R:=
 (callsIn_wide (n:=0)).1 h
def Sc:Obj->Bool
 | .cells .. | .map .. =>true
 |_=>false
def Cx.obj (Γ:Cx) (l:Nat) (o:Obj):Cx:= {Γ with heap:=Γ.heap.setIfInBounds l o}
def Cx.jb (Γ:Cx) (l:Nat):Prop:=∃x,Γ.heap[l]? =some x∧Sc x=false
theorem jN {b:Nat} (h:b≠l):(Γ.obj l o).heap[b]? =Γ.heap[b]? :=by simp[Cx.obj,Array.getElem?_setIfInBounds_ne (Ne.symm h)]
theorem uS (h:l<Γ.heap.size):(Γ.obj l o).heap[l]? =some o:=by simp[Cx.obj,h]
theorem nO:(Γ.obj l o).heap.size=Γ.heap.size:=by simp[Cx.obj]
theorem Cx.jb.lt (h:Γ.jb l):l<Γ.heap.size:=by obtain⟨x,hx,_⟩:=h;exact cH hx
theorem Cx.jb.ne' (h:Γ.jb l) {b:Nat} {x:Obj} (hb:Γ.heap[b]? =some x) (hx:Sc x=true):b≠l:=by
 rintro rfl
 obtain⟨y,hy,hc⟩:=h
 rw[hb]at hy;cases hy;rw[hx]at hc;simp at hc
theorem Cx.jb.ne (h:Γ.jb l) {b:Nat} {c:Array Value} {e:TypeId} {z:Nat×Nat} (hb:Γ.heap[b]? =some (.cells c e z)):b≠l:=h.ne' hb rfl
theorem zl (hm:Mem Γ) {b:Nat} (h:Γ.iQ b):∃x,Γ.heap[b]? =some x∧Sc x=true:=by
 obtain⟨k,blk,h1,h2⟩:=h
 have:=hm.blk k blk h1
 rw[h2]at this
 cases blk with
 |box v=>obtain⟨b',c,e,e1,e2,_⟩:=this;cases e1;exact⟨_,e2,rfl⟩
 |arr sz l=>obtain⟨_,_,c,e,cs,rest,e2,_⟩:=this;exact⟨_,e2,rfl⟩
 |map b0 ks vs l=>obtain⟨e1,es,clock,e2,_⟩:=this;cases e1;exact⟨_,e2,rfl⟩
theorem zm (hm:Mem Γ) (h:Γ.jb l):¬Γ.iQ l:=by
 intro hb
 obtain⟨x,hx,hc⟩:=zl hm hb
 exact h.ne' hx hc rfl
theorem Hu (h:Γ.jb l):Kz Γ (Γ.obj l o) where
 cell b i c _ _ hc:=by
  have hb:b≠l:=by
   rintro rfl
   obtain⟨x,hx,hp⟩:=h
   unfold Ab.cell at hc
   rw[hx]at hc
   cases x<;>simp_all [Sc]
  unfold Ab.cell at hc⊢
  rw[jN hb];exact hc
 own b _ ho:=ho
 size:=by rw[nO];exact Nat.le_refl _
 ref k blk hk:=⟨blk,hk,Nat.le_refl _,λ_=>⟨rfl,λb _ cs e hc=>⟨cs,by rw[jN (h.ne hc)];exact hc,rfl⟩⟩⟩
theorem yB (hm:Mem Γ) (h:Γ.jb l):Mem (Γ.obj l o) where
 blk k blk hk:=(hm.blk k blk hk).oh (Hu h) λb hb=>by
  obtain⟨x,hx,hc⟩:=zl hm ⟨k,blk,hk,hb⟩
  exact jN (h.ne' hx hc)
 inj:=hm.inj
 dU b hb:=by rw[nO];exact hm.dU b hb
 apart:=hm.apart
 uI b cs hb:=by
  obtain⟨h1,e,x,h2⟩:=hm.uI b cs hb
  exact⟨h1,e,x,by rw[jN (h.ne h2)];exact h2⟩
theorem BO (h:Γ.jb l) (ho:Sc o=false):(Γ.obj l o).jb l:=⟨o,uS h.lt,ho⟩
theorem Le.plain {A B:Cx} (h:Le A B) (hm:Mem A) {x:Obj} (hx:A.heap[l]? =some x) (hc:Sc x=false):B.heap[l]? =some x:=by
 rw[h.heap l (cH hx) (zm hm ⟨x,hx,hc⟩)];exact hx
theorem xA {A B:Cx} (h:Le A B) (hm:Mem A) (ha:A.jb l) (ho:Sc o=false):Le (A.obj l o) (B.obj l o) where
 heap b hb hn:=by
  rw[nO]at hb
  by_cases e:b=l
  ·subst e;rw[uS hb,uS (Nat.lt_of_lt_of_le hb h.size)]
  ·rw[jN e,jN e];exact h.heap b hb hn
 iQ b hb hn:=by rw[nO]at hb;exact h.iQ b hb hn
 dU:=h.dU
 size:=by rw[nO,nO];exact h.size
 ref k blk hk:=by
  obtain⟨b8,h1,h2,h3⟩:=h.ref k blk hk
  refine⟨b8,h1,h2,λht=>⟨(h3 ht).1,λb hb cs e hc=> ?_⟩⟩
  have dF:b≠l:=(BO ha ho).ne hc
  rw[jN dF]at hc⊢
  exact(h3 ht).2 b hb cs e hc
theorem uT {A B:Cx} (h:Le A B) (hl:A.heap.size≤l) (hb:B.jb l):Le A (B.obj l o) where
 heap b eu hn:=by rw[jN (by omega)];exact h.heap b eu hn
 iQ b eu hn:=h.iQ b eu hn
 dU:=h.dU
 size:=by rw[nO];exact h.size
 ref k blk hk:=by
  obtain⟨b8,h1,h2,h3⟩:=h.ref k blk hk
  refine⟨b8,h1,h2,λht=>⟨(h3 ht).1,λb A6 cs e hc=> ?_⟩⟩
  obtain⟨Cn,h4,h5⟩:=(h3 ht).2 b A6 cs e hc
  exact⟨Cn,by rw[jN (hb.ne h4)];exact h4,h5⟩
theorem KT {o':Obj} (h:Γ.heap[l]? =some o):(Γ.obj l o').obj l o=Γ:=by
 have eu:=cH h
 have:(Γ.heap.setIfInBounds l o').setIfInBounds l o=Γ.heap:=by
  apply Array.ext
  ·simp
  ·intro i h1 h2
   rw[Array.getElem_setIfInBounds (by simpa using h2)]
   split
   ·subst_vars;exact((Array.getElem?_eq_some_iff.1 h).2).symm
   ·rename_i dF
    rw[Array.getElem_setIfInBounds h2,if_neg dF]
 simp only[Cx.obj,this]
theorem iz.obj (hs:iz nt ds s Γ a) (h:Γ.jb l):iz nt ds s (Γ.obj l o) a:=
 ⟨hs.bx,hs.size,hs.defers,λk p hk=>(hs.env k p hk).oh (Hu h),yB hs.mem h⟩
theorem uU (h:w.heap=Γ.heap):(w.putObj l o).heap=(Γ.obj l o).heap:=by simp[World.putObj,Cx.obj,h]
theorem WF.obj (w:World) (l:Nat) (o:Obj):WF w (w.putObj l o):=⟨rfl,rfl,rfl⟩
theorem WF.alloc (w:World) (o:Obj):WF w (w.alloc o):=⟨rfl,rfl,rfl⟩
def mj (B:Nat) (Γ:Cx) (ds:List Deferred):Prop:=
 ∃Ds:List Nat,ds=Ds.map (λD=> {target:= .collected D,args:= #[]})∧Ds.Nodup∧∀D∈Ds,B≤D∧Γ.heap[D]? =some (.deferred (some []))
theorem mj.nil {B:Nat}:mj B Γ []:=⟨[],rfl,.nil,by simp⟩
theorem mj.le {B:Nat} {Γ':Cx} (h:mj B Γ ds) (hm:Mem Γ) (hle:Le Γ Γ'):mj B Γ' ds:=by
 obtain⟨Ds,h1,h2,h3⟩:=h
 exact⟨Ds,h1,h2,λD hD=>⟨(h3 D hD).1,hle.plain hm (h3 D hD).2 rfl⟩⟩
theorem mj.heap {B:Nat} {Γ':Cx} (h:mj B Γ ds) (he:Γ'.heap=Γ.heap):mj B Γ' ds:=by
 obtain⟨Ds,h1,h2,h3⟩:=h
 exact⟨Ds,h1,h2,λD hD=>⟨(h3 D hD).1,by rw[he];exact(h3 D hD).2⟩⟩
def eX (n:Nat):List Nat:=(List.range n).map (KB+·)
def KU (P:Program) (l:Nat) (Γc:Cx) (args:List PV) (fp:List br) (R:List br->Prop):Prop:=
 ∀
  (Γ:Cx) (w:World) (vs:List Value),w.heap=Γ.heap->Mem Γ->Γ.bx=aG 0 fp->gp Γ args vs->Kz Γc Γ->Γ.heap[l]? =Γc.heap[l]? ->
  YieldAt (FW none) 0 P l vs.toArray w (λe w'=>∃rR Γ',e= .returned (.bool true)∧R rR∧w'.heap=Γ'.heap∧Mem Γ'∧Γ'.bx=aG 0 rR∧Le Γ Γ'∧WF w w')
class gK where
 n:Nat
 spec:Nat->List PV->List br->(List br->Prop)->Prop
instance noY:gK:=⟨0,λ_ _ _ _=>False⟩
def zn [Y:gK] (P:Program) (Γ:Cx):Prop:=∀l args fp R,Y.spec l args fp R->
 ∃Γ0 rec,Le Γ0 Γ∧(∀k blk,get Γ0.bx k=some blk->KB≤k∧k<KB+Y.n)∧Γ0.heap[l]? =some (.loop rec)∧Mem Γ0∧KU P l Γ0 args fp R
theorem zn.le [gK] {Γ':Cx} (h:zn P Γ) (hle:Le Γ Γ'):zn P Γ':=λl args fp R hs=>by
 obtain⟨Γ0,rec,h1,h2⟩:=h l args fp R hs
 exact⟨Γ0,rec,h1.trans hle,h2⟩
theorem zn.no: @zn _ noY P Γ:=λ_ _ _ _ h=>h.elim
def F4 [Y:gK] (s:St) (d:Option Nat) (l:Nat) (args:List PV) (K:St->Prop):Prop:=
 ∃
  cm R,getAll s.bx (eX Y.n)=some cm∧ae (eI Y.n) args=true∧cm.all (ah (eI Y.n))=true∧Y.spec l args cm R∧
  ∀fp,R fp->(fp.length=Y.n∧fp.all (ah (eI Y.n))=true)∧K ({s with bx:=bB s.bx (eX Y.n) fp}.put d (.bl true))
theorem ov (n:Nat):(eX n).Nodup:=by
 unfold eX
 exact List.Pairwise.map _ (λa b h=>by simp only[ne_eq];omega) List.nodup_range
theorem wB {n i k:Nat}:(eX n)[i]? =some k↔i<n∧k=KB+i:=by
 unfold eX
 simp only[List.getElem?_map,mJ]
 constructor
 ·rintro⟨x,h1,h2⟩
  obtain⟨h3,h4⟩:=List.getElem?_eq_some_iff.1 h1
  simp at h3 h4;subst h4
  exact⟨h3,h2.symm⟩
 ·rintro⟨h1,rfl⟩
  exact⟨i,by simp[h1],rfl⟩
theorem zo {n k:Nat}:idx (eX n) k=if KB≤k∧k<KB+n then some (k-KB)else none:=by
 split
 ·rename_i h
  exact zk (ov n) (wB.2 ⟨by omega,by omega⟩)
 ·rename_i h
  cases hi:idx (eX n) k with
  |none=>rfl
  |some i=>exact absurd (wB.1 (nG hi)) (by omega)
theorem pJ (n:Nat):bS (eX n)=eI n:=by
 funext k
 simp only[bS,zo,eI]
 split<;>simp_all
theorem pK {n k:Nat}:bE (eX n) k=k:=by
 unfold bE
 rw[zo]
 split
 ·rename_i i h
  split at h<;>simp at h
  omega
 ·rfl
mutual
theorem uV {ρ:Nat->Nat} (h:∀k,ρ k=k):∀p,az ρ p=p
 | .rs k _ _ _ _ _ _=>by simp[az,h]
 | .pt k _ _=>by simp[az,h]
 | .st _ l=>by simp[az,kh h l]
 | .ar _ _ l=>by simp[az,kh h l]
 | .tup l=>by simp[az,kh h l]
 | .sl _ l _=>by simp[az,kh h l]
 | .fp _ l _=>by simp[az,kh h l]
 | .fn _ x y=>by simp[az,kh h x,kh h y]
 | .gd _ p=>by simp[az,uV h p]
 | .ifc _ p=>by simp[az,uV h p]
 | .un| .bl _| .int .. | .str _| .np| .nf| .ni| .mp .. =>by simp[az]
theorem kh {ρ:Nat->Nat} (h:∀k,ρ k=k):∀l,aO ρ l=l
 |[]=>rfl
 |p::l=>by simp[aO,uV h p,kh h l]
end
theorem I9 {ρ:Nat->Nat} (h:∀k,ρ k=k) (b:br):aM ρ b=b:=by
 cases b<;>simp[aM,uV h,kh h]
theorem tS {ρ:Nat->Nat} (h:∀k,ρ k=k) (l:List br):l.map (aM ρ)=l:=by
 induction l<;>simp[I9 h, *]
theorem KV {Γ0:Cx} {n:Nat} {cm:List br} (h0:∀k blk,get Γ0.bx k=some blk->KB≤k∧k<KB+n) (hle:Le Γ0 Γ) (hg:getAll Γ.bx (eX n)=some cm):Kz Γ0 (Γ.call (eX n) cm) where
 cell b i c hb hn hc:=by
  have:=hle.heap b hb λh=>hn (.inl h)
  rw[show(Γ.call (eX n) cm).heap=Γ.heap from rfl,cell_of_heap this];exact hc
 own b hb ho:=by
  have hG:Γ.own b:=by
   rcases ho with ho|ho
   ·obtain⟨i,k,h1,h2⟩:=(Cx.mi hg).1 ho
    obtain⟨_,fo⟩:=fN hg
    obtain⟨b',g1,_⟩:=fo i k h1
    exact .inl ⟨k,b',g1,h2⟩
   ·exact ho.1
  exact hle.own b hb hG
 size:=hle.size
 ref k blk hk:=by
  obtain⟨h1,h2⟩:=h0 k blk hk
  obtain⟨b8,g1,g2,g3⟩:=hle.ref k blk hk
  have hs:=Cx.oH (Γ:=Γ) hg
  obtain⟨akV,e1,e2,e3⟩:=hs.ref k b8 (by rw[pJ];simp[eI,h1,h2]) g1
  rw[pK]at e1 e3
  refine⟨akV,e1,by omega,λht=> ?_⟩
  obtain⟨g4,g5⟩:=g3 (by omega)
  exact⟨by rw[e3,g4],g5⟩
end Go.Ab
namespace Go.Ab
variable [eo]
variable {P:Program} {nt:Nat} {ds:List Deferred} {s:St} {Γ:Cx} {a:Act} {w:World}
theorem aD.aaV {Δ:Cx}:∀ {l:List PV} {cs:List Value},aD Γ l cs->l.all PV.isNum=true->aD Δ l cs
 |_,_,.nil,_=> .nil
 |_,_,.int k n h,hn=> .int k n (aD.aaV h (by simpa[PV.isNum]using hn))
 |_,_,.un _ _,hn=>by simp[PV.isNum]at hn
 |_,_,.bl _ _,hn=>by simp[PV.isNum]at hn
 |_,_,.str _ _ _ _,hn=>by simp[PV.isNum]at hn
 |_,_,.st _ _ _ _ _,hn=>by simp[PV.isNum]at hn
 |_,_,.ar _ _ _ _ _ _ _,hn=>by simp[PV.isNum]at hn
 |_,_,.sl _ _ _ _ _ _ _ _ _ _ _,hn=>by simp[PV.isNum]at hn
 |_,_,.rs _ _ _ _ _ _ _ _ _ _ _ _ _,hn=>by simp[PV.isNum]at hn
 |_,_,.np _,hn=>by simp[PV.isNum]at hn
 |_,_,.pt _ _ _ _ _ _ _ _ _,hn=>by simp[PV.isNum]at hn
 |_,_,.fp _ _ _ _ _ _ _ _ _ _,hn=>by simp[PV.isNum]at hn
 |_,_,.fn _ _ _ _ _ _ _ _,hn=>by simp[PV.isNum]at hn
 |_,_,.nf _,hn=>by simp[PV.isNum]at hn
 |_,_,.ifc _ _ _ _ _,hn=>by simp[PV.isNum]at hn
 |_,_,.ni _,hn=>by simp[PV.isNum]at hn
 |_,_,.mp _ _ _,hn=>by simp[PV.isNum]at hn
def Cx.lit (Γ:Cx) (b:Nat) (o:Obj) (k:Nat) (blk:br):Cx:=
 {heap:=Γ.heap.setIfInBounds b o,ι:=λi=>if i=k then none else Γ.ι i,bx:=put Γ.bx k blk,dU:=Γ.dU}
theorem CK (hm:Mem Γ) {k b:Nat} {blk b8:br} {o o':Obj} (hg:get Γ.bx k=some blk) (hb:Γ.ι k=some b) (ho:Γ.heap[b]? =some o) (ht:blk.aK<b8.aK):Le Γ (Γ.lit b o' k b8) where
 heap b' A6 dF:=by
  have:b≠b':=by intro h;subst h;exact dF ⟨k,blk,hg,hb⟩
  simp only[Cx.lit]
  rw[Array.getElem?_setIfInBounds_ne this]
 iQ b' A6 h:=by
  obtain⟨i,bl,Xu,hi⟩:=h
  simp only[Cx.lit,iD]at Xu hi
  by_cases iP:k=i
  ·subst iP;simp at hi
  ·rw[if_neg iP]at Xu
   rw[if_neg (λe=>iP e.symm)]at hi
   exact⟨i,bl,Xu,hi⟩
 dU:=rfl
 size:=by simp[Cx.lit]
 ref i bl h:=by
  by_cases iP:k=i
  ·subst iP
   rw[hg]at h;cases h
   exact⟨b8,by simp[Cx.lit,cZ],by omega,λe=>by omega⟩
  ·refine⟨bl,by simp only[Cx.lit];rw[ch _ _ _ _ iP];exact h,Nat.le_refl _,λ_=>⟨by simp only[Cx.lit];rw[if_neg (λe=>iP e.symm)],λb2 BC cs e hc=>⟨cs,?_,rfl⟩⟩⟩
   have dF:b≠b2:=by
    intro h';subst h'
    exact iP (hm.inj k i b (by rw[hg];rfl) (by rw[h];rfl) hb BC)
   simp only[Cx.lit]
   rw[Array.getElem?_setIfInBounds_ne dF];exact hc
theorem OK (hm:Mem Γ) {k b:Nat} {blk b8:br} {o o':Obj} (hg:get Γ.bx k=some blk) (hb:Γ.ι k=some b) (ho:Γ.heap[b]? =some o) (ht:blk.aK<b8.aK) (hr:b8.xv (Γ.lit b o' k b8) none):Mem (Γ.lit b o' k b8) where
 blk i bl h:=by
  by_cases iP:k=i
  ·subst iP
   simp only[Cx.lit,cZ,sJ]at h
   subst h
   have:(Γ.lit b o' k b8).ι k=none:=by simp[Cx.lit]
   rw[this];exact hr
  ·simp only[Cx.lit]at h
   rw[ch _ _ _ _ iP]at h
   have h2:=hm.blk i bl h
   have hi:(Γ.lit b o' k b8).ι i=Γ.ι i:=by simp only[Cx.lit];rw[if_neg (λe=>iP e.symm)]
   rw[hi]
   exact h2.mono (CK hm hg hb ho ht) (λb2 BC=>by
    have dF:b≠b2:=by
     intro h';subst h'
     exact iP (hm.inj k i b (by simp[hg]) (by simp[h]) hb BC)
    simp only[Cx.lit];rw[Array.getElem?_setIfInBounds_ne dF])
 inj i j b2 hi hj h1 h2:=by
  simp only[Cx.lit]at h1 h2
  have FX:¬i=k:=by intro e;rw[if_pos e]at h1;cases h1
  have hkj:¬j=k:=by intro e;rw[if_pos e]at h2;cases h2
  rw[if_neg FX]at h1
  rw[if_neg hkj]at h2
  refine hm.inj i j b2 ?_ ?_ h1 h2
  ·simp only[Cx.lit]at hi;rwa [ch _ _ _ _ (λe=>FX e.symm)]at hi
  ·simp only[Cx.lit]at hj;rwa [ch _ _ _ _ (λe=>hkj e.symm)]at hj
 dU b2 h:=by have:=hm.dU b2 h;simpa[Cx.lit]using this
 apart b2 h hp:=hm.apart b2 ((CK hm (o':=o') hg hb ho ht).iQ b2 (hm.dU b2 hp) h) hp
 uI:=hm.ns (CK hm hg hb ho ht)
theorem ye (w:World) (t e e':TypeId) (C:Array Value) (b n c:Nat) (ht:P.underlying t=some (.slice e)) (he:P.underlying e=some (.int .u8)) (hb:w.heap[b]? =some (.cells C e' (0,0))):
  (convert t t (.slice (some ⟨b,0,none⟩) n c)).run P w= .ok (.slice (some ⟨b,0,none⟩) n c) {w with heap:=w.heap.setIfInBounds b (.cells C e' (C.size,C.size+1))}:=by
 have A5:w.shape? b=some (e',C.size):=by unfold World.shape?;rw[hb]
 have sb:w.freeze ⟨b,C.size,none⟩ 1= {w with heap:=w.heap.setIfInBounds b (.cells C e' (C.size,C.size+1))}:=by
  unfold World.freeze
  rw[if_neg (by decide)]
  have:∀f:Obj->Obj,w.heap.modify b f=w.heap.setIfInBounds b (f (.cells C e' (0,0))):=by
   intro f
   apply Array.ext_getElem?
   intro i
   rw[Array.getElem?_modify,Array.getElem?_setIfInBounds]
   by_cases h:b=i
   ·subst h
    rw[hb];simp[cH hb]
   ·simp[h]
  rw[this]
  rfl
 simp[convert,run_underlying ht,run_underlying he,markStringish,A5,sb]
theorem Ja {o:Oper} {t e:TypeId} {x:Operand} {x':AX} {K:St->Prop} (ho:o.op= .convert t t x) (h1:P.underlying t=some (.slice e)) (h3:P.underlying e=some (.int .u8))
  (hx:jG x=some x') (hs:iz nt ds s Γ a) (hw:w.heap=Γ.heap) (hd:∀k,o.dst=some k->k<nt) (he:ex s o.dst (.convL x') K):lK P nt ds o a w Γ K:=by
 simp only[ex]at he
 obtain⟨p,hp,hr⟩:=cy hx hs rfl he
 cases p<;>simp only at hp<;>first|exact hp.elim|skip
 rename_i k pth off len aK sz c
 split at hp
 ·rename_i cR l hg
  obtain⟨⟨rfl,rfl,rfl,rfl,rfl,rfl,rfl,dF,Hc⟩,hK⟩:=hp
  rw[←hs.bx]at hg
  obtain⟨ad,bt,hv,cY⟩:=hr.rs hg rfl
  have Kc:=hs.mem.blk _ _ hg
  unfold jo at cY
  have hlen:0<l.length:=by cases l<;>simp at dF⊢
  cases hι:Γ.ι k with
  |none=>rw[hι]at cY;simp only at cY;omega
  |
   some b=>
   rw[hι]at cY
   simp only at cY
   obtain⟨RV,had,_,akW⟩:=cY
   obtain⟨_,IK,e0,aox,uw⟩:=akW trivial
   have akX:ad=some ⟨b,0,none⟩:=by
    rcases had with h|h
    ·omega
    ·simpa[cG]using h
   subst akX
   simp only[br.xv,hι]at Kc
   obtain⟨ae1,_,C,e1,cs,rest,hC,DE,yV,_⟩:=Kc
   have FC:w.heap[b]? =some (.cells C e1 (0,0)):=by rw[hw];exact hC
   have ht:(br.arr 1 l).aK<(br.arr 1 (l++[.int .u8 0])).aK:=by simp[br.aK]
   have ja:(execOp a.eval o).run P w= .ok (.value (.slice (some ⟨b,0,none⟩) l.length bt)) {w with heap:=w.heap.setIfInBounds b (.cells C e1 (C.size,C.size+1))}:=by
    have e2:execOp a.eval o=(do Pure.pure (Next.value (←convert t t (a.eval x)))):=by unfold execOp;rw[ho]
    rw[e2,bJ,hv,ye w t e e1 C b l.length bt h1 h3 FC];rfl
   have hle:=CK hs.mem (o':= .cells C e1 (C.size,C.size+1)) hg hι hC ht
   have kp:=OK hs.mem (o':= .cells C e1 (C.size,C.size+1)) hg hι hC ht ⟨by
    intro y hy
    rcases List.mem_append.1 hy with h|h
    ·exact ae1 y h
    ·simp at h;subst h;rfl,by omega,trivial⟩
   have g1:=hs.le hle kp (vY:=put s.bx k (.arr 1 (l++[.int .u8 0]))) (by simp[Cx.lit,hs.bx])
   have ae2:¬(Γ.lit b (.cells C e1 (C.size,C.size+1)) k (.arr 1 (l++[.int .u8 0]))).own b:=by
    rintro(⟨i,bl,q1,q2⟩|q)
    ·simp only[Cx.lit]at q1 q2
     by_cases iP:i=k
     ·rw[if_pos iP]at q2;cases q2
     ·rw[if_neg iP]at q2
      rw[ch _ _ _ _ (λe=>iP e.symm)]at q1
      exact iP (hs.mem.inj i k b (by simp[q1]) (by simp[hg]) q2 hι)
    ·exact hs.mem.apart b ⟨k,_,hg,hι⟩ q
   have Ks:aN (Γ.lit b (.cells C e1 (C.size,C.size+1)) k (.arr 1 (l++[.int .u8 0]))) (.sl 1 l false) (.slice (some ⟨b,0,none⟩) l.length bt):=by
    simp only[aN]
    refine .sl 1 l false _ bt (yV.aaV Hc) ae1 RV (by simp) (λ_=>⟨b,0,rfl,by simp[Cx.lit];exact cH hC,ae2,λi c hc=> ?_⟩) .nil
    simp only[cell,Cx.lit,Nat.zero_add]
    rw[uJ (cH hC)]
    simp only
    rw[←Array.getElem?_toList,DE,List.getElem?_append_left (List.getElem?_eq_some_iff.1 hc).1]
    exact hc
   have g2:=g1.put hd Ks
   refine⟨_,_,_,_,_,ja,.inl rfl,g2,by simp[Cx.lit,hw],hle,⟨rfl,rfl,rfl⟩,hK⟩
 ·exact hp.elim
end Go.Ab
namespace Go.Ab
variable [eo]
variable {P:Program} {nt:Nat} {ds:List Deferred} {s:St} {Γ:Cx} {a:Act} {w:World}
theorem D3 {o:Oper} {t u e:TypeId} {kn:IntKind} {i:TypeInfo} {z:Value} {zz:PV} {x y:Operand} {x' y':AX} {K:St->Prop} (ho:o.op= .call {callee:= .builtin .append,args:= #[x,y],argTypes:= #[t,u]})
  (ht:P.underlying t=some (.slice e)) (hu:P.underlying u=some (.int kn)) (hi:P.info? e=some i) (hz:i.zero=some z) (hzz:zeroOf P e=some zz) (T9:z.cells.size=i.size) (kz:0<i.size) (Xw:z.cells.toList.all gq=true)
  (hx:jG x=some x') (hy:jG y=some y') (hs:iz nt ds s Γ a) (hw:w.heap=Γ.heap) (hd:∀k,o.dst=some k->k<nt) (he:ex s o.dst (.appendZ i.size i.bytes zz x' y') K):lK P nt ds o a w Γ K:=by
 simp only[ex]at he
 obtain⟨p,hp,tt⟩:=cy hx hs rfl he
 obtain⟨q,hq,pG⟩:=cy hy hs rfl hp
 obtain⟨kv,m,hm,hA⟩:=gO hq pG
 obtain⟨zv,Oo,T8,AV,_,aoy⟩:=lX (Γ:=Γ) hzz
 have RQ:zz.width=i.size:=by rw[wm hi]at AV;exact(Option.some.inj AV).symm
 have akZ:zv=z:=by
  have h1:=Oo w
  simp only[zeroValue,typeInfo,bJ]at h1
  simp[hi,hz]at h1
  exact h1.symm
 subst akZ
 unfold oO at hA
 split at hA
 ·exact hA.elim
 rename_i k hk
 split at hA
 case h_2=>exact hA.elim
 rename_i k2 len aK cR n
 split at hA
 case h_2=>exact hA.elim
 rename_i sz'' l hg
 obtain⟨⟨j6,h1,h2,h3,hln,akS,Ns,eu,h5,h6⟩,hK⟩:=hA
 subst h1 h2 h3
 have lI:=hg
 rw[←hs.bx]at lI
 obtain⟨ad,bt,hv,cY⟩:=tt.rs lI rfl
 obtain⟨mY,_,lH⟩:=hs.mem.blk k2 _ lI
 have hwt:∀x∈l.take len,x.width=i.size:=λx hx=>mY x (List.mem_of_mem_take hx)
 have FU:(l.take len).length=len:=by rw[lJ];omega
 have Hq:bt=n:=by
  unfold jo at cY
  split at cY
  ·exact cY.2.2
  ·exact cY.2.2.1
 subst Hq
 obtain⟨mn,rfl⟩:∃mn:Nat,m=mn:=⟨m.toNat,by omega⟩
 simp only[Int.toNat_natCast]at eu h5 h6 hK
 --the old cells
 obtain⟨cs,AS,mX⟩:∃cs,aD Γ (l.take len) cs∧(0<len->∃b o,ad=some ⟨b,o,none⟩∧∀j x,cs[j]? =some x->cell Γ.heap b (o+j)=some x):=by
  unfold jo at cY
  cases hι:Γ.ι k2 with
  |
   none=>
   rw[hι]at cY
   obtain⟨rfl,_,_⟩:=cY
   exact⟨[],by simpa using aD.nil,by simp⟩
  |
   some b=>
   rw[hι]at cY lH
   obtain⟨o1,o2,_,_⟩:=cY
   obtain⟨c,ce,cs,rest,h7,h8,h9,FT⟩:=lH
   refine⟨cs.take (len*i.size),h9.D1 mY len (by omega),λhp=> ?_⟩
   rcases o2 with o2|rfl
   ·omega
   refine⟨b,_,rfl,λj x hj=> ?_⟩
   have hb:=mf h7 cs rest h8
   have rK:cs[j]? =some x:=by
    rw[List.getElem?_take]at hj;split at hj
    ·exact hj
    ·cases hj
   simpa[cG]using hb j x rK
 have qV:cs.length=len*i.size:=by rw[AS.length,bF hwt,FU]
 obtain⟨w',cap,r1,r2,r3,r4⟩:=wu (P:=P) (w:=w) (ty:=o.type) (kv:=kv) ht hu hi hz (ad:=ad) (sLen:=len) (sCap:=bt) (n:=mn) (olds:=cs)
  (.inl ⟨ad,bt,rfl,λkz=>by rw[hw];exact mX (by omega)⟩) qV (by omega) kz eu h6 h5
 rw[←hv,←hm]at r1
 have hzl:(Builtin.zeroCells zv.cells mn).toList=(List.replicate mn zv.cells.toList).flatten:=by
  have:=lV zv.cells mn
  simpa[Builtin.zeroCells]using this
 have hrz:=jM T8 mn
 rw[←hzl]at hrz
 exact oP (cap:=cap) (l:=l.take len++List.replicate mn zz) (cs:=cs++(Builtin.zeroCells zv.cells mn).toList) (rest:=(Builtin.zeroCells zv.cells (cap-(len+mn))).toList) hs hw hk (hd k hk) j6 kz (AS.append hrz)
  (λx hx=>(List.mem_append.1 hx).elim (hwt x) (λhx=>by rw[(List.mem_replicate.1 hx).2];exact RQ))
  (by simp only[List.length_append,Array.length_toList,qz,T9,qV,←Nat.add_mul];congr 1;omega)
  (by rw[List.length_append,FU,List.length_replicate];exact r2) (tw (by omega) Xw)
  (by rw[List.length_append,FU,List.length_replicate];exact kF ho r1) r3 r4
  (by rw[List.length_append,FU,List.length_replicate];exact hK)
end Go.Ab
