/- Each acting operation and each call does what its abstract reading says. No condition. -/
import Derived.Test.YtdfkcobijmbidaaGreatA2
import Derived.Laws.Append
import Derived.Laws.IdiomStrings
import Derived.OrdersIn
import Derived.RangeFuncSeq
import Derived.RangeFuncLeaves
import Derived.RangeFuncRecord
set_option linter.all false
namespace Go.Ab
variable [eE]
variable {P:Program} {nt:Nat} {ds:List Deferred} {s:St} {Γ:Cx} {a:Act} {w:World}
structure WF (w w':World):Prop where
 os:w'.os=w.os
 tape:w'.tape=w.tape
 output:w'.output=w.output
theorem WF.refl (w:World):WF w w:=⟨rfl,rfl,rfl⟩
theorem WF.trans {a b c:World} (h:WF a b) (k:WF b c):WF a c:=⟨k.os.trans h.os,k.tape.trans h.tape,k.output.trans h.output⟩
theorem aP.nY {Γ Γ':Cx} (hle:Mj Γ Γ'):∀ {p:PV} {v:Value},aP Γ p v->aP Γ' p v:=by
 have h1:∀ {p:PV} {v:Value},jG Γ p v->jG Γ' p v:=by
  intro p v h
  cases p
  case un=>trivial
  case st w l=>obtain⟨cs,h1,h2⟩:=h;exact⟨cs,h1,h2.nY hle⟩
  case ar sz n l=>obtain⟨cs,h1,h2⟩:=h;exact⟨cs,h1,h2.nY hle⟩
  all_goals exact aF.nY hle h
 have h2:∀ {l:List PV} {vs:List Value},kx Γ l vs->kx Γ' l vs:=by
  intro l
  induction l with
  |nil=>intro vs h;cases vs<;>simp_all [kx]
  |
   cons p l ih=>
   intro vs h
   cases vs with
   |nil=>simp[kx]at h
   |cons v vs=>simp only[kx]at h⊢;exact⟨h1 h.1,ih h.2⟩
 intro p
 induction p using PV.rec (motive_2:=λ_=>True)with
 |gd b p ih=>intro v h;rw[aP]at h⊢;exact⟨λhb=>ih (h.1 hb),h.2⟩
 |tup l=>intro v h;simp only[aP]at h⊢;obtain⟨vs,e,h⟩:=h;exact⟨vs,e,h2 h⟩
 |un=>intro v h;simp[aP]
 |st w l=>intro v h;obtain⟨cs,e,h⟩:=h;exact⟨cs,e,h.nY hle⟩
 |ar sz n l=>intro v h;obtain⟨cs,e,h⟩:=h;exact⟨cs,e,h.nY hle⟩
 |nil=>trivial
 |cons=>trivial
 |_=>intro v h;exact aF.nY hle h
theorem bh.wL.nY {Γ Γ':Cx} (hle:Mj Γ Γ') {ob:Option Nat} {blk:bh} (hh:∀b,ob=some b->Γ'.heap[b]? =Γ.heap[b]?) (h:blk.wL Γ ob):blk.wL Γ' ob:=by
 cases blk with
 |
  box v=>
  obtain⟨b,c,e,h1,h2,h3⟩:=h
  exact⟨b,c,e,h1,by rw[hh b h1];exact h2,h3.nY hle⟩
 |
  arr sz l=>
  obtain⟨h1,h2,h3⟩:=h
  refine⟨h1,h2,?_⟩
  cases ob with
  |none=>exact h3
  |
   some b=>
   obtain⟨c,e,cs,rest,h4,h5,h6,h7⟩:=h3
   exact⟨c,e,cs,rest,by rw[hh b rfl];exact h4,h5,h6.nY hle,h7⟩
 |
  map b ks vs l=>
  obtain⟨h1,h2⟩:=h
  exact⟨h1,by rw[hh b h1];exact h2⟩
theorem aP.mono {Γ Γ':Cx} (hle:Le Γ Γ') {p:PV} {v:Value} (h:aP Γ p v):aP Γ' p v:=h.nY hle.c
theorem bh.wL.mono {Γ Γ':Cx} (hle:Le Γ Γ') {ob:Option Nat} {blk:bh} (hh:∀b,ob=some b->Γ'.heap[b]? =Γ.heap[b]?) (h:blk.wL Γ ob):blk.wL Γ' ob:=h.nY hle.c hh
theorem dm {h:Array Obj} {b:Nat} {o:Obj} (e:h[b]? =some o):b<h.size:=(Array.getElem?_eq_some_iff.1 e).1
theorem bh.wL.lt {blk:bh} {b:Nat} (h:blk.wL Γ (some b)):b<Γ.heap.size:=by
 cases blk with
 |box v=>obtain⟨b',c,e,h1,h2,h3⟩:=h;cases h1;exact dm h2
 |arr sz l=>obtain⟨_,_,c,e,cs,rest,h4,_⟩:=h;exact dm h4
 |map b0 ks vs l=>obtain⟨h1,es,clock,h2,_⟩:=h;cases h1;exact dm h2
theorem Mem.lt (hm:Mem Γ) {b:Nat} (h:Γ.iM b):b<Γ.heap.size:=by
 obtain⟨k,blk,hg,hb⟩:=h
 have:=hm.blk k blk hg
 rw[hb]at this
 exact this.lt
theorem Mem.yh (hm:Mem Γ):¬Γ.own Γ.heap.size:=by
 rintro(h|h)
 ·exact Nat.lt_irrefl _ (hm.lt h)
 ·exact Nat.lt_irrefl _ (hm.ej _ h)
def Cx.push (Γ:Cx) (o:Obj):Cx:= {Γ with heap:=Γ.heap.push o}
def Cx.ext (Γ:Cx) (o:Obj) (k:Nat) (blk:bh):Cx:=
 {heap:=Γ.heap.push o,ι:=λi=>if i=k then some Γ.heap.size else Γ.ι i,bx:=put Γ.bx k blk,ej:=Γ.ej}
def Cx.md (Γ:Cx) (k:Nat) (blk:bh):Cx:=
 {Γ with ι:=λi=>if i=k then none else Γ.ι i,bx:=put Γ.bx k blk}
theorem mj (h:Array Obj) (o:Obj) {b:Nat} (hb:b<h.size):(h.push o)[b]? =h[b]? :=by
 rw[Array.getElem?_push,if_neg (by omega)]
theorem qW (Γ:Cx) (o:Obj):Le Γ (Γ.push o) where
 heap b hb _:=mj _ _ hb
 iM b _ h:=h
 ej:=rfl
 size:=by simp[Cx.push]
 ref k blk h:=⟨blk,h,Nat.le_refl _,λ_=>⟨rfl,λb _ cs e hc=>⟨cs,by rw[←hc];exact mj _ _ (dm hc),rfl⟩⟩⟩
theorem Ag (Γ:Cx) (o:Obj) {k:Nat} (blk:bh) (hk:get Γ.bx k=none):Le Γ (Γ.ext o k blk) where
 heap b hb _:=mj _ _ hb
 iM b hb h:=by
  obtain⟨i,bl,hg,hi⟩:=h
  simp only[Cx.ext]at hg hi
  by_cases jg:i=k
  ·subst jg;simp at hi;omega
  ·rw[if_neg jg]at hi
   rw[cQ _ _ _ _ (λh=>jg h.symm)]at hg
   exact⟨i,bl,hg,hi⟩
 ej:=rfl
 size:=by simp[Cx.ext]
 ref i bl h:=by
  have jg:i≠k:=by intro h';subst h';rw[hk]at h;simp at h
  refine⟨bl,by simp only[Cx.ext];rw[cQ _ _ _ _ (λh=>jg h.symm)];exact h,Nat.le_refl _,λ_=>⟨by simp[Cx.ext,jg],λb _ cs e hc=>⟨cs,by rw[←hc];exact mj _ _ (dm hc),rfl⟩⟩⟩
theorem sI (Γ:Cx) {k:Nat} (blk:bh) (hk:get Γ.bx k=none):Le Γ (Γ.md k blk) where
 heap b hb _:=rfl
 iM b hb h:=by
  obtain⟨i,bl,hg,hi⟩:=h
  simp only[Cx.md]at hg hi
  by_cases jg:i=k
  ·subst jg;simp at hi
  ·rw[if_neg jg]at hi
   rw[cQ _ _ _ _ (λh=>jg h.symm)]at hg
   exact⟨i,bl,hg,hi⟩
 ej:=rfl
 size:=Nat.le_refl _
 ref i bl h:=by
  have jg:i≠k:=by intro h';subst h';rw[hk]at h;simp at h
  exact⟨bl,by simp only[Cx.md];rw[cQ _ _ _ _ (λh=>jg h.symm)];exact h,Nat.le_refl _,λ_=>⟨by simp[Cx.md,jg],λb _ cs e hc=>⟨cs,hc,rfl⟩⟩⟩
theorem Mem.mR {Γ Γ':Cx} (hm:Mem Γ) (hl:Le Γ Γ') (b:Nat) (cs:Array Value) (h:eE.yI b=some cs):¬Γ'.iM b∧∃e x,Γ'.heap[b]? =some (.cells cs e x):=by
 obtain⟨h1,e,x,h2⟩:=hm.yI b cs h
 refine⟨λhb=>h1 (hl.iM b (dm h2) hb),e,x,?_⟩
 rw[hl.heap b (dm h2) h1];exact h2
theorem mem_push (hm:Mem Γ) (o:Obj):Mem (Γ.push o) where
 blk k blk h:=by
  have:=hm.blk k blk h
  exact this.mono (qW Γ o) (λb hb=>by
   rw[show(Γ.push o).ι k=Γ.ι k from rfl]at hb
   rw[hb]at this;exact mj _ _ this.lt)
 inj:=hm.inj
 ej b h:=by have:=hm.ej b h;simp only[Cx.push,Array.size_push];omega
 apart:=hm.apart
 yI:=hm.mR (qW Γ o)
theorem IS (hm:Mem Γ) {o:Obj} {k:Nat} {blk:bh} (hk:get Γ.bx k=none) (hr:blk.wL (Γ.ext o k blk) (some Γ.heap.size)):Mem (Γ.ext o k blk) where
 blk i bl h:=by
  by_cases jg:i=k
  ·subst jg
   simp only[Cx.ext,dD,sJ]at h
   subst h
   have:(Γ.ext o i blk).ι i=some Γ.heap.size:=by simp[Cx.ext]
   rw[this];exact hr
  ·simp only[Cx.ext]at h
   rw[cQ _ _ _ _ (λh=>jg h.symm)]at h
   have:=hm.blk i bl h
   have e:(Γ.ext o k blk).ι i=Γ.ι i:=by simp[Cx.ext,jg]
   rw[e]
   exact this.mono (Ag Γ o blk hk) (λb hb=>by rw[hb]at this;exact mj _ _ this.lt)
 inj i j b hi hj h1 h2:=by
  simp only[Cx.ext,fC]at hi hj h1 h2
  by_cases jg:i=k<;>by_cases tL:j=k
  ·rw[jg,tL]
  ·rw[if_pos jg]at h1
   rw[if_neg tL]at h2
   rw[if_neg (λh=>tL h.symm)]at hj
   obtain⟨bl,tM⟩:=Option.isSome_iff_exists.1 hj
   have:=hm.lt ⟨j,bl,tM,h2⟩
   simp at h1;omega
  ·rw[if_neg jg]at h1
   rw[if_pos tL]at h2
   rw[if_neg (λh=>jg h.symm)]at hi
   obtain⟨bl,tM⟩:=Option.isSome_iff_exists.1 hi
   have:=hm.lt ⟨i,bl,tM,h1⟩
   simp at h2;omega
  ·rw[if_neg jg]at h1
   rw[if_neg tL]at h2
   rw[if_neg (λh=>jg h.symm)]at hi
   rw[if_neg (λh=>tL h.symm)]at hj
   exact hm.inj i j b hi hj h1 h2
 ej b h:=by have:=hm.ej b h;simp only[Cx.ext,Array.size_push];omega
 apart b h hp:=by
  have gG:=hm.ej b hp
  exact hm.apart b ((Ag Γ o blk hk).iM b gG h) hp
 yI:=hm.mR (Ag Γ o blk hk)
theorem Ah (hm:Mem Γ) {k:Nat} {blk:bh} (hk:get Γ.bx k=none) (hr:blk.wL (Γ.md k blk) none):Mem (Γ.md k blk) where
 blk i bl h:=by
  by_cases jg:i=k
  ·subst jg
   simp only[Cx.md,dD,sJ]at h
   subst h
   have:(Γ.md i blk).ι i=none:=by simp[Cx.md]
   rw[this];exact hr
  ·simp only[Cx.md]at h
   rw[cQ _ _ _ _ (λh=>jg h.symm)]at h
   have:=hm.blk i bl h
   have e:(Γ.md k blk).ι i=Γ.ι i:=by simp[Cx.md,jg]
   rw[e]
   exact this.mono (sI Γ blk hk) (λb hb=>rfl)
 inj i j b hi hj h1 h2:=by
  simp only[Cx.md,fC]at hi hj h1 h2
  by_cases jg:i=k
  ·rw[if_pos jg]at h1;simp at h1
  ·by_cases tL:j=k
   ·rw[if_pos tL]at h2;simp at h2
   ·rw[if_neg jg]at h1
    rw[if_neg tL]at h2
    rw[if_neg (λh=>jg h.symm)]at hi
    rw[if_neg (λh=>tL h.symm)]at hj
    exact hm.inj i j b hi hj h1 h2
 ej b h:=hm.ej b h
 apart b h hp:=by
  have gG:=hm.ej b hp
  exact hm.apart b ((sI Γ blk hk).iM b gG h) hp
 yI:=hm.mR (sI Γ blk hk)
def Cx.kh (Γ:Cx) (b:Nat) (o:Obj) (k:Nat) (blk:bh):Cx:=
 {Γ with heap:=Γ.heap.setIfInBounds b o,bx:=put Γ.bx k blk}
theorem ml {k b:Nat} {blk cI:bh} {c c':Array Value} {e:TypeId} (hg:get Γ.bx k=some blk) (hb:Γ.ι k=some b) (hc:Γ.heap[b]? =some (.cells c e (0,0))) (hs:c'.size=c.size) (ht:blk.aE≤cI.aE):
  Le Γ (Γ.kh b (.cells c' e (0,0)) k cI) where
 heap b' rX fB:=by
  have:b≠b':=by intro h;subst h;exact fB ⟨k,blk,hg,hb⟩
  simp only[Cx.kh]
  rw[Array.getElem?_setIfInBounds_ne this]
 iM b' rX h:=by
  obtain⟨i,bl,hgi,hi⟩:=h
  simp only[Cx.kh,fC]at hgi hi
  by_cases jg:k=i
  ·subst jg;exact⟨k,blk,hg,hi⟩
  ·rw[if_neg jg]at hgi;exact⟨i,bl,hgi,hi⟩
 ej:=rfl
 size:=by simp[Cx.kh]
 ref i bl h:=by
  have keep:∀b2,Γ.ι i=some b2->∀cs e',Γ.heap[b2]? =some (.cells cs e' (0,0))->∃Dl,(Γ.kh b (.cells c' e (0,0)) k cI).heap[b2]? =some (.cells Dl e' (0,0))∧Dl.size=cs.size:=by
   intro b2 EN cs e' BY
   by_cases hbb:b=b2
   ·subst hbb
    rw[hc]at BY
    simp only[sJ,Obj.cells.injEq]at BY
    obtain⟨rfl,rfl,_⟩:=BY
    exact⟨c',by simp only[Cx.kh];rw[uJ (dm hc)],hs⟩
   ·exact⟨cs,by simp only[Cx.kh];rw[Array.getElem?_setIfInBounds_ne hbb];exact BY,rfl⟩
  by_cases jg:k=i
  ·subst jg
   rw[hg]at h;cases h
   exact⟨cI,by simp[Cx.kh,dD],ht,λ_=>⟨rfl,keep⟩⟩
  ·exact⟨bl,by simp only[Cx.kh];rw[cQ _ _ _ _ jg];exact h,Nat.le_refl _,λ_=>⟨rfl,keep⟩⟩
theorem n8 (hm:Mem Γ) {k b:Nat} {blk cI:bh} {c c':Array Value} {e:TypeId} (hg:get Γ.bx k=some blk) (hb:Γ.ι k=some b) (hc:Γ.heap[b]? =some (.cells c e (0,0))) (hs:c'.size=c.size) (ht:blk.aE≤cI.aE)
  (hr:cI.wL (Γ.kh b (.cells c' e (0,0)) k cI) (some b)):Mem (Γ.kh b (.cells c' e (0,0)) k cI) where
 blk i bl h:=by
  by_cases jg:k=i
  ·subst jg
   simp only[Cx.kh,dD,sJ]at h
   subst h
   have:(Γ.kh b (.cells c' e (0,0)) k cI).ι k=some b:=hb
   rw[this];exact hr
  ·simp only[Cx.kh]at h
   rw[cQ _ _ _ _ jg]at h
   have:=hm.blk i bl h
   exact this.mono (ml hg hb hc hs ht) (λb2 EN=>by
    have fB:b≠b2:=by
     intro h';subst h'
     exact jg (hm.inj k i b (by simp[hg]) (by simp[h]) hb EN)
    simp only[Cx.kh];rw[Array.getElem?_setIfInBounds_ne fB])
 inj i j b2 hi hj h1 h2:=by
  refine hm.inj i j b2 ?_ ?_ h1 h2
  ·simp only[Cx.kh,fC]at hi;split at hi
   ·subst_vars;simp[hg]
   ·exact hi
  ·simp only[Cx.kh,fC]at hj;split at hj
   ·subst_vars;simp[hg]
   ·exact hj
 ej b2 h:=by have:=hm.ej b2 h;simpa[Cx.kh]using this
 apart b2 h hp:=hm.apart b2 ((ml hg hb hc hs ht).iM b2 (hm.ej b2 hp) h) hp
 yI:=hm.mR (ml hg hb hc hs ht)
end Go.Ab
namespace Go.Ab
variable [eE]
variable {P:Program} {nt:Nat} {ds:List Deferred} {s:St} {Γ:Cx} {a:Act} {w:World}
theorem Hf (v:Value):v.oneCell'=gF v:=by cases v<;>rfl
theorem DE {b o:Nat} {c:Array Value} {e:TypeId} {v:Value} (h:w.heap[b]? =some (.cells c e (0,0))):
  (w.setCell ⟨b,o,none⟩ v).heap=w.heap.setIfInBounds b (.cells (c.setIfInBounds o v) e (0,0)):=by
 have hb:=dm h
 have he:w.heap[b]= .cells c e (0,0):=(Array.getElem?_eq_some_iff.1 h).2
 simp only[World.setCell]
 apply Array.ext
 ·simp
 ·intro i h1 h2
  rw[Array.getElem_modify,Array.getElem_setIfInBounds]
  split
  ·subst_vars;simp[he]
  ·rfl
theorem WF.setCell (w:World) (ad:Addr) (v:Value):WF w (w.setCell ad v):=⟨rfl,rfl,rfl⟩
theorem DF {b o:Nat} {c:Array Value} {e:TypeId} {v:Value} (h:w.heap[b]? =some (.cells c e (0,0))) (ho:o<c.size) (hv:gF v=true):
  (store ⟨b,o,none⟩ v).run P w= .ok () (w.setCell ⟨b,o,none⟩ v):=by
 rw[run_store P w _ v _ (by rw[Hf];exact hv)]
 rw[cell?_eq]
 simp[cell,h,ho,World.frozen?]
theorem kz:∀(vs:List Value) (w:World) (b o i:Nat) (c:Array Value) (e:TypeId),w.heap[b]? =some (.cells c e (0,0))->o+i+vs.length≤c.size->(∀v∈vs,gF v=true)->
  ∃w',(storeCells ⟨b,o,none⟩ vs i).run P w= .ok () w'∧w'.heap=w.heap.setIfInBounds b (.cells (bX c.toList (o+i) vs).toArray e (0,0))∧WF w w'
 |
  [],w,b,o,i,c,e,h,hl,hv=>by
  refine⟨w,rfl,?_,WF.refl w⟩
  have:(bX c.toList (o+i) []).toArray=c:=by simp[bX]
  rw[this]
  have he:w.heap[b]? =some (.cells c e (0,0)):=h
  apply Array.ext
  ·simp
  ·intro j h1 h2
   rw[Array.getElem_setIfInBounds]
   split
   ·subst_vars;exact(Array.getElem?_eq_some_iff.1 he).2
   ·rfl
 |
  v::vs,w,b,o,i,c,e,h,hl,hv=>by
  simp only[List.length_cons]at hl
  have hb:=dm h
  have h1:=DF (P:=P) h (show o+i<c.size by omega) (hv v (by simp))
  have hh:=DE (v:=v) (o:=o+i) h
  have fb:(w.setCell ⟨b,o+i,none⟩ v).heap[b]? =some (.cells (c.setIfInBounds (o+i) v) e (0,0)):=by
   rw[hh,uJ hb]
  obtain⟨w',h2,h3,h4⟩:=kz vs (w.setCell ⟨b,o+i,none⟩ v) b o (i+1) (c.setIfInBounds (o+i) v) e fb (by simp;omega) (λx hx=>hv x (by simp[hx]))
  refine⟨w',?_,?_,(WF.setCell w _ v).trans h4⟩
  ·simp only[storeCells,bJ,jN,h1,rJ]
   exact h2
  ·rw[h3,hh]
   have wQ:bX (c.setIfInBounds (o+i) v).toList (o+(i+1)) vs=bX c.toList (o+i) (v::vs):=by
    rw[Array.toList_setIfInBounds]
    have gG:o+i<c.toList.length:=by simp;omega
    obtain⟨A,x,B,hA,nV⟩:∃A x B,A.length=o+i∧c.toList=A++x::B:=
     ⟨c.toList.take (o+i),c.toList[o+i],c.toList.drop (o+i+1),by rw[lJ];omega,by rw[List.getElem_cons_drop,List.take_append_drop]⟩
    rw[nV,←hA,List.set_append_right (h:=Nat.le_refl _)]
    rw[show o+(i+1)=A.length+1 by omega]
    simp only[Nat.sub_self,List.set_cons_zero,bX,List.length_cons]
    have e1:(A++v::B).take (A.length+1)=A++[v]:=by rw[List.take_append,tJ (by omega)];simp
    have e2:(A++v::B).drop (A.length+1+vs.length)=B.drop vs.length:=by
     rw[List.drop_append,List.drop_eq_nil_of_le (by omega),show A.length+1+vs.length-A.length=vs.length+1 by omega];simp
    have e3:(A++x::B).drop (A.length+(vs.length+1))=B.drop vs.length:=by
     rw[←List.drop_drop];simp
    rw[e1,e2,e3]
    simp
   rw[wQ]
   simp
theorem DG {t:TypeId} {b o n:Nat} {c:Array Value} {e:TypeId} {v:Value} (h:w.heap[b]? =some (.cells c e (0,0))) (hn:gT P t=some n) (hs:v.cells.size=n) (ho:o+n≤c.size) (hv:∀x∈v.cells.toList,gF x=true):
  ∃w',(storeVar t ⟨b,o,none⟩ v).run P w= .ok () w'∧w'.heap=w.heap.setIfInBounds b (.cells (bX c.toList o v.cells.toList).toArray e (0,0))∧WF w w':=by
 obtain⟨w',h1,h2,h3⟩:=kz (P:=P) v.cells.toList w b o 0 c e h (by simp;omega) hv
 refine⟨w',?_,by simpa using h2,h3⟩
 simp only[storeVar,bJ,run_sizeOf hn,rJ]
 rw[if_neg (by simp[hs])]
 exact h1
def qj (w:World) (size n:Nat) (v:Value) (cs:List Value):Prop:=
 (∃ad rc,v= .slice ad n rc∧(0<n->∃b o,ad=some ⟨b,o,none⟩∧∀i c,cs[i]? =some c->cell w.heap b (o+i)=some c))∨
 (∃str,v= .string str∧n=str.size∧size=1∧cs=str.data.toList.map λb=> .int .u8 b.toNat)
theorem kC {size n:Nat} {v:Value} {cs:List Value} (h:qj w size n v cs) (hl:cs.length=n*size):(Builtin.firstCells size n v).run P w= .ok cs.toArray w:=by
 rcases h with⟨ad,rc,rfl,h⟩|⟨str,rfl,rfl,rfl,rfl⟩
 ·cases ad with
  |
   none=>
   have:n=0:=by
    rcases Nat.eq_zero_or_pos n with h0|h0
    ·exact h0
    ·obtain⟨b,o,h1,_⟩:=h h0;simp at h1
   subst this
   have:cs=[]:=List.eq_nil_of_length_eq_zero (by simpa using hl)
   subst this;rfl
  |
   some ad=>
   simp only[Builtin.firstCells]
   rw[←hl]
   by_cases h0:0<n
   ·obtain⟨b,o,h1,h2⟩:=h h0
    simp only[sJ]at h1;subst h1
    exact run_loadCells_list w _ cs (λj v hj=>by rw[jN,cell?_eq];exact h2 j v hj)
   ·have:n=0:=by omega
    subst this
    have:cs=[]:=List.eq_nil_of_length_eq_zero (by simpa using hl)
    subst this;rfl
 ·simp only[Builtin.firstCells,Sem.run_pure]
  congr 1
  apply Array.ext'
  rw[Array.toList_map]
  congr 2
  have:str.extract 0 str.size=str:=by simp
  rw[this]
theorem qk {size n:Nat} {v:Value} {cs:List Value} (h:qj w size n v cs):(Builtin.lenOf v).run P w= .ok n w:=by
 rcases h with⟨ad,rc,rfl,_⟩|⟨str,rfl,rfl,_⟩<;>rfl
theorem ql (z:Array Value) (n:Nat):(Builtin.zeroCells z n).size=n*z.size:=by simp[Builtin.zeroCells]
theorem qm {t u e:TypeId} {d:TypeDesc} {i:TypeInfo} {ty:TypeId} (ht:P.underlying t=some (.slice e)) (hu:P.underlying u=some d) (hd:(∃x,d= .slice x)∨d= .string) (hi:P.info? e=some i)
  {b o sLen sCap n:Nat} {y:Value} {news:List Value} {c:Array Value} {ce:TypeId} (hy:qj w i.size n y news) (hl:news.length=n*i.size) (h1:∀v∈news,gF v=true) (tN:sLen+n≤sCap)
  (hb:w.heap[b]? =some (.cells c ce (0,0))) (yf:o+sLen*i.size+n*i.size≤c.size):
  ∃
   w',(Builtin.append_ #[t,u] ty #[.slice (some ⟨b,o,none⟩) sLen sCap,y]).run P w= .ok (.slice (some ⟨b,o,none⟩) (sLen+n) sCap) w'∧
   w'.heap=w.heap.setIfInBounds b (.cells (bX c.toList (o+sLen*i.size) news).toArray ce (0,0))∧WF w w':=by
 obtain⟨w',g1,g2,g3⟩:=kz (P:=P) news w b (o+sLen*i.size) 0 c ce hb (by omega) h1
 refine⟨w',?_,by simpa using g2,g3⟩
 have hf:=kC (P:=P) hy hl
 have hlen:=qk (P:=P) hy
 rcases hd with⟨x,rfl⟩|rfl
 ·simp[Builtin.append_,run_underlying ht,run_underlying hu,sizeOf,typeInfo,hi,hlen,tN,hf,jN,g1]
 ·simp[Builtin.append_,run_underlying ht,run_underlying hu,sizeOf,typeInfo,hi,hlen,tN,hf,jN,g1]
theorem mS {t u e:TypeId} {d:TypeDesc} {i:TypeInfo} {ty:TypeId} (ht:P.underlying t=some (.slice e)) (hu:P.underlying u=some d) (hd:(∃x,d= .slice x)∨d= .string) (hi:P.info? e=some i)
  {ad:Option Addr} {sLen sCap:Nat} {y:Value} (hy:qj w i.size 0 y []) (hle:sLen≤sCap):
  (Builtin.append_ #[t,u] ty #[.slice ad sLen sCap,y]).run P w= .ok (.slice ad sLen sCap) w:=by
 have hf:=kC (P:=P) hy (by simp)
 have hlen:=qk (P:=P) hy
 rcases hd with⟨x,rfl⟩|rfl
 ·cases ad<;>simp[Builtin.append_,run_underlying ht,run_underlying hu,sizeOf,typeInfo,hi,hlen,hle,hf,storeCells]
 ·cases ad<;>simp[Builtin.append_,run_underlying ht,run_underlying hu,sizeOf,typeInfo,hi,hlen,hle,hf,storeCells]
theorem wY {t u e:TypeId} {d:TypeDesc} {i:TypeInfo} {z:Value} {ty:TypeId} (ht:P.underlying t=some (.slice e)) (hu:P.underlying u=some d) (hd:(∃x,d= .slice x)∨d= .string) (hi:P.info? e=some i) (hz:i.zero=some z)
  {ad:Option Addr} {sLen sCap n:Nat} {y:Value} {olds news:List Value} (hs:qj w i.size sLen (.slice ad sLen sCap) olds) (IF:olds.length=sLen*i.size)
  (hy:qj w i.size n y news) (hl:news.length=n*i.size) (hg:sCap<sLen+n) (h63:sLen+n≤9223372036854775807) (aaf:(sLen+n)*i.bytes≤140737488355328):
  ∃
   w' cap,(Builtin.append_ #[t,u] ty #[.slice ad sLen sCap,y]).run P w= .ok (.slice (some ⟨w.heap.size,0,none⟩) (sLen+n) cap) w'∧sLen+n≤cap∧
   w'.heap=w.heap.push (.cells (olds++news++(Builtin.zeroCells z.cells (cap-(sLen+n))).toList).toArray e (0,0))∧WF w w':=by
 have hn:¬(sLen+n≤sCap):=by omega
 have TN:¬(9223372036854775807<((sLen:Int)+(n:Int))):=by omega
 have TO:¬(281474976710656<Builtin.nextslicecap (sLen+n) sCap*i.bytes):=by have:=growslice_fits hg aaf;omega
 have BX:qj w.drew i.size sLen (.slice ad sLen sCap) olds:=hs
 have hy':qj w.drew i.size n y news:=hy
 have hfo:=kC (P:=P) BX IF
 have hf:=kC (P:=P) hy' hl
 have hlen:=qk (P:=P) hy
 refine⟨w.drew.alloc (.cells (olds++news++(Builtin.zeroCells z.cells (grownCap w (sLen+n) sCap e-(sLen+n))).toList).toArray e),grownCap w (sLen+n) sCap e,?_,grownCap_ge w _ _ _,rfl,⟨rfl,rfl,rfl⟩⟩
 rcases hd with⟨x,rfl⟩|rfl
 ·simp[Builtin.append_,run_underlying ht,run_underlying hu,sizeOf,typeInfo,zeroValue,hi,hz,hlen,hn,TN,TO,Question.forced,hf,hfo,newRow,grownCap]
  congr 2
  apply Array.ext'
  simp
 ·simp[Builtin.append_,run_underlying ht,run_underlying hu,sizeOf,typeInfo,zeroValue,hi,hz,hlen,hn,TN,TO,Question.forced,hf,hfo,newRow,grownCap]
  congr 2
  apply Array.ext'
  simp
theorem wZ {t u e:TypeId} {kn kv:IntKind} {i:TypeInfo} {z:Value} {ty:TypeId} (ht:P.underlying t=some (.slice e)) (hu:P.underlying u=some (.int kn)) (hi:P.info? e=some i) (hz:i.zero=some z)
  {ad:Option Addr} {sLen sCap n:Nat} {olds:List Value} (hs:qj w i.size sLen (.slice ad sLen sCap) olds) (IF:olds.length=sLen*i.size) (h0:0<n) (ky:0<i.size)
  (hg:sCap<sLen+n) (h63:sLen+n≤9223372036854775807) (aaf:(sLen+n)*i.bytes≤140737488355328):
  ∃
   w' cap,(Builtin.append_ #[t,u] ty #[.slice ad sLen sCap,.int kv n]).run P w= .ok (.slice (some ⟨w.heap.size,0,none⟩) (sLen+n) cap) w'∧sLen+n≤cap∧
   w'.heap=w.heap.push (.cells (olds++(Builtin.zeroCells z.cells n).toList++(Builtin.zeroCells z.cells (cap-(sLen+n))).toList).toArray e (0,0))∧WF w w':=by
 have hn:¬(sLen+n≤sCap):=by omega
 have TN:¬(9223372036854775807<((sLen:Int)+(n:Int))):=by omega
 have TO:¬(281474976710656<Builtin.nextslicecap (sLen+n) sCap*i.bytes):=by have:=growslice_fits hg aaf;omega
 have avO:¬(281474976710656<(n:Int)*(i.bytes:Int)):=by
  rw[←Int.natCast_mul]
  have:n*i.bytes≤(sLen+n)*i.bytes:=Nat.mul_le_mul_right _ (by omega)
  omega
 have hw:IntKind.i64.wrap (n:Int)=n:=by rw[IntKind.wrap_i64];omega
 have avP:¬((n:Int)<0):=by omega
 have hns:¬(n*i.size=0):=Nat.mul_ne_zero (by omega) (by omega)
 have BX:qj w.drew i.size sLen (.slice ad sLen sCap) olds:=hs
 have hfo:=kC (P:=P) BX IF
 refine⟨w.drew.alloc (.cells (olds++(Builtin.zeroCells z.cells n).toList++(Builtin.zeroCells z.cells (grownCap w (sLen+n) sCap e-(sLen+n))).toList).toArray e),grownCap w (sLen+n) sCap e,?_,grownCap_ge w _ _ _,rfl,⟨rfl,rfl,rfl⟩⟩
 simp[Builtin.append_,run_underlying ht,run_underlying hu,sizeOf,typeInfo,zeroValue,hi,hz,asInt,asIntOf,hw,hn,avP,hns,TN,TO,avO,Question.forced,hfo,newRow,grownCap]
 congr 2
 apply Array.ext'
 simp
theorem Cv {t u e:TypeId} {ty:TypeId} {sz:Nat} (ht:P.underlying t=some (.slice e)) (iQ:gT P e=some sz)
  {b o dLen dCap n:Nat} {y:Value} {news:List Value} {c:Array Value} {ce:TypeId} {ysz:Nat} (hy:qj w sz ysz y news) (hl:news.length=ysz*sz) (hn:n=min ysz dLen) (h1:∀v∈news,gF v=true)
  (hb:w.heap[b]? =some (.cells c ce (0,0))) (yf:o+n*sz≤c.size):
  ∃
   w',(Builtin.copy_ #[t,u] ty #[.slice (some ⟨b,o,none⟩) dLen dCap,y]).run P w= .ok (.int .i64 n) w'∧
   w'.heap=w.heap.setIfInBounds b (.cells (bX c.toList o (news.take (n*sz))).toArray ce (0,0))∧WF w w':=by
 have gG:(news.take (n*sz)).length=n*sz:=by
  rw[lJ,hl]
  exact Nat.min_eq_left (Nat.mul_le_mul_right _ (by omega))
 obtain⟨w',g1,g2,g3⟩:=kz (P:=P) (news.take (n*sz)) w b o 0 c ce hb (by omega) (λv hv=>h1 v (List.mem_of_mem_take hv))
 refine⟨w',?_,by simpa using g2,g3⟩
 have hlen:=qk (P:=P) hy
 have hf:(Builtin.firstCells sz n y).run P w= .ok (news.take (n*sz)).toArray w:=by
  rcases hy with⟨ad,rc,rfl,h⟩|⟨str,rfl,h2,rfl,rfl⟩
  ·by_cases h0:0<n
   ·obtain⟨b',o',h3,h4⟩:=h (by omega)
    subst h3
    simp only[Builtin.firstCells]
    have:=run_loadCells_list (P:=P) w ⟨b',o',none⟩ (news.take (n*sz)) (λj v hj=>by
     rw[jN,cell?_eq]
     rw[List.getElem?_take]at hj
     split at hj
     ·exact h4 j v hj
     ·simp at hj)
    rw[gG]at this
    exact this
   ·have:n=0:=by omega
    rw[this]
    cases ad<;>simp[Builtin.firstCells,loadCells,loadCellsFrom]
  ·simp only[Builtin.firstCells,Sem.run_pure]
   congr 1
   apply Array.ext'
   rw[Array.toList_map]
   simp[ByteArray.data_extract]
 have Pq:Nat.min ysz dLen=n:=hn.symm
 simp[Builtin.copy_,run_underlying ht,run_sizeOf iQ,hlen,Pq,hf,g1,goInt]
end Go.Ab
namespace Go.Ab
variable [eE]
variable {P:Program} {nt:Nat} {ds:List Deferred} {s:St} {Γ:Cx} {a:Act} {w:World}
def St.put (s:St) (d:Option Nat) (p:PV):St:=
 match d with
 |some d=> {s with env:=Ab.put s.env d p}
 |none=>s
mutual
def wk:PV->PV
 | .sl sz l _=> .sl sz (jO l) false
 | .st w l=> .st w (jO l)
 | .ar z n l=> .ar z n (jO l)
 | .tup l=> .tup (jO l)
 |p=>p
def jO:List PV->List PV
 |[]=>[]
 |p::l=>wk p::jO l
end
def Ue:bh->PV->PV
 | .arr _ _,v=>wk v
 | .box _,v=>v
 | .map ..,v=>v
def u8 (b:UInt8):PV:= .int .u8 b.toNat
def gZ (s:St) (d:Option Nat) (sz bytes:Nat) (p:PV) (ys:List PV) (K:St->Prop):Prop:=
 match d with
 |none=>False
 |
  some d=>match p with
  | .sl sz0 l true=>(get s.bx d=none∧(l=[]∨(sz0=sz∧ys≠[]))∧(l.length+ys.length)*bytes≤140737488355328∧l.length+ys.length≤9223372036854775807)∧
    K {env:=put s.env d (.rs d [] 0 (l.length+ys.length) (l.length+ys.length) sz .tip),bx:=put s.bx d (.arr sz (l++ys))}
  |
   .rs k [] 0 len aE bL .tip=>(match get s.bx k with
   |
    some (.arr sz'' l)=>(aE=l.length∧len=l.length∧bL=sz∧sz''=sz∧(l.length+ys.length)*bytes≤140737488355328∧l.length+ys.length≤9223372036854775807)∧
    K {env:=put s.env d (.rs k [] 0 (l.length+ys.length) (l.length+ys.length) sz .tip),bx:=put s.bx k (.arr sz (l++ys))}
   |_=>False)
  |
   .rs k [] 0 len aE bL (.full n)=>(match get s.bx k with
   |
    some (.arr sz'' l)=>(aE=l.length∧bL=sz∧sz''=sz∧len≤n∧n≤l.length∧ys≠[]∧get s.bx d=none∧(len+ys.length)*bytes≤140737488355328∧len+ys.length≤9223372036854775807)∧
    (len+ys.length≤n->K {env:=put s.env d (.rs k [] 0 (len+ys.length) aE sz (.full n)),bx:=put s.bx k (.arr sz (l.take len++ys++l.drop (len+ys.length)))})∧
    (n<len+ys.length->K {env:=put s.env d (.rs d [] 0 (len+ys.length) (len+ys.length) sz .tip),bx:=put s.bx d (.arr sz (l.take len++ys))})
   |_=>False)
  | .rs k p off len aE bL .clip=>content s (.rs k p off len aE bL .clip) λsz'' l=>(get s.bx d=none∧sz''=sz∧ys≠[]∧(l.length+ys.length)*bytes≤140737488355328∧l.length+ys.length≤9223372036854775807)∧
    K {env:=put s.env d (.rs d [] 0 (l.length+ys.length) (l.length+ys.length) sz .tip),bx:=put s.bx d (.arr sz (l++ys))}
  |_=>False
def oI (s:St) (d:Option Nat) (sz bytes:Nat) (z p:PV) (m:Int) (K:St->Prop):Prop:=
 match d with
 |none=>False
 |
  some d=>match p with
  |
   .rs k [] 0 len aE bL (.full n)=>(match get s.bx k with
   |
    some (.arr sz'' l)=>(get s.bx d=none∧aE=l.length∧bL=sz∧sz''=sz∧len≤n∧n≤l.length∧0<m∧n<len+m.toNat∧(len+m.toNat)*bytes≤140737488355328∧len+m.toNat≤9223372036854775807)∧
    K {env:=put s.env d (.rs d [] 0 (len+m.toNat) (len+m.toNat) sz .tip),bx:=put s.bx d (.arr sz (l.take len++List.replicate m.toNat z))}
   |_=>False)
  |_=>False
def src (s:St) (str:Bool) (sz:Nat) (q:PV) (K:List PV->Prop):Prop:=
 if str then(match q with| .str bs=>sz=1∧K (bs.map u8)|_=>False)
 else content s q λbL ys=>(ys=[]∨bL=sz)∧K ys
def jD (s:St) (d:Option Nat) (sz:Nat) (p:PV) (ys:List PV) (K:St->Prop):Prop:=
 match p with
 |
  .rs k pth off len aE bL _=>(match get s.bx k with
  |some (.arr sz'' l)=>(aE=l.length∧pth=[]∧bL=sz∧sz''=sz∧off+len≤l.length)∧
    K ({s with bx:=put s.bx k (.arr sz (l.take off++ys.take (min ys.length len)++l.drop (off+min ys.length len)))}.put d (.int .i64 (min ys.length len:Nat)))
  |
   some (.box v)=>(match aQ v pth with
   |
    some (.ar sz'' n l)=>(match di v pth (.ar sz'' n (l.take off++ys.take (min ys.length len)++l.drop (off+min ys.length len)))with
    |some v'=>(aE=0∧bL=sz∧sz''=sz∧off+len≤n)∧K ({s with bx:=put s.bx k (.box v')}.put d (.int .i64 (min ys.length len:Nat)))
    |none=>False)
   |_=>False)
  |_=>False)
 |_=>False
def Mt (s:St) (d:Option Nat) (sz:Nat) (z p:PV) (K:St->Prop):Prop:=
 d=none∧match p with
 | .rs k pth off len aE bL c=>jD s none sz (.rs k pth off len aE bL c) (List.replicate len z) K
 |_=>False
def WS (p:PV):List (PV×PV)->Option PV
 |[]=>none
 |(k,v)::r=>if PV.beq p k=true then some v else WS p r
def ad6 (p v:PV):List (PV×PV)->List (PV×PV)
 |[]=>[(p,v)]
 |(k,w)::r=>if PV.beq p k=true then(p,v)::r else(k,w)::ad6 p v r
def ex (s:St) (d:Option Nat):AK->(St->Prop)->Prop
 |
  .alloc z,K=>(match d with
  |some k=>get s.bx k=none∧K {env:=put s.env k (.pt k [] 0),bx:=put s.bx k (.box z)}
  |none=>False)
 |
  .box x,K=>(match d with
  |some k=>vg true s x λp=>(get s.bx k=none∧p.bp=true)∧K {env:=put s.env k (.pt k [] 0),bx:=put s.bx k (.box p)}
  |none=>False)
 |
  .buildSlice own sz z n parts,K=>za true s parts λps=>(match dT (List.replicate n z) (ps.map λx=>(x.1,wk x.2))with
  |some l=>if own=true then(match d with
    |some k=>get s.bx k=none∧K {env:=put s.env k (.rs k [] 0 n n sz .tip),bx:=put s.bx k (.arr sz l)}
    |none=>False)else K (s.put d (.sl sz l true))
  |none=>False)
 |
  .makeSlice sz bytes z len cap,K=>vg true s len λp=>mM p λl=>vg true s cap λq=>mM q λc=>
  (match d with
  |some k=>(get s.bx k=none∧0≤l∧l≤c∧c*bytes≤281474976710656∧c≤9223372036854775807)∧
    K {env:=put s.env k (.rs k [] 0 l.toNat l.toNat sz .tip),bx:=put s.bx k (.arr sz (List.replicate l.toNat z))}
  |none=>False)
 |
  .store n x y,K=>vg true s x λp=>vg true s y λv=>(match p with
  |
   .pt k pth aE=>(match get s.bx k with
   |
    some blk=>(match qf blk pth (Ue blk v)with
    |some cI=>(aE=blk.aE∧v.width=n∧v.bp=true)∧K {s with bx:=put s.bx k cI}
    |none=>False)
   |none=>False)
  |_=>False)
 |
  .isNil ng x,K=>vg true s x λp=>(match p with
  | .sl _ l _=>∀b:Bool,(b=true->l=[])->K (s.put d (.bl (b !=ng)))
  | .rs k _ _ len aE _ _=>(match get s.bx k with|some blk=>aE=blk.aE∧∀b:Bool,(b=true->len=0)->K (s.put d (.bl (b !=ng)))|none=>False)
  |_=>False)
 | .append sz bytes str x y,K=>vg true s x λp=>vg true s y λq=>src s str sz q λys=>gZ s d sz bytes p ys K
 | .appendZ sz bytes z x y,K=>vg true s x λp=>vg true s y λq=>mM q λm=>oI s d sz bytes z p m K
 |
  .copy sz x y,K=>vg true s x λp=>vg true s y λq=>(match q with
  | .str _=>src s true sz q λys=>jD s d sz p ys K
  |_=>src s false sz q λys=>jD s d sz p ys K)
 | .fill sz z x,K=>vg true s x λp=>Mt s d sz z p K
 |
  .mkMap ks vs,K=>(match d with
  |some k=>get s.bx k=none∧∀b:Nat,K {env:=put s.env k (.mp k b),bx:=put s.bx k (.map b ks vs [])}
  |none=>False)
 |
  .mapGet ks vs z ok m x,K=>vg true s m λpm=>vg true s x λp=>(match pm with
  |
   .mp k b=>(match get s.bx k with
   |some (.map b' ks' vs' l)=>(b'=b∧ks'=ks∧vs'=vs∧fits ks p=true)∧K (s.put d (if ok=true then .tup [(WS p l).getD z,.bl (WS p l).isSome]else(WS p l).getD z))
   |_=>False)
  |_=>False)
 |
  .mapSet ks vs m x y,K=>vg true s m λpm=>vg true s x λp=>vg true s y λv=>(match pm with
  |
   .mp k b=>(match get s.bx k with
   |some (.map b' ks' vs' l)=>(d=none∧b'=b∧ks'=ks∧vs'=vs∧fits ks p=true∧fits vs v=true)∧K {s with bx:=put s.bx k (.map b' ks' vs' (ad6 p v l))}
   |_=>False)
  |_=>False)
 | .convB x,K=>vg true s x λp=>(match p with| .str bs=>K (s.put d (.sl 1 (bs.map u8) false))|_=>False)
 |
  .convL x,K=>vg true s x λp=>(match p with
  |
   .rs k pth off len aE sz c=>(match get s.bx k with
   |some (.arr bL l)=>(pth=[]∧off=0∧sz=1∧bL=1∧c= .tip∧len=l.length∧aE=l.length∧l≠[]∧l.all PV.isNum=true)∧
     K (St.put {s with bx:=put s.bx k (.arr 1 (l++[.int .u8 0]))} d (.sl 1 l false))
   |_=>False)
  |_=>False)
 |_,_=>False
def lD (P:Program) (nt:Nat) (ds:List Deferred) (o:Oper) (a:Act) (w:World) (Γ:Cx) (K:St->Prop):Prop:=
 ∃nx v w' s' Γ',(execOp a.eval o).run P w= .ok nx w'∧(nx= .value v∨nx= .skip∧v=undef)∧iB nt ds s' Γ' (a.put o.dst v)∧w'.heap=Γ'.heap∧Le Γ Γ'∧WF w w'∧K s'
theorem iB.put (hs:iB nt ds s Γ a) {d:Option Nat} (hd:∀k,d=some k->k<nt) {p:PV} {v:Value} (hr:aP Γ p v):iB nt ds (s.put d p) Γ (a.put d v):=by
 cases d with
 |none=>exact hs
 |
  some d=>
  refine⟨hs.bx,by simp[Act.put,hs.size],hs.defers,λk q hk=> ?_,hs.mem⟩
  simp only[St.put,fC]at hk
  have gG:=hd d rfl
  split at hk
  ·rename_i hdk
   simp only[sJ]at hk;subst hk hdk
   simp only[Act.put]
   have:(a.tmps.setIfInBounds d v).getD d undef=v:=by
    rw[Array.getD_eq_getD_getElem?,uJ (by rw[hs.size];exact gG)];rfl
   rw[this];exact hr
  ·rename_i fB
   have:=hs.env k q hk
   simp only[Act.put]
   rw[Array.getD_eq_getD_getElem?,Array.getElem?_setIfInBounds_ne fB,←Array.getD_eq_getD_getElem?]
   exact this
theorem iB.le (hs:iB nt ds s Γ a) {Γ':Cx} {wM:List (Nat×bh)} (hle:Le Γ Γ') (hm:Mem Γ') (hb:Γ'.bx=wM):iB nt ds {s with bx:=wM} Γ' a:=
 ⟨hb,hs.size,hs.defers,λk p h=>(hs.env k p h).mono hle,hm⟩
theorem QO {k:Nat} {b:Nat} {v:PV} (hb:get Γ.bx k=some (.box v)) (hι:Γ.ι k=some b):aP Γ (.pt k [] 0) (.pointer (some ⟨b,0,none⟩)):=
 aP.Ml hb rfl hι rfl
theorem Fc {o:Oper} {k:Nat} {p:PV} {cs:Array Value} {e:TypeId} {K:St->Prop} (hs:iB nt ds s Γ a) (hw:w.heap=Γ.heap) (hk:o.dst=some k) (gG:k<nt) (j2:get s.bx k=none)
  (hr:aF Γ [p] cs.toList) (jl:(execOp a.eval o).run P w= .ok (.value (.pointer (some ⟨w.heap.size,0,none⟩))) (w.alloc (.cells cs e))) (hK:K {env:=put s.env k (.pt k [] 0),bx:=put s.bx k (.box p)}):
  lD P nt ds o a w Γ K:=by
 rw[←hs.bx]at j2
 have hle:=Ag Γ (.cells cs e) (k:=k) (.box p) j2
 have jz:Mem (Γ.ext (.cells cs e) k (.box p)):=IS hs.mem j2 ⟨Γ.heap.size,cs,e,rfl,by simp[Cx.ext],hr.mono hle⟩
 have h1:=hs.le hle jz (wM:=put s.bx k (.box p)) (by simp[Cx.ext,hs.bx])
 have h2:aP (Γ.ext (.cells cs e) k (.box p)) (.pt k [] 0) (.pointer (some ⟨w.heap.size,0,none⟩)):=by
  rw[hw];exact QO (v:=p) (by simp[Cx.ext,dD]) (by simp[Cx.ext])
 have h3:=h1.put (d:=some k) (λj hj=>by cases hj;exact gG) h2
 exact⟨_,_,_,_,_,jl,.inl rfl,by rw[hk];exact h3,by simp[World.alloc,Cx.ext,hw],hle,⟨rfl,rfl,rfl⟩,hK⟩
theorem oJ {o:Oper} {k sz:Nat} {l:List PV} {cs rest:List Value} {e:TypeId} {cap:Nat} {w':World} {K:St->Prop} (hs:iB nt ds s Γ a) (hw:w.heap=Γ.heap) (hk:o.dst=some k) (gG:k<nt) (j2:get s.bx k=none) (iQ:0<sz)
  (hr:aF Γ l cs) (mF:∀x∈l,x.width=sz) (Cq:cap*sz=(cs++rest).length) (xX:l.length≤cap) (G7:∀v∈rest,gF v=true)
  (jl:(execOp a.eval o).run P w= .ok (.value (.slice (some ⟨w.heap.size,0,none⟩) l.length cap)) w') (sG:w'.heap=w.heap.push (.cells (cs++rest).toArray e (0,0))) (pS:WF w w')
  (hK:K {env:=put s.env k (.rs k [] 0 l.length l.length sz .tip),bx:=put s.bx k (.arr sz l)}):lD P nt ds o a w Γ K:=by
 rw[←hs.bx]at j2
 have hle:=Ag Γ (.cells (cs++rest).toArray e (0,0)) (k:=k) (.arr sz l) j2
 have hh:(Γ.ext (.cells (cs++rest).toArray e (0,0)) k (.arr sz l)).heap[Γ.heap.size]? =some (.cells (cs++rest).toArray e (0,0)):=by simp[Cx.ext]
 have jz:Mem (Γ.ext (.cells (cs++rest).toArray e (0,0)) k (.arr sz l)):=IS hs.mem j2 ⟨mF,iQ,_,e,cs,rest,hh,rfl,hr.mono hle,G7⟩
 have h1:=hs.le hle jz (wM:=put s.bx k (.arr sz l)) (by simp[Cx.ext,hs.bx])
 have h2:aP (Γ.ext (.cells (cs++rest).toArray e (0,0)) k (.arr sz l)) (.rs k [] 0 l.length l.length sz .tip) (.slice (some ⟨w.heap.size,0,none⟩) l.length cap):=by
  rw[hw]
  simp only[aP]
  refine .rs k [] 0 _ _ sz _ _ (.arr sz l) ⟨by simp[Cx.ext,dD],by simp[bh.aE]⟩ rfl (λ_=>⟨_,_,rfl,?_⟩) .nil
  unfold jC
  have:(Γ.ext (.cells (cs++rest).toArray e (0,0)) k (.arr sz l)).ι k=some Γ.heap.size:=by simp[Cx.ext]
  rw[this]
  exact⟨xX,.inr (by simp[dj]),trivial,λ_=>⟨rfl,_,e,hh,by simpa using Cq⟩⟩
 have h3:=h1.put (d:=some k) (λj hj=>by cases hj;exact gG) h2
 exact⟨_,_,_,_,_,jl,.inl rfl,by rw[hk];exact h3,by rw[sG,hw];rfl,hle,pS,hK⟩
theorem Kd {o:Oper} {k sz:Nat} {ad:Option Addr} {K:St->Prop} (hs:iB nt ds s Γ a) (hw:w.heap=Γ.heap) (hk:o.dst=some k) (gG:k<nt) (j2:get s.bx k=none) (iQ:0<sz)
  (jl:(execOp a.eval o).run P w= .ok (.value (.slice ad 0 0)) w)
  (hK:K {env:=put s.env k (.rs k [] 0 0 0 sz .tip),bx:=put s.bx k (.arr sz [])}):lD P nt ds o a w Γ K:=by
 rw[←hs.bx]at j2
 have hle:=sI Γ (k:=k) (.arr sz []) j2
 have jz:Mem (Γ.md k (.arr sz [])):=Ah hs.mem j2 ⟨by simp,iQ,trivial⟩
 have h1:=hs.le hle jz (wM:=put s.bx k (.arr sz [])) (by simp[Cx.md,hs.bx])
 have h2:aP (Γ.md k (.arr sz [])) (.rs k [] 0 0 0 sz .tip) (.slice ad 0 0):=by
  simp only[aP]
  refine .rs k [] 0 _ _ sz _ _ (.arr sz []) ⟨by simp[Cx.md,dD],by simp[bh.aE]⟩ rfl (λ_=>⟨_,_,rfl,?_⟩) .nil
  unfold jC
  have:(Γ.md k (.arr sz [])).ι k=none:=by simp[Cx.md]
  rw[this];exact⟨rfl,rfl,trivial⟩
 have h3:=h1.put (d:=some k) (λj hj=>by cases hj;exact gG) h2
 exact⟨_,_,_,_,Γ.md k (.arr sz []),jl,.inl rfl,by rw[hk];exact h3,hw,hle,WF.refl w,hK⟩
theorem qX {o:Oper} {p:PV} {v:Value} {w':World} {Γ':Cx} {K:St->Prop} (hs:iB nt ds s Γ a) (hd:∀k,o.dst=some k->k<nt) (hle:Le Γ Γ') (hm:Mem Γ') (hb:Γ'.bx=Γ.bx)
  (jl:(execOp a.eval o).run P w= .ok (.value v) w') (hh:w'.heap=Γ'.heap) (pS:WF w w') (hr:aP Γ' p v) (hK:K (s.put o.dst p)):lD P nt ds o a w Γ K:=by
 have h1:=hs.le hle hm (wM:=s.bx) (by rw[hb,hs.bx])
 exact⟨_,v,w',_,_,jl,.inl rfl,h1.put hd hr,hh,hle,pS,hK⟩
theorem Mu (p:PV):(wk p).width=p.width:=by cases p<;>simp[wk,PV.width]
theorem tS (l:List PV):(jO l).length=l.length:=by induction l<;>simp[jO, *]
theorem Ai (l:List PV):jO l=l.map wk:=by induction l<;>simp[jO, *]
theorem QP {l:List PV} {q:PV} (h:q∈jO l):∃p∈l,q=wk p:=by
 rw[Ai]at h;obtain⟨p,hp,e⟩:=List.mem_map.1 h;exact⟨p,hp,e.symm⟩
theorem Cw {l:List PV} {sz:Nat} (h:∀x∈l,x.width=sz):∀x∈jO l,x.width=sz:=by
 intro x hx;obtain⟨p,hp,rfl⟩:=QP hx;rw[Mu];exact h p hp
theorem aF.jO {l:List PV} {cs:List Value} (h:aF Γ l cs):aF Γ (jO l) cs:=by
 induction h with
 |nil=>exact .nil
 |un h hr ih=>simp only[Ab.jO,Ab.wk];exact .un h ih
 |bl x hr ih=>simp only[Ab.jO,Ab.wk];exact .bl x ih
 |int k n hr ih=>simp only[Ab.jO,Ab.wk];exact .int k n ih
 |str l s h hr ih=>simp only[Ab.jO,Ab.wk];exact .str l s h ih
 |st w l hl hw hr ihl ih=>simp only[Ab.jO,Ab.wk];exact .st w _ ihl hw ih
 |ar sz n l hl hn hs hr ihl ih=>simp only[Ab.jO,Ab.wk];exact .ar sz n _ ihl (by rw[tS];exact hn) (Cw hs) ih
 |
  sl sz l clip a bF hl hw hc hk hb hr ihl ih=>
  simp only[Ab.jO,Ab.wk]
  have:=aF.sl sz (Ab.jO l) false a bF ihl (Cw hw) (by rw[tS];exact hc) (by simp) (λfB=>hb (λhe=>fB (by rw[he];rfl))) ih
  rwa [tS]at this
 |rs k p off len aE sz c v blk hg h1 hv hr ih=>simp only[Ab.jO,Ab.wk];exact .rs k p off len aE sz c v blk hg h1 hv ih
 |np hr ih=>simp only[Ab.jO,Ab.wk];exact .np ih
 |pt k p aE v blk hg h1 hv hr ih=>simp only[Ab.jO,Ab.wk];exact .pt k p aE v blk hg h1 hv ih
 |fp sz l p b o hl hw hm hc hr ihl ih=>simp only[Ab.jO,Ab.wk];exact .fp sz l p b o hl hw hm hc ih
 |fn f first cap h1 h2 h3 h4 hr i1 i2 ih=>simp only[Ab.jO,Ab.wk];exact .fn f first cap h1 h2 h3 h4 ih
 |nf hr ih=>simp only[Ab.jO,Ab.wk];exact .nf ih
 |ifc t v h1 h2 hr i1 ih=>simp only[Ab.jO,Ab.wk];exact .ifc t v h1 h2 ih
 |ni hr ih=>simp only[Ab.jO,Ab.wk];exact .ni ih
 |mp k b hr ih=>simp only[Ab.jO,Ab.wk];exact .mp k b ih
theorem aF.wk {p:PV} {cs:List Value} (h:aF Γ [p] cs):aF Γ [wk p] cs:=by
 have:=h.jO;simpa[Ab.jO]using this
theorem jG.wk {p:PV} {v:Value} (h:jG Γ p v):jG Γ (wk p) v:=by
 cases p
 case st w l=>obtain⟨cs,h1,h2⟩:=h;simp only[Ab.wk];exact⟨cs,h1,by simpa[Ab.wk]using aF.wk h2⟩
 case ar z n l=>obtain⟨cs,h1,h2⟩:=h;simp only[Ab.wk];exact⟨cs,h1,by simpa[Ab.wk]using aF.wk h2⟩
 case sl z l c=>have:=aF.wk (show aF Γ [.sl z l c] [v] from h);simp only[Ab.wk]at this⊢;exact this
 case tup l=>have:=aF.wk (show aF Γ [.tup l] [v] from h);cases h
 all_goals (simp only[Ab.wk];exact h)
theorem kx.jO:∀ {l:List PV} {vs:List Value},kx Γ l vs->kx Γ (Ab.jO l) vs
 |[],[],_=>trivial
 |[],_::_,h=>by simp[kx]at h
 |_::_,[],h=>by simp[kx]at h
 |p::l,v::vs,h=>by simp only[kx,Ab.jO]at h⊢;exact⟨h.1.wk,kx.jO h.2⟩
theorem aP.wk {p:PV} {v:Value} (h:aP Γ p v):aP Γ (wk p) v:=by
 cases p
 case st w l=>obtain⟨cs,h1,h2⟩:=h;simp only[Ab.wk];exact⟨cs,h1,by simpa[Ab.wk]using aF.wk h2⟩
 case ar z n l=>obtain⟨cs,h1,h2⟩:=h;simp only[Ab.wk];exact⟨cs,h1,by simpa[Ab.wk]using aF.wk h2⟩
 case sl z l c=>simp only[aP,Ab.wk]at h⊢;simpa[Ab.wk]using aF.wk h
 case tup l=>simp only[aP,Ab.wk]at h⊢;obtain⟨vs,e,h⟩:=h;exact⟨vs,e,h.jO⟩
 all_goals (simp only[Ab.wk];exact h)
theorem Ke {o:Oper} {t:TypeId} {z:PV} {K:St->Prop} (ho:o.op= .alloc t) (hz:zeroOf P t=some z) (hs:iB nt ds s Γ a) (hw:w.heap=Γ.heap) (hd:∀k,o.dst=some k->k<nt) (he:ex s o.dst (.alloc z) K):
  lD P nt ds o a w Γ K:=by
 simp only[ex]at he
 split at he
 ·rename_i k hk
  obtain⟨v,hv,hr,_,_,_⟩:=lP (Γ:=Γ) hz
  refine Fc (cs:=v.cells) (e:=t) hs hw hk (hd k hk) he.1 hr ?_ he.2
  simp only[execOp,ho,Instr.alloc,bJ,hv,rJ,newVar,newRow]
  rfl
 ·exact he.elim
theorem QQ {o:Oper} {t:TypeId} {x:Operand} {y:AX} {K:St->Prop} (ho:o.op= .box t x) (hx:gN x=some y) (hs:iB nt ds s Γ a) (hw:w.heap=Γ.heap) (hd:∀k,o.dst=some k->k<nt) (he:ex s o.dst (.box y) K):
  lD P nt ds o a w Γ K:=by
 simp only[ex]at he
 split at he
 ·rename_i k hk
  obtain⟨p,⟨⟨h1,h2⟩,h3⟩,hr⟩:=cU hx hs rfl he
  refine Fc (cs:=(a.eval x).cells) (e:=t) hs hw hk (hd k hk) h1 (hr.Ac h2) ?_ h3
  simp only[execOp,ho,Instr.box,bJ,newVar,newRow]
  rfl
 ·exact he.elim
theorem jP {z:PV} {cs:List Value} (h:aF Γ [z] cs):∀n,aF Γ (List.replicate n z) (List.replicate n cs).flatten
 |0=> .nil
 |n+1=>by rw[List.replicate_succ,List.replicate_succ,List.flatten_cons];exact h.cons (jP h n)
theorem lK (z:Array Value) (n:Nat):((Array.range (n*z.size)).map (z[·%z.size]!)).toList=(List.replicate n z.toList).flatten:=by
 induction n with
 |zero=>simp
 |
  succ n ih=>
  have e:(n+1)*z.size=n*z.size+z.size:=by rw[Nat.add_mul];omega
  rw[List.replicate_succ',List.flatten_append,←ih,e]
  simp only[Array.toList_map,Array.toList_range,List.range_add,List.map_append,List.map_map,List.flatten_cons,List.flatten_nil,List.append_nil]
  congr 1
  apply List.ext_getElem?
  intro i
  by_cases hi:i<z.size
  ·simp[hi,Nat.mod_eq_of_lt hi,Nat.add_mod,Nat.mul_mod_left]
  ·simp[hi]
end Go.Ab
namespace Go.Ab
variable [eE]
variable {P:Program} {nt:Nat} {ds:List Deferred} {s:St} {Γ:Cx} {a:Act} {w:World}
theorem Aj {o:Oper} {t e:TypeId} {n sz:Nat} {parts:Array (Nat×Operand)} {ps:List (Nat×AX)} {z:PV} {own:Bool} {K:St->Prop} (ho:o.op= .buildSlice t n parts) (hu:P.underlying t=some (.slice e))
  (hp:n7 parts.toList=some ps) (hz:zeroOf P e=some z) (iQ:gT P e=some sz) (ky:0<sz) (aCj:n*sz≤2^24)
  (hs:iB nt ds s Γ a) (hw:w.heap=Γ.heap) (hd:∀k,o.dst=some k->k<nt) (he:ex s o.dst (.buildSlice own sz z n ps) K):lD P nt ds o a w Γ K:=by
 simp only[ex]at he
 obtain⟨qs,hq,hlen,fu⟩:=zb hs rfl hp he
 obtain⟨zv,Qx,Ww,BM,_,Wx⟩:=lP (Γ:=Γ) hz
 have TP:z.width=sz:=by rw[iQ]at BM;exact(Option.some.inj BM).symm
 split at hq
 ·rename_i l hl
  have hzc:zv.cells.size=sz:=by rw[Wx,TP]
  have amD:aF Γ (List.replicate n z) ((Array.range (n*sz)).map (zv.cells[·%zv.cells.size]!)).toList:=by
   have:=lK zv.cells n
   rw[hzc]at this⊢
   rw[this]
   exact jP Ww n
  have hwr:∀x∈List.replicate n z,x.width=sz:=by intro x hx;rw[(List.mem_replicate.1 hx).2];exact TP
  obtain⟨cells,h1,h2⟩:=vc (Γ:=Γ) (qs.map λx=>(x.1,wk x.2)) (parts.toList.map λp=>(p.1,a.eval p.2)) (λi=>some (i*sz,sz)) (List.replicate n z) l _ amD hl (by simp[hlen])
   (λi j p k u h3 h4=>by
    rw[List.getElem?_map,mJ]at h3 h4
    obtain⟨⟨k',x⟩,h5,h6⟩:=h4
    obtain⟨⟨j',q⟩,h7,h8⟩:=h3
    simp only[Prod.mk.injEq]at h6 h8
    obtain⟨rfl,rfl⟩:=h6
    obtain⟨rfl,rfl⟩:=h8
    have:=fu i j' q k' x h7 h5
    exact⟨this.1,this.2.wk⟩)
   (λi q hi=>by
    have hil:=(List.getElem?_eq_some_iff.1 hi).1
    rw[iG hwr (by omega),hwr q (List.mem_of_getElem? hi)])
  have EO:l.length=n:=by rw[wW.setParts_length hl];simp
  have JU:=wW.setParts_width hl hwr
  have BY:cells.toList.length=n*sz:=by rw[h2.length,bY JU,EO]
  have gG:¬n*sz>2^24:=by omega
  have JV:Instr.fill (λi=>some (i*sz,sz)) ((Array.range (n*sz)).map ((if n*sz=0 then #[]else zv.cells)[·%(if n*sz=0 then #[]else zv.cells).size]!)) (parts.map λp=>(p.1,a.eval p.2)).toList=some cells:=by
   have e1:(parts.map λp=>(p.1,a.eval p.2)).toList=parts.toList.map λp=>(p.1,a.eval p.2):=by simp
   rw[e1]
   by_cases h0:n*sz=0
   ·rw[if_pos h0]
    rw[h0]at h1⊢
    have em:∀f:Nat->Value,Array.map f (Array.range 0)= #[]:=λf=>by apply Array.ext';simp
    rw[em]at h1⊢
    exact h1
   ·rw[if_neg h0];exact h1
  have hb:(Instr.buildSlice t n (parts.map λp=>(p.1,a.eval p.2))).run P w= .ok (.slice (some ⟨w.heap.size,0,none⟩) n n) (w.alloc (.cells cells e)):=by
   simp only[Instr.buildSlice,bJ,run_underlying hu,rJ,run_sizeOf iQ]
   rw[if_neg gG]
   by_cases h0:n*sz=0
   ·rw[if_pos h0]
    rw[if_pos h0]at JV
    simp only[bJ,Sem.run_pure,rJ]
    rw[JV]
    rfl
   ·rw[if_neg h0]
    rw[if_neg h0]at JV
    simp only[bJ,Qx,Sem.run_pure,rJ]
    rw[JV]
    rfl
  have jl:(execOp a.eval o).run P w= .ok (.value (.slice (some ⟨w.heap.size,0,none⟩) n n)) (w.alloc (.cells cells e)):=by
   have e2:execOp a.eval o=(do Pure.pure (Next.value (←Instr.buildSlice t n (parts.map λp=>(p.1,a.eval p.2))))):=by unfold execOp;rw[ho]
   rw[e2,bJ,hb];rfl
  split at hq
  ·rename_i TK
   split at hq
   ·rename_i k hk
    refine oJ (P:=P) (cs:=cells.toList) (rest:=[]) (e:=e) (cap:=n) (w':=w.alloc (.cells cells e)) hs hw hk (hd k hk) hq.1 ky h2 JU (by rw[List.append_nil];exact BY.symm) (by omega) (by simp) (by rw[EO];exact jl) (by rw[List.append_nil];rfl) ⟨rfl,rfl,rfl⟩ (by rw[EO];exact hq.2)
   ·exact hq.elim
  ·refine qX hs hd (qW Γ (.cells cells e)) (mem_push hs.mem _) rfl jl (by show w.heap.push _=Γ.heap.push _;rw[hw]) ⟨rfl,rfl,rfl⟩ ?_ hq
   simp only[aP]
   have:=aF.sl (Γ:=Γ.push (.cells cells e)) sz l true (some ⟨w.heap.size,0,none⟩) n (h2.mono (qW Γ _)) JU (by omega) (λ_=>EO.symm) (λ_=>⟨w.heap.size,0,rfl,by simp[Cx.push,hw],by
    rw[hw]
    have:=hs.mem.yh
    exact this,λi c hc=>by
     have hi:=(List.getElem?_eq_some_iff.1 hc).1
     simp only[cell,Cx.push,hw,Nat.zero_add,Array.getElem?_push_size]
     rw[←Array.getElem?_toList];exact hc⟩) .nil
   rw[EO]at this
   exact this
 ·exact hq.elim
theorem B5 {o:Oper} {t e:TypeId} {i:TypeInfo} {ln cp:Operand} {ln' cp':AX} {z:PV} {K:St->Prop} (ho:o.op= .makeSlice t ln cp) (hu:P.underlying t=some (.slice e)) (hl:gN ln=some ln') (hc:gN cp=some cp')
  (hz:zeroOf P e=some z) (hi:P.info? e=some i) (ky:0<i.size)
  (hs:iB nt ds s Γ a) (hw:w.heap=Γ.heap) (hd:∀k,o.dst=some k->k<nt) (he:ex s o.dst (.makeSlice i.size i.bytes z ln' cp') K):lD P nt ds o a w Γ K:=by
 simp only[ex]at he
 obtain⟨p,hp,tw⟩:=cU hl hs rfl he
 obtain⟨k1,l,uK,hp⟩:=gY hp tw
 obtain⟨q,hq,nU⟩:=cU hc hs rfl hp
 obtain⟨k2,c,px,hK⟩:=gY hq nU
 obtain⟨zv,Qx,Ww,BM,_,Wx⟩:=lP (Γ:=Γ) hz
 have TP:z.width=i.size:=by rw[wX hi]at BM;exact(Option.some.inj BM).symm
 have hzc:zv.cells.size=i.size:=by rw[Wx,TP]
 split at hK
 ·rename_i k hk
  obtain⟨⟨h1,h2,h3,h4,h5⟩,hK⟩:=hK
  have hwl:IntKind.i64.wrap l=l:=by
   have e1:(2:Int)^IntKind.i64.bits=18446744073709551616:=by decide
   have e2:(2:Int)^(IntKind.i64.bits-1)=9223372036854775808:=by decide
   simp only[IntKind.wrap,e1,e2]
   have:l%18446744073709551616=l:=Int.emod_eq_of_lt h2 (by omega)
   rw[this]
   rw[if_neg (by simp;intro _;omega)]
  have hwc:IntKind.i64.wrap c=c:=by
   have e1:(2:Int)^IntKind.i64.bits=18446744073709551616:=by decide
   have e2:(2:Int)^(IntKind.i64.bits-1)=9223372036854775808:=by decide
   simp only[IntKind.wrap,e1,e2]
   have:c%18446744073709551616=c:=Int.emod_eq_of_lt (by omega) (by omega)
   rw[this]
   rw[if_neg (by simp;intro _;omega)]
  have nV:((Array.range (c.toNat*i.size)).map (zv.cells[·%zv.cells.size]!)).toList=(List.replicate c.toNat zv.cells.toList).flatten:=by
   have:=lK zv.cells c.toNat
   rw[hzc]at this⊢
   exact this
  have EP:(List.replicate c.toNat zv.cells.toList).flatten=(List.replicate l.toNat zv.cells.toList).flatten++(List.replicate (c.toNat-l.toNat) zv.cells.toList).flatten:=by
   rw[←List.flatten_append,List.replicate_append_replicate,show l.toNat+(c.toNat-l.toNat)=c.toNat by omega]
  refine oJ (P:=P) (l:=List.replicate l.toNat z) (cs:=(List.replicate l.toNat zv.cells.toList).flatten) (rest:=(List.replicate (c.toNat-l.toNat) zv.cells.toList).flatten) (e:=e) (cap:=c.toNat) (w':=w.alloc (.cells ((Array.range (c.toNat*i.size)).map (zv.cells[·%zv.cells.size]!)) e)) hs hw hk (hd k hk) h1 ky (jP Ww _)
   (by intro x hx;rw[(List.mem_replicate.1 hx).2];exact TP) ?_ (by simp;omega) (jP Ww _).one ?_ ?_ ⟨rfl,rfl,rfl⟩ (by simpa using hK)
  ·rw[←EP,←nV];simp
  ·simp only[List.length_replicate]
   have hb:¬((i.bytes:Int)*c>2^48):=by
    have:(2:Int)^48=281474976710656:=by decide
    rw[this,Int.mul_comm];omega
   have hm:(Instr.makeSlice t (a.eval ln) (a.eval cp)).run P w= .ok (.slice (some ⟨w.heap.size,0,none⟩) l.toNat c.toNat) (w.alloc (.cells ((Array.range (c.toNat*i.size)).map (zv.cells[·%zv.cells.size]!)) e)):=by
    have BJ:((decide (c<0)||decide ((i.bytes:Int)*c>2^48))||decide (l<0)||decide (l>c))=false:=by
     have e1:decide (c<0)=false:=decide_eq_false (by omega)
     have e2:decide ((i.bytes:Int)*c>2^48)=false:=decide_eq_false hb
     have e3:decide (l<0)=false:=decide_eq_false (by omega)
     have e4:decide (l>c)=false:=decide_eq_false (by omega)
     rw[e1,e2,e3,e4];rfl
    have iQ:=wX hi
    have Qy:(typeInfo e).run P w= .ok i w:=by simp[typeInfo,hi]
    simp only[Instr.makeSlice,bJ,run_underlying hu,rJ,uK,px,asInt,asIntOf,Sem.run_pure,Qy,hwl,hwc]
    rw[if_neg (by rw[BJ];simp)]
    simp only[bJ,run_askRoom,rJ,run_sizeOf iQ]
    by_cases h0:c.toNat*i.size=0
    ·rw[if_pos h0]
     have em:∀f:Nat->Value,Array.map f (Array.range (c.toNat*i.size))= #[]:=by intro f;rw[h0];apply Array.ext';simp
     simp only[bJ,Sem.run_pure,rJ,em]
     rfl
    ·rw[if_neg h0]
     simp only[bJ,Qx,rJ,Sem.run_pure]
     rfl
   have e2:execOp a.eval o=(do Pure.pure (Next.value (←Instr.makeSlice t (a.eval ln) (a.eval cp)))):=by unfold execOp;rw[ho]
   rw[e2,bJ,hm];rfl
  ·rw[←EP,←nV];rfl
 ·exact hK.elim
theorem Mv (l:List UInt8):aF Γ (l.map u8) (l.map λb=>Value.int .u8 b.toNat):=by
 induction l with
 |nil=>exact .nil
 |cons b l ih=>exact .int .u8 _ ih
theorem Kf {o:Oper} {t d e:TypeId} {x:Operand} {x':AX} {K:St->Prop} (ho:o.op= .convert t d x) (h1:P.underlying t=some .string) (h2:P.underlying d=some (.slice e)) (h3:P.underlying e=some (.int .u8))
  (hx:gN x=some x') (hs:iB nt ds s Γ a) (hw:w.heap=Γ.heap) (hd:∀k,o.dst=some k->k<nt) (he:ex s o.dst (.convB x') K):lD P nt ds o a w Γ K:=by
 simp only[ex]at he
 obtain⟨p,hp,hr⟩:=cU hx hs rfl he
 cases p<;>simp only at hp<;>first|exact hp.elim|skip
 rename_i l
 simp only[aP]at hr
 obtain⟨bs,hv,hl⟩:∃bs:ByteArray,a.eval x= .string bs∧bs.data.toList=l:=by
  generalize a.eval x=v at hr
  cases hr with
  |str l s h _=>exact⟨s,rfl,h⟩
 subst hl
 have Wy:=run_bytes_of_string (P:=P) w t d e bs h1 h2 h3
 generalize hC:bytesRow bs (grownCap w bs.size 0 e)=C at Wy
 have jl:(execOp a.eval o).run P w= .ok (.value (.slice (some ⟨w.heap.size,0,none⟩) bs.size (grownCap w bs.size 0 e))) (w.drew.alloc (.cells C e (C.size,C.size+1))):=by
  have e2:execOp a.eval o=(do Pure.pure (Next.value (←convert t d (a.eval x)))):=by unfold execOp;rw[ho]
  rw[e2,bJ,hv,Wy];rfl
 refine qX hs hd (qW Γ (.cells C e (C.size,C.size+1))) (mem_push hs.mem _) rfl jl (by show w.heap.push _=Γ.heap.push _;rw[hw]) ⟨rfl,rfl,rfl⟩ ?_ hp
 simp only[aP]
 have iQ:(bs.data.toList.map u8).length=bs.size:=by rw[List.length_map,Array.length_toList];rfl
 have:=aF.sl (Γ:=Γ.push (.cells C e (C.size,C.size+1))) 1 (bs.data.toList.map u8) false (some ⟨w.heap.size,0,none⟩) (grownCap w bs.size 0 e) (Mv _) (by
   intro x hx
   obtain⟨b,_,rfl⟩:=List.mem_map.1 hx
   rfl) (by rw[iQ];have:=grownCap_ge w bs.size 0 e;omega) (by simp) (λ_=>⟨w.heap.size,0,rfl,by simp[Cx.push,hw],by
    rw[hw]
    exact hs.mem.yh,λi c hc=>by
     simp only[cell,Cx.push,hw,Nat.zero_add,Array.getElem?_push_size]
     rw[←hC]
     simp only[bytesRow]
     have hi:=(List.getElem?_eq_some_iff.1 hc).1
     rw[Array.getElem?_append_left (by simpa using hi)]
     rw[←hc]
     simp⟩) .nil
 rw[iQ]at this
 exact this
end Go.Ab
namespace Go.Ab
variable [eE]
variable {P:Program} {nt:Nat} {ds:List Deferred} {s:St} {Γ:Cx} {a:Act} {w:World}
theorem sc (hm:Mem Γ) {k b:Nat} {blk cI:bh} {pth:List Step} {x:PV} {us:List Value} (hg:get Γ.bx k=some blk) (hb:Γ.ι k=some b) (hx:aF Γ [x] us) (lg:qf blk pth x=some cI):
  ∃
   c e,Γ.heap[b]? =some (.cells c e (0,0))∧dj pth+us.length≤c.size∧cI.aE=blk.aE∧
   ∀c',c'.toList=bX c.toList (dj pth) us->cI.wL (Γ.kh b (.cells c' e (0,0)) k cI) (some b):=by
 have h:=hm.blk k blk hg
 cases blk with
 |
  box v=>
  obtain⟨b',c,e,h1,h2,h3⟩:=h
  rw[hb]at h1;cases h1
  simp only[qf]at lg
  split at lg
  ·rename_i v' Wu
   simp only[sJ]at lg;subst lg
   obtain⟨g1,g2,g3⟩:=z7 hx pth h3 Wu
   refine⟨c,e,h2,by simpa using g1,rfl,λc' Co=> ?_⟩
   have iQ:c'.size=c.size:=by rw[←Array.length_toList,Co,gn g1,Array.length_toList]
   refine⟨b,c',e,rfl,by simp only[Cx.kh];rw[uJ (dm h2)],?_⟩
   rw[Co]
   exact g3.mono (ml (cI:= .box v') hg hb h2 iQ (Nat.le_refl _))
  ·simp at lg
 |
  arr sz l=>
  obtain⟨h1,h2,h3⟩:=h
  rw[hb]at h3
  obtain⟨c,e,cs,rest,h4,h5,h6,G7⟩:=h3
  cases pth with
  |nil=>simp[qf]at lg
  |cons st r=>
  cases st with
  |f=>simp[qf]at lg
  |
   i j sz''=>
   simp only[qf]at lg
   split at lg
   ·rename_i hs;subst hs
    split at lg
    ·rename_i cj hc
     split at lg
     ·rename_i c2 BH
      simp only[sJ]at lg;subst lg
      have r3:=h6.at hc
      obtain⟨g4,g5,g6⟩:=z7 hx r r3 BH
      have g7:=r3.iR
      have:=z6 h6 hc (by omega) g5 g6
      have hj:=(List.getElem?_eq_some_iff.1 hc).1
      rw[iG h1 (by omega)]at this
      have hle:dj (Step.i j sz''::r)+us.length≤cs.length:=by simp only[dj];exact this.1
      have Pr:c.size=cs.length+rest.length:=by rw[←Array.length_toList,h5];simp
      refine⟨c,e,h4,by omega,by simp[bh.aE],λc' Co=> ?_⟩
      have iQ:c'.size=c.size:=by rw[←Array.length_toList,Co,gn (by simp;omega),Array.length_toList]
      have Ps:=ml (Γ:=Γ) (cI:= .arr sz'' (l.set j c2)) hg hb h4 iQ (by simp[bh.aE])
      refine⟨pV h1 (by rw[g5];exact h1 cj (List.mem_of_getElem? hc)),h2,c',e,bX cs (dj (Step.i j sz''::r)) us,rest,by simp only[Cx.kh];rw[uJ (dm h4)],?_,?_,G7⟩
      ·rw[Co,h5];exact splice_append hle
      ·exact(by simpa only[dj]using this.2:aF Γ _ _).mono Ps
     ·simp at lg
    ·simp at lg
   ·simp at lg
  |w o n s=>simp[qf]at lg
 |map b0 ks vs l=>simp[qf]at lg
where
 splice_append {cs rest us:List Value} {o:Nat} (h:o+us.length≤cs.length):bX (cs++rest) o us=bX cs o us++rest:=by
  simp only[bX]
  rw[List.take_append_of_le_length (by omega),List.drop_append_of_le_length (by omega)]
  simp
theorem Kg {o:Oper} {t:TypeId} {n:Nat} {x y:Operand} {x' y':AX} {K:St->Prop} (ho:o.op= .store t x y) (hn:gT P t=some n) (hx:gN x=some x') (hy:gN y=some y')
  (hs:iB nt ds s Γ a) (hw:w.heap=Γ.heap) (hd:o.dst=none) (he:ex s o.dst (.store n x' y') K):lD P nt ds o a w Γ K:=by
 simp only[ex]at he
 obtain⟨p,hp,tw⟩:=cU hx hs rfl he
 obtain⟨v,hv,nU⟩:=cU hy hs rfl hp
 split at hv
 ·rename_i k pth aE
  split at hv
  ·rename_i blk hg
   split at hv
   ·rename_i cI lg
    obtain⟨⟨h1,h2,h3⟩,hK⟩:=hv
    rw[←hs.bx]at hg
    obtain⟨b,hι,hpv⟩:=tw.pt hg h1
    have nV:=nU.Ac h3
    have TQ:aF Γ [Ue blk v] (a.eval y).cells.toList:=by
     cases blk
     ·exact nV
     ·exact nV.wk
     ·exact nV
    obtain⟨c,e,g1,g2,g3,g4⟩:=sc hs.mem hg hι TQ lg
    have hvs:(a.eval y).cells.size=n:=by rw[←h2,←nV.iR];simp
    obtain⟨w',r1,r2,r3⟩:=DG (P:=P) (w:=w) (t:=t) (b:=b) (o:=dj pth) (c:=c) (e:=e) (v:=a.eval y) (by rw[hw];exact g1) hn hvs (by have:=g2;simp at this;omega) (λz hz=>nV.one z hz)
    have iQ:(bX c.toList (dj pth) (a.eval y).cells.toList).toArray.size=c.size:=by simp[gn (show dj pth+(a.eval y).cells.toList.length≤c.toList.length by simpa using g2)]
    have hle:=ml (Γ:=Γ) (cI:=cI) hg hι g1 iQ (by omega)
    have jz:=n8 (Γ:=Γ) (cI:=cI) hs.mem hg hι g1 iQ (by omega) (g4 _ (by simp))
    have h1:=hs.le hle jz (wM:=put s.bx k cI) (by simp[Cx.kh,hs.bx])
    refine⟨.skip,undef,w',_,_,?_,.inr ⟨rfl,rfl⟩,by rw[hd];exact h1,by rw[r2,hw];rfl,hle,r3,hK⟩
    have e2:execOp a.eval o=(do Instr.storeAt t (a.eval x) (a.eval y);Pure.pure Next.skip):=by unfold execOp;rw[ho]
    rw[e2,bJ]
    simp only[Instr.storeAt,hpv,Instr.sureAddr,bJ,Sem.run_pure,rJ,r1]
   ·exact hv.elim
  ·exact hv.elim
 ·exact hv.elim
theorem DH {str:Bool} {sz:Nat} {q:PV} {v:Value} {K:List PV->Prop} (hs:iB nt ds s Γ a) (hw:w.heap=Γ.heap) (h:src s str sz q K) (hr:aP Γ q v):
  ∃ys news,K ys∧qj w sz ys.length v news∧aF Γ ys news∧(∀x∈ys,x.width=sz):=by
 unfold src at h
 split at h
 ·split at h
  ·rename_i bs
   obtain⟨st,hv,hd⟩:=hr.str
   obtain⟨rfl,hK⟩:=h
   have hlen:bs.length=st.size:=by rw[←hd];exact Array.length_toList
   refine⟨_,_,hK,.inr ⟨st,hv,by simp[hlen],rfl,rfl⟩,?_,?_⟩
   ·rw[hd]
    clear hK hlen hd hv hr
    induction bs with
    |nil=>exact .nil
    |cons b bs ih=>exact .int _ _ ih
   ·intro x hx;obtain⟨b,_,rfl⟩:=List.mem_map.1 hx;rfl
  ·exact h.elim
 ·obtain⟨bL,l,cs,ad,bF,⟨h1,hK⟩,hv,hl,lH,hle,mF⟩:=pA hs h hr
  refine⟨l,cs,hK,.inl ⟨ad,bF,hv,λky=> ?_⟩,hl,λx hx=> ?_⟩
  ·obtain⟨b,o,e1,e2⟩:=lH (by intro h;subst h;simp at ky)
   exact⟨b,o,e1,by rw[hw];exact e2⟩
  ·rcases h1 with rfl|rfl
   ·simp at hx
   ·exact mF x hx
end Go.Ab
namespace Go.Ab
variable [eE]
variable {P:Program} {nt:Nat} {ds:List Deferred} {s:St} {Γ:Cx} {a:Act} {w:World}
theorem zc (Γ:Cx) (o:Obj) {k:Nat} {blk cI:bh} (hk:get Γ.bx k=some blk) (ht:blk.aE<cI.aE):Le Γ (Γ.ext o k cI) where
 heap b hb _:=mj _ _ hb
 iM b hb h:=by
  obtain⟨i,bl,hg,hi⟩:=h
  simp only[Cx.ext]at hg hi
  by_cases jg:i=k
  ·subst jg;simp at hi;omega
  ·rw[if_neg jg]at hi
   rw[cQ _ _ _ _ (λh=>jg h.symm)]at hg
   exact⟨i,bl,hg,hi⟩
 ej:=rfl
 size:=by simp[Cx.ext]
 ref i bl h:=by
  by_cases jg:i=k
  ·subst jg
   rw[hk]at h;cases h
   exact⟨cI,by simp[Cx.ext,dD],by omega,λe=>by omega⟩
  ·exact⟨bl,by simp only[Cx.ext];rw[cQ _ _ _ _ (λh=>jg h.symm)];exact h,Nat.le_refl _,λ_=>⟨by simp[Cx.ext,jg],λb _ cs e hc=>⟨cs,by rw[←hc];exact mj _ _ (dm hc),rfl⟩⟩⟩
theorem Mw (hm:Mem Γ) {o:Obj} {k:Nat} {blk cI:bh} (hk:get Γ.bx k=some blk) (ht:blk.aE<cI.aE) (hr:cI.wL (Γ.ext o k cI) (some Γ.heap.size)):Mem (Γ.ext o k cI) where
 blk i bl h:=by
  by_cases jg:i=k
  ·subst jg
   simp only[Cx.ext,dD,sJ]at h
   subst h
   have:(Γ.ext o i cI).ι i=some Γ.heap.size:=by simp[Cx.ext]
   rw[this];exact hr
  ·simp only[Cx.ext]at h
   rw[cQ _ _ _ _ (λh=>jg h.symm)]at h
   have:=hm.blk i bl h
   have e:(Γ.ext o k cI).ι i=Γ.ι i:=by simp[Cx.ext,jg]
   rw[e]
   exact this.mono (zc Γ o hk ht) (λb hb=>by rw[hb]at this;exact mj _ _ this.lt)
 inj i j b hi hj h1 h2:=by
  simp only[Cx.ext,fC]at hi hj h1 h2
  by_cases jg:i=k<;>by_cases tL:j=k
  ·rw[jg,tL]
  ·rw[if_pos jg]at h1
   rw[if_neg tL]at h2
   rw[if_neg (λh=>tL h.symm)]at hj
   obtain⟨bl,tM⟩:=Option.isSome_iff_exists.1 hj
   have:=hm.lt ⟨j,bl,tM,h2⟩
   simp at h1;omega
  ·rw[if_neg jg]at h1
   rw[if_pos tL]at h2
   rw[if_neg (λh=>jg h.symm)]at hi
   obtain⟨bl,tM⟩:=Option.isSome_iff_exists.1 hi
   have:=hm.lt ⟨i,bl,tM,h1⟩
   simp at h2;omega
  ·rw[if_neg jg]at h1
   rw[if_neg tL]at h2
   rw[if_neg (λh=>jg h.symm)]at hi
   rw[if_neg (λh=>tL h.symm)]at hj
   exact hm.inj i j b hi hj h1 h2
 ej b h:=by have:=hm.ej b h;simp only[Cx.ext,Array.size_push];omega
 apart b h hp:=by
  have gG:=hm.ej b hp
  exact hm.apart b ((zc Γ o hk ht).iM b gG h) hp
 yI:=hm.mR (zc Γ o hk ht)
theorem oK {bx:List (Nat×bh)} (h:∀i,get bx i=get Γ.bx i):Le Γ {Γ with bx:=bx} where
 heap _ _ _:=rfl
 iM b _ hm:=by obtain⟨k,blk,hg,hk⟩:=hm;exact⟨k,blk,by rw[←h];exact hg,hk⟩
 ej:=rfl
 size:=Nat.le_refl _
 ref k blk hg:=⟨blk,by show get bx k=_;rw[h];exact hg,Nat.le_refl _,λ_=>⟨rfl,λ_ _ cs _ hc=>⟨cs,hc,rfl⟩⟩⟩
theorem Ak (hm:Mem Γ) {bx:List (Nat×bh)} (h:∀i,get bx i=get Γ.bx i):Mem {Γ with bx:=bx} where
 blk k blk hg:=(hm.blk k blk (by rw[←h];exact hg)).mono (oK h) (λ_ _=>rfl)
 inj i j b hi hj h1 h2:=hm.inj i j b (by rw[←h];exact hi) (by rw[←h];exact hj) h1 h2
 ej:=hm.ej
 apart b hb:=hm.apart b ((oK h).iM b (hm.lt (by obtain⟨k,blk,hg,hk⟩:=hb;exact⟨k,blk,by rw[←h];exact hg,hk⟩)) hb)
 yI:=hm.mR (oK h)
theorem mq {α:Type} {l:List (Nat×α)} {k:Nat} {x:α} (h:get l k=some x):∀i,get (put l k x) i=get l i:=by
 intro i
 rw[fC]
 split
 ·subst_vars;exact h.symm
 ·rfl
theorem Cy {o:Oper} {k d sz:Nat} {blk:bh} {l:List PV} {cs rest:List Value} {e:TypeId} {cap:Nat} {w':World} {K:St->Prop} (hs:iB nt ds s Γ a) (hw:w.heap=Γ.heap) (hk:o.dst=some d) (gG:d<nt) (hg:get s.bx k=some blk)
  (ht:blk.aE<l.length) (iQ:0<sz) (hr:aF Γ l cs) (mF:∀x∈l,x.width=sz) (Cq:cap*sz=(cs++rest).length) (xX:l.length≤cap) (G7:∀v∈rest,gF v=true)
  (jl:(execOp a.eval o).run P w= .ok (.value (.slice (some ⟨w.heap.size,0,none⟩) l.length cap)) w') (sG:w'.heap=w.heap.push (.cells (cs++rest).toArray e (0,0))) (pS:WF w w')
  (hK:K {env:=put s.env d (.rs k [] 0 l.length l.length sz .tip),bx:=put s.bx k (.arr sz l)}):lD P nt ds o a w Γ K:=by
 rw[←hs.bx]at hg
 have hle:=zc Γ (.cells (cs++rest).toArray e (0,0)) (k:=k) (cI:= .arr sz l) hg (by simpa[bh.aE]using ht)
 have hh:(Γ.ext (.cells (cs++rest).toArray e (0,0)) k (.arr sz l)).heap[Γ.heap.size]? =some (.cells (cs++rest).toArray e (0,0)):=by simp[Cx.ext]
 have jz:Mem (Γ.ext (.cells (cs++rest).toArray e (0,0)) k (.arr sz l)):=Mw hs.mem hg (by simpa[bh.aE]using ht) ⟨mF,iQ,_,e,cs,rest,hh,rfl,hr.mono hle,G7⟩
 have h1:=hs.le hle jz (wM:=put s.bx k (.arr sz l)) (by simp[Cx.ext,hs.bx])
 have h2:aP (Γ.ext (.cells (cs++rest).toArray e (0,0)) k (.arr sz l)) (.rs k [] 0 l.length l.length sz .tip) (.slice (some ⟨w.heap.size,0,none⟩) l.length cap):=by
  rw[hw]
  simp only[aP]
  refine .rs k [] 0 _ _ sz _ _ (.arr sz l) ⟨by simp[Cx.ext,dD],by simp[bh.aE]⟩ rfl (λ_=>⟨_,_,rfl,?_⟩) .nil
  unfold jC
  have:(Γ.ext (.cells (cs++rest).toArray e (0,0)) k (.arr sz l)).ι k=some Γ.heap.size:=by simp[Cx.ext]
  rw[this]
  exact⟨xX,.inr (by simp[dj]),trivial,λ_=>⟨rfl,_,e,hh,by simpa using Cq⟩⟩
 have h3:=h1.put (d:=some d) (λj hj=>by cases hj;exact gG) h2
 exact⟨_,_,_,_,_,jl,.inl rfl,by rw[hk];exact h3,by rw[sG,hw];rfl,hle,pS,hK⟩
theorem tz {o:Oper} {b:Builtin} {x y:Operand} {t u:TypeId} {f:Array TypeId->TypeId->Array Value->Sem Value} (ho:o.op= .call {callee:= .builtin b,args:= #[x,y],argTypes:= #[t,u]})
  (hb:∀ {c:Array Bool} {args:Array Value},builtin b #[t,u] o.type c args=(do Pure.pure (Next.value (←f #[t,u] o.type args)))):
  execOp a.eval o=(do Pure.pure (Next.value (←f #[t,u] o.type #[a.eval x,a.eval y]))):=by
 have e1:Array.map a.eval #[x,y]= #[a.eval x,a.eval y]:=by simp
 rw[←e1,←hb (c:=(#[x,y]:Array Operand).map λ| .const _=>true|_=>false)]
 unfold execOp
 rw[ho]
 rfl
theorem kD {o:Oper} {x y:Operand} {t u:TypeId} (ho:o.op= .call {callee:= .builtin .append,args:= #[x,y],argTypes:= #[t,u]}) {r:Value} {w':World}
  (h:(Builtin.append_ #[t,u] o.type #[a.eval x,a.eval y]).run P w= .ok r w'):(execOp a.eval o).run P w= .ok (.value r) w':=by
 have e2:execOp a.eval o=(do Pure.pure (Next.value (←Builtin.append_ #[t,u] o.type #[a.eval x,a.eval y]))):=tz ho rfl
 rw[e2,bJ,h];rfl
theorem aF.Fe {l:List PV} {cs:List Value} {sz:Nat} (h:aF Γ l cs) (hw:∀x∈l,x.width=sz) (n:Nat) (hn:n≤l.length):aF Γ (l.take n) (cs.take (n*sz)):=by
 have e1:l=l.take n++l.drop n:=by rw[List.take_append_drop]
 rw[e1]at h
 obtain⟨c1,v1,rfl,r1,r2⟩:=h.split
 have l1:c1.length=n*sz:=by rw[r1.length,iG hw hn]
 rw[←l1,List.take_left];exact r1
theorem aF.Uf {l:List PV} {cs:List Value} {sz:Nat} (h:aF Γ l cs) (hw:∀x∈l,x.width=sz) (n:Nat) (hn:n≤l.length):aF Γ (l.drop n) (cs.drop (n*sz)):=by
 have e1:l=l.take n++l.drop n:=by rw[List.take_append_drop]
 rw[e1]at h
 obtain⟨c1,v1,rfl,r1,r2⟩:=h.split
 have l1:c1.length=n*sz:=by rw[r1.length,iG hw hn]
 rw[←l1,List.drop_left];exact r2
theorem aF.Kh {l ys:List PV} {cs news:List Value} {sz:Nat} (h:aF Γ l cs) (hw:∀x∈l,x.width=sz) (hy:aF Γ ys news) (hyw:∀x∈ys,x.width=sz) (off n:Nat) (hn:n≤ys.length) (ho:off+n≤l.length):
  aF Γ (l.take off++ys.take n++l.drop (off+n)) (bX cs (off*sz) (news.take (n*sz))):=by
 have hl:(news.take (n*sz)).length=n*sz:=by
  rw[lJ,hy.length,bY hyw];exact Nat.min_eq_left (Nat.mul_le_mul_right _ hn)
 simp only[bX,hl]
 rw[show off*sz+n*sz=(off+n)*sz by rw[Nat.add_mul]]
 exact((h.Fe hw off (by omega)).append (hy.Fe hyw n hn)).append (h.Uf hw (off+n) ho)
theorem Al {cs rest us:List Value} {o:Nat} (h:o+us.length≤cs.length):bX (cs++rest) o us=bX cs o us++rest:=by
 simp only[bX]
 rw[List.take_append_of_le_length (by omega),List.drop_append_of_le_length h,List.append_assoc,List.append_assoc,List.append_assoc]
theorem tA {z:Array Value} (h0:0<z.size) (h:z.toList.all gF=true) {n:Nat}:∀v∈(Builtin.zeroCells z n).toList,gF v=true:=by
 intro v hv
 simp only[Builtin.zeroCells,Array.toList_map,List.mem_map]at hv
 obtain⟨j,_,rfl⟩:=hv
 have gG:j%z.size<z.size:=Nat.mod_lt _ h0
 rw[getElem!_pos z _ gG]
 exact List.all_eq_true.1 h _ (by simp)
theorem Am {o:Oper} {t u e:TypeId} {d:TypeDesc} {i:TypeInfo} {z:Value} {x y:Operand} {x' y':AX} {str:Bool} {K:St->Prop} (ho:o.op= .call {callee:= .builtin .append,args:= #[x,y],argTypes:= #[t,u]})
  (ht:P.underlying t=some (.slice e)) (hu:P.underlying u=some d) (Mf:(∃x,d= .slice x)∨d= .string) (hi:P.info? e=some i) (hz:i.zero=some z) (Wx:z.cells.size=i.size) (ky:0<i.size) (aag:z.cells.toList.all gF=true)
  (hx:gN x=some x') (hy:gN y=some y') (hs:iB nt ds s Γ a) (hw:w.heap=Γ.heap) (hd:∀k,o.dst=some k->k<nt) (he:ex s o.dst (.append i.size i.bytes str x' y') K):lD P nt ds o a w Γ K:=by
 simp only[ex]at he
 obtain⟨p,hp,tw⟩:=cU hx hs rfl he
 obtain⟨q,hq,nU⟩:=cU hy hs rfl hp
 obtain⟨ys,news,hA,EM,zT,zV⟩:=DH hs hw hq nU
 have lI:news.length=ys.length*i.size:=by rw[zT.length,bY zV]
 have Wz:=zT.one
 have hz1:∀ {n:Nat},∀v∈(Builtin.zeroCells z.cells n).toList,gF v=true:=tA (by omega) aag
 --a fresh array out of what is there and what comes
 have fresh:∀ {k:Nat} {ad:Option Addr} {l:List PV} {cs:List Value} {bF:Nat},o.dst=some k->a.eval x= .slice ad l.length bF->bF<l.length+ys.length->aF Γ l cs->(∀x∈l,x.width=i.size)->
   (l≠[]->∃b o,ad=some ⟨b,o,none⟩∧∀i c,cs[i]? =some c->cell Γ.heap b (o+i)=some c)->(l.length+ys.length)*i.bytes≤140737488355328->l.length+ys.length≤9223372036854775807->
   ∃
    w' cap,(execOp a.eval o).run P w= .ok (.value (.slice (some ⟨w.heap.size,0,none⟩) (l++ys).length cap)) w'∧(l++ys).length≤cap∧WF w w'∧
    w'.heap=w.heap.push (.cells ((cs++news)++(Builtin.zeroCells z.cells (cap-(l.length+ys.length))).toList).toArray e (0,0))∧cap*i.size=((cs++news)++(Builtin.zeroCells z.cells (cap-(l.length+ys.length))).toList).length:=by
  intro k ad l cs bF hk hv gG hl mF lH hb h63
  have tx:cs.length=l.length*i.size:=by rw[hl.length,bY mF]
  obtain⟨w',cap,r1,r2,r3,r4⟩:=wY (P:=P) (w:=w) (ty:=o.type) ht hu Mf hi hz (ad:=ad) (sLen:=l.length) (sCap:=bF) (n:=ys.length) (y:=a.eval y) (olds:=cs) (news:=news)
   (.inl ⟨ad,bF,rfl,λky=>by rw[hw];exact lH (by intro h;subst h;simp at ky)⟩) tx EM lI gG h63 hb
  refine⟨w',cap,?_,by simpa using r2,r4,by simpa using r3,?_⟩
  ·rw[←hv]at r1
   rw[List.length_append]
   exact kD ho r1
  ·simp only[List.length_append,Array.length_toList,ql,Wx,tx,lI,←Nat.add_mul]
   congr 1;omega
 unfold gZ at hA
 split at hA
 ·exact hA.elim
 ·rename_i k hk
  split at hA
  ·rename_i sz0 l
   obtain⟨⟨h1,h2,h3,h4⟩,hK⟩:=hA
   obtain⟨ad,bF,cs,hv,hl,mF,hc,Pl,hb⟩:=tw.sl
   have hrc:=Pl rfl
   subst hrc
   by_cases E2:ys=[]
   ·subst E2
    have LQ:l=[]:=by rcases h2 with h2|h2;exact h2;exact absurd rfl h2.2
    subst LQ
    have LU:news=[]:=List.eq_nil_of_length_eq_zero (by simpa using lI)
    subst LU
    have:=mS (P:=P) (w:=w) (ty:=o.type) ht hu Mf hi (ad:=ad) (sLen:=0) (sCap:=0) EM (Nat.le_refl _)
    rw[show Value.slice ad 0 0=a.eval x from hv.symm]at this
    exact Kd (ad:=ad) hs hw hk (hd k hk) h1 ky (by rw[kD ho this,hv];rfl) hK
   ·have amG:∀x∈l,x.width=i.size:=by
     rcases h2 with h2|h2
     ·subst h2;simp
     ·rw[←h2.1];exact mF
    have Dn:0<ys.length:=List.length_pos_iff.2 E2
    obtain⟨w',cap,r1,r2,r3,r4,r5⟩:=fresh hk hv (by omega) hl amG (λfB=>let ⟨b,o,g1,_,_,g4⟩:=hb fB;⟨b,o,g1,g4⟩) h3 h4
    exact oJ hs hw hk (hd k hk) h1 ky (hl.append zT) (λx hx=>(List.mem_append.1 hx).elim (amG x) (zV x)) r5 r2 hz1 r1 r4 r3 (by rw[List.length_append];exact hK)
  ·rename_i k2 len aE bL
   split at hA
   ·rename_i sz'' l hg
    obtain⟨⟨h1,h2,h3,h4,h5,h6⟩,hK⟩:=hA
    subst h1 h2 h3 h4
    have lC:=hg
    rw[←hs.bx]at lC
    obtain⟨ad,bF,hv,ed⟩:=tw.rs lC rfl
    obtain⟨mF,_,lB⟩:=hs.mem.blk k2 _ lC
    unfold jC at ed
    cases hι:Γ.ι k2 with
    |
     none=>
     rw[hι]at ed
     have LQ:l=[]:=List.eq_nil_of_length_eq_zero ed.1
     subst LQ
     obtain⟨_,rfl,_⟩:=ed
     by_cases E2:ys=[]
     ·subst E2
      have LU:news=[]:=List.eq_nil_of_length_eq_zero (by simpa using lI)
      subst LU
      have:=mS (P:=P) (w:=w) (ty:=o.type) ht hu Mf hi (ad:=ad) (sLen:=0) (sCap:=0) EM (Nat.le_refl _)
      rw[show Value.slice ad 0 0=a.eval x from hv.symm]at this
      have lr:=mq lC
      have q1:=hs.le (oK lr) (Ak hs.mem lr) (wM:=put s.bx k2 (.arr i.size [])) (by rw[hs.bx])
      have q2:=(tw.mono (oK lr))
      have q3:=q1.put (d:=some k) (λj hj=>by cases hj;exact hd k hk) q2
      exact⟨_,_,w,_,{Γ with bx:=put Γ.bx k2 (.arr i.size [])},kD ho this,.inl rfl,by rw[hk];exact q3,hw,oK lr,WF.refl w,hK⟩
     ·have Dn:0<ys.length:=List.length_pos_iff.2 E2
      obtain⟨w',cap,r1,r2,r3,r4,r5⟩:=fresh (l:=[]) (cs:=[]) hk hv (by simpa using Dn) .nil (by simp) (by simp) (by simpa using h5) (by simpa using h6)
      exact Cy (l:=[]++ys) hs hw hk (hd k hk) hg (by simpa[bh.aE]using Dn) ky (aF.nil.append zT) (by simpa using zV) r5 r2 hz1 r1 r4 r3 (by rw[List.length_append];exact hK)
    |
     some b=>
     rw[hι]at ed lB
     obtain⟨o1,o2,_,o4⟩:=ed
     obtain⟨_,G8,e0,q1,q2⟩:=o4 rfl
     obtain⟨c,ce,cs,rest,h7,h8,h9,G7⟩:=lB
     rw[q1]at h7
     simp only[sJ,Obj.cells.injEq]at h7
     obtain⟨rfl,rfl,_⟩:=h7
     have tx:cs.length=l.length*i.size:=by rw[h9.length,bY mF]
     have Pr:G8.size=cs.length+rest.length:=by rw[←Array.length_toList,h8];simp
     simp only[Nat.zero_add]at q2
     by_cases tN:l.length+ys.length≤bF
     ·by_cases hz0:bF=0
      ·have LQ:l=[]:=List.eq_nil_of_length_eq_zero (by omega)
       have hy0:ys=[]:=List.eq_nil_of_length_eq_zero (by omega)
       subst LQ hy0 hz0
       have LU:news=[]:=List.eq_nil_of_length_eq_zero (by simpa using lI)
       subst LU
       have:=mS (P:=P) (w:=w) (ty:=o.type) ht hu Mf hi (ad:=ad) (sLen:=0) (sCap:=0) EM (Nat.le_refl _)
       rw[show Value.slice ad 0 0=a.eval x from hv.symm]at this
       have lr:=mq lC
       have q1:=hs.le (oK lr) (Ak hs.mem lr) (wM:=put s.bx k2 (.arr i.size [])) (by rw[hs.bx])
       have q2:=(tw.mono (oK lr))
       have q3:=q1.put (d:=some k) (λj hj=>by cases hj;exact hd k hk) q2
       exact⟨_,_,w,_,{Γ with bx:=put Γ.bx k2 (.arr i.size [])},kD ho this,.inl rfl,by rw[hk];exact q3,hw,oK lr,WF.refl w,hK⟩
      ·rcases o2 with o2|rfl
       ·exact absurd o2 hz0
       simp only[dj,Nat.zero_mul,Nat.add_zero]at hv
       have yf:0+l.length*i.size+ys.length*i.size≤G8.size:=by
        rw[←q2,Nat.zero_add,←Nat.add_mul];exact Nat.mul_le_mul_right _ tN
       obtain⟨w',r1,r2,r3⟩:=qm (P:=P) (w:=w) (ty:=o.type) ht hu Mf hi (b:=b) (o:=0) (sLen:=l.length) (sCap:=bF) (n:=ys.length) (c:=G8) (ce:=e0) EM lI Wz tN (by rw[hw];exact q1) yf
       rw[←hv]at r1
       have II:bX G8.toList (0+l.length*i.size) news=(cs++news)++rest.drop news.length:=by
        rw[h8,Nat.zero_add,←tx]
        simp only[bX]
        rw[List.take_left,←List.drop_drop,List.drop_left]
       have LV:(bX G8.toList (0+l.length*i.size) news).toArray.size=G8.size:=by
        have:=gn (cs:=G8.toList) (us:=news) (o:=0+l.length*i.size) (by rw[lI];simpa using yf)
        simpa using this
       have hle:=ml (Γ:=Γ) (cI:= .arr i.size (l++ys)) lC hι q1 LV (by simp[bh.aE])
       have LW:(bh.arr i.size (l++ys)).wL (Γ.kh b (.cells (bX G8.toList (0+l.length*i.size) news).toArray e0 (0,0)) k2 (.arr i.size (l++ys))) (some b):=
        ⟨λx hx=>(List.mem_append.1 hx).elim (mF x) (zV x),ky,_,e0,cs++news,rest.drop news.length,by simp only[Cx.kh];rw[uJ (dm q1)],by simpa using II,(h9.append zT).mono hle,λv hv=>G7 v (List.mem_of_mem_drop hv)⟩
       have jz:=n8 (Γ:=Γ) (cI:= .arr i.size (l++ys)) hs.mem lC hι q1 LV (by simp[bh.aE]) LW
       have t1:=hs.le hle jz (wM:=put s.bx k2 (.arr i.size (l++ys))) (by simp[Cx.kh,hs.bx])
       have t2:aP (Γ.kh b (.cells (bX G8.toList (0+l.length*i.size) news).toArray e0 (0,0)) k2 (.arr i.size (l++ys))) (.rs k2 [] 0 (l.length+ys.length) (l.length+ys.length) i.size .tip) (.slice (some ⟨b,0,none⟩) (l.length+ys.length) bF):=by
        simp only[aP]
        refine .rs k2 [] 0 _ _ i.size _ _ (.arr i.size (l++ys)) ⟨by simp[Cx.kh,dD],by simp[bh.aE]⟩ rfl (λ_=>⟨_,_,rfl,?_⟩) .nil
        unfold jC
        rw[show(Γ.kh b (.cells (bX G8.toList (0+l.length*i.size) news).toArray e0 (0,0)) k2 (.arr i.size (l++ys))).ι k2=some b from hι]
        refine⟨tN,.inr (by simp[dj]),trivial,λ_=>⟨rfl,_,e0,by simp only[Cx.kh];rw[uJ (dm q1)],by rw[LV,Nat.zero_add];exact q2⟩⟩
       have t3:=t1.put (d:=some k) (λj hj=>by cases hj;exact hd k hk) t2
       exact⟨_,_,w',_,_,kD ho r1,.inl rfl,by rw[hk];exact t3,by rw[r2,hw];rfl,hle,r3,hK⟩
     ·have lH:l≠[]->∃b o,ad=some ⟨b,o,none⟩∧∀i c,cs[i]? =some c->cell Γ.heap b (o+i)=some c:=by
       intro fB
       have:=List.length_pos_iff.2 fB
       rcases o2 with o2|rfl
       ·omega
       exact⟨b,_,rfl,by simpa[dj]using lW q1 cs rest h8⟩
      obtain⟨w',cap,r1,r2,r3,r4,r5⟩:=fresh hk hv (by omega) h9 mF lH h5 h6
      have hy0:0<ys.length:=by omega
      exact Cy (l:=l++ys) hs hw hk (hd k hk) hg (by simp[bh.aE];omega) ky (h9.append zT) (λx hx=>(List.mem_append.1 hx).elim (mF x) (zV x)) r5 r2 hz1 r1 r4 r3 (by rw[List.length_append];exact hK)
   ·exact hA.elim
  ·rename_i k2 len aE bL n
   split at hA
   ·rename_i sz'' l hg
    obtain⟨⟨h1,h2,h3,hln,avT,E2,j2,h5,h6⟩,hK1,xY⟩:=hA
    subst h1 h2 h3
    have lC:=hg
    rw[←hs.bx]at lC
    obtain⟨ad,bF,hv,ed⟩:=tw.rs lC rfl
    obtain⟨mF,_,lB⟩:=hs.mem.blk k2 _ lC
    have Dn:0<ys.length:=List.length_pos_iff.2 E2
    have hwt:∀x∈l.take len,x.width=i.size:=λx hx=>mF x (List.mem_of_mem_take hx)
    have E3:(l.take len).length=len:=by rw[lJ];omega
    unfold jC at ed
    cases hι:Γ.ι k2 with
    |
     none=>
     rw[hι]at ed
     obtain⟨rfl,rfl,Hc⟩:=ed
     simp only[nX]at Hc
     subst Hc
     obtain⟨w',cap,r1,r2,r3,r4,r5⟩:=fresh (l:=[]) (cs:=[]) hk hv (by simpa using Dn) .nil (by simp) (by simp) (by simpa using h5) (by simpa using h6)
     exact oJ (l:=[]++ys) hs hw hk (hd k hk) j2 ky (aF.nil.append zT) (by simpa using zV) r5 r2 hz1 r1 r4 r3 (by
      have:=xY (by omega)
      rw[List.take_zero]at this
      rw[List.length_append];simpa using this)
    |
     some b=>
     rw[hι]at ed lB
     obtain⟨o1,o2,Hc,_⟩:=ed
     simp only[nX]at Hc
     subst Hc
     obtain⟨c,ce,cs,rest,h7,h8,h9,G7⟩:=lB
     have tx:cs.length=l.length*i.size:=by rw[h9.length,bY mF]
     have Pr:c.size=cs.length+rest.length:=by rw[←Array.length_toList,h8];simp
     have h9t:=h9.Fe mF len (by omega)
     by_cases tN:len+ys.length≤bF
     ·have hz0:bF≠0:=by omega
      rcases o2 with o2|rfl
      ·exact absurd o2 hz0
      simp only[dj,Nat.zero_mul,Nat.add_zero]at hv
      have yf:0+len*i.size+ys.length*i.size≤cs.length:=by
       rw[tx,Nat.zero_add,←Nat.add_mul];exact Nat.mul_le_mul_right _ (by omega)
      obtain⟨w',r1,r2,r3⟩:=qm (P:=P) (w:=w) (ty:=o.type) ht hu Mf hi (b:=b) (o:=0) (sLen:=len) (sCap:=bF) (n:=ys.length) (c:=c) (ce:=ce) EM lI Wz tN (by rw[hw];exact h7) (by omega)
      rw[←hv]at r1
      have hov:=h9.Kh mF zT zV len ys.length (Nat.le_refl _) (by omega)
      rw[List.take_length]at hov
      have II:bX c.toList (0+len*i.size) news=bX cs (len*i.size) news++rest:=by
       rw[h8,Nat.zero_add]
       exact Al (by rw[lI];omega)
      have LV:(bX c.toList (0+len*i.size) news).toArray.size=c.size:=by
       have:=gn (cs:=c.toList) (us:=news) (o:=0+len*i.size) (by simp only[Array.length_toList,lI];omega)
       simpa using this
      have aai:(bh.arr i.size l).aE=(bh.arr i.size (l.take len++ys++l.drop (len+ys.length))).aE:=by simp[bh.aE];omega
      have hle:=ml (Γ:=Γ) (cI:= .arr i.size (l.take len++ys++l.drop (len+ys.length))) lC hι h7 LV (by omega)
      have avU:∀x∈l.take len++ys++l.drop (len+ys.length),x.width=i.size:=by
       intro x hx
       rcases List.mem_append.1 hx with hx|hx
       ·rcases List.mem_append.1 hx with hx|hx
        ·exact hwt x hx
        ·exact zV x hx
       ·exact mF x (List.mem_of_mem_drop hx)
      rw[show news.take (ys.length*i.size)=news from tJ (by omega)]at hov
      have LW:(bh.arr i.size (l.take len++ys++l.drop (len+ys.length))).wL (Γ.kh b (.cells (bX c.toList (0+len*i.size) news).toArray ce (0,0)) k2 (.arr i.size (l.take len++ys++l.drop (len+ys.length)))) (some b):=
       ⟨avU,ky,_,ce,bX cs (len*i.size) news,rest,by simp only[Cx.kh];rw[uJ (dm h7)],by simpa using II,hov.mono hle,G7⟩
      have jz:=n8 (Γ:=Γ) (cI:= .arr i.size (l.take len++ys++l.drop (len+ys.length))) hs.mem lC hι h7 LV (by omega) LW
      have t1:=hs.le hle jz (wM:=put s.bx k2 (.arr i.size (l.take len++ys++l.drop (len+ys.length)))) (by simp[Cx.kh,hs.bx])
      have t2:aP (Γ.kh b (.cells (bX c.toList (0+len*i.size) news).toArray ce (0,0)) k2 (.arr i.size (l.take len++ys++l.drop (len+ys.length)))) (.rs k2 [] 0 (len+ys.length) l.length i.size (.full bF)) (.slice (some ⟨b,0,none⟩) (len+ys.length) bF):=by
       simp only[aP]
       refine .rs k2 [] 0 _ _ i.size _ _ (.arr i.size (l.take len++ys++l.drop (len+ys.length))) ⟨by simp[Cx.kh,dD],by rw[←aai];simp[bh.aE]⟩ rfl (λ_=>⟨_,_,rfl,?_⟩) .nil
       unfold jC
       rw[show(Γ.kh b (.cells (bX c.toList (0+len*i.size) news).toArray ce (0,0)) k2 (.arr i.size (l.take len++ys++l.drop (len+ys.length)))).ι k2=some b from hι]
       exact⟨tN,.inr (by simp[dj]),rfl,λhc=>by cases hc⟩
      have t3:=t1.put (d:=some k) (λj hj=>by cases hj;exact hd k hk) t2
      exact⟨_,_,w',_,_,kD ho r1,.inl rfl,by rw[hk];exact t3,by rw[r2,hw];rfl,hle,r3,hK1 tN⟩
     ·have lH:l.take len≠[]->∃b o,ad=some ⟨b,o,none⟩∧∀j x,(cs.take (len*i.size))[j]? =some x->cell Γ.heap b (o+j)=some x:=by
       intro fB
       have:=List.length_pos_iff.2 fB
       rcases o2 with o2|rfl
       ·omega
       refine⟨b,_,rfl,λj x hj=> ?_⟩
       have hb:=lW h7 cs rest h8
       have ER:cs[j]? =some x:=by
        rw[List.getElem?_take]at hj;split at hj
        ·exact hj
        ·cases hj
       simpa[dj]using hb j x ER
      obtain⟨w',cap,r1,r2,r3,r4,r5⟩:=fresh (l:=l.take len) hk (by rw[E3];exact hv) (by rw[E3];omega) h9t hwt lH (by rw[E3];exact h5) (by rw[E3];exact h6)
      exact oJ (l:=l.take len++ys) hs hw hk (hd k hk) j2 ky (h9t.append zT) (λx hx=>(List.mem_append.1 hx).elim (hwt x) (zV x)) r5 r2 hz1 r1 r4 r3 (by rw[List.length_append,E3];exact xY (by omega))
   ·exact hA.elim
  ·rename_i k2 p off len aE bL
   obtain⟨sz'',l,cs,ad,bF,⟨⟨h1,rfl,h3,h4,h5⟩,hK⟩,hv,hl,lH,hle,mF⟩:=pA hs hA tw
   have hrc:bF=l.length:=by
    have Qz:=hA
    simp only[content]at Qz
    split at Qz
    ·rename_i hb
     rw[←hs.bx]at hb
     obtain⟨ad2,amH,px,ed⟩:=tw.rs hb (by simpa[bh.aE]using Qz.1.1)
     rw[hv]at px
     simp only[Value.slice.injEq]at px
     obtain⟨rfl,Ps,rfl⟩:=px
     unfold jC at ed
     split at ed
     ·omega
     ·have:=ed.2.2.1.clip rfl;omega
    ·rename_i hb
     split at Qz
     ·rw[←hs.bx]at hb
      obtain⟨ad2,amH,px,ed⟩:=tw.rs hb (by simpa[bh.aE]using Qz.1.1)
      rw[hv]at px
      simp only[Value.slice.injEq]at px
      obtain⟨rfl,Ps,rfl⟩:=px
      unfold jC at ed
      split at ed
      ·omega
      ·have:=ed.2.2.1.clip rfl;omega
     ·exact Qz.elim
    ·exact Qz.elim
   have Dn:0<ys.length:=List.length_pos_iff.2 h3
   obtain⟨w',cap,r1,r2,r3,r4,r5⟩:=fresh hk hv (by omega) hl mF lH h4 h5
   exact oJ hs hw hk (hd k hk) h1 ky (hl.append zT) (λx hx=>(List.mem_append.1 hx).elim (mF x) (zV x)) r5 r2 hz1 r1 r4 r3 (by rw[List.length_append];exact hK)
  ·exact hA.elim
end Go.Ab
namespace Go.Ab
variable [eE]
variable {P:Program} {nt:Nat} {ds:List Deferred} {s:St} {Γ:Cx} {a:Act} {w:World}
theorem Mx {o:Oper} {t u e:TypeId} {sz:Nat} {x y:Operand} {x' y':AX} {K:St->Prop} (ho:o.op= .call {callee:= .builtin .copy,args:= #[x,y],argTypes:= #[t,u]})
  (ht:P.underlying t=some (.slice e)) (iQ:gT P e=some sz) (hx:gN x=some x') (hy:gN y=some y') (hs:iB nt ds s Γ a) (hw:w.heap=Γ.heap) (hd:∀k,o.dst=some k->k<nt) (he:ex s o.dst (.copy sz x' y') K):lD P nt ds o a w Γ K:=by
 simp only[ex]at he
 obtain⟨p,hp,tw⟩:=cU hx hs rfl he
 obtain⟨q,hq,nU⟩:=cU hy hs rfl hp
 have hA:∃ys news,jD s o.dst sz p ys K∧qj w sz ys.length (a.eval y) news∧aF Γ ys news∧(∀x∈ys,x.width=sz):=by
  split at hq
  ·exact DH hs hw hq nU
  ·exact DH hs hw hq nU
 obtain⟨ys,news,hA,EM,zT,zV⟩:=hA
 have lI:news.length=ys.length*sz:=by rw[zT.length,bY zV]
 have BO:∀ {r:Value} {w':World},(Builtin.copy_ #[t,u] o.type #[a.eval x,a.eval y]).run P w= .ok r w'->(execOp a.eval o).run P w= .ok (.value r) w':=by
  intro r w' h
  rw[tz ho rfl,bJ,h];rfl
 --nothing copied
 have none:∀ {ad:Option Addr} {len cap:Nat},a.eval x= .slice ad len cap->min ys.length len=0->(execOp a.eval o).run P w= .ok (.value (.int .i64 0)) w:=by
  intro ad len cap hv h0
  refine BO ?_
  have hlen:=qk (P:=P) EM
  have hf:(Builtin.firstCells sz 0 (a.eval y)).run P w= .ok #[] w:=by
   rcases EM with⟨ad2,rc,px,h⟩|⟨str,px,h2,rfl,rfl⟩
   ·rw[px];cases ad2<;>simp[Builtin.firstCells,loadCells,loadCellsFrom]
   ·rw[px];simp[Builtin.firstCells]
  have Pq:Nat.min ys.length len=0:=h0
  rw[hv]
  cases ad<;>simp[Builtin.copy_,run_underlying ht,run_sizeOf iQ,hlen,Pq,hf,goInt,storeCells]
 unfold jD at hA
 split at hA
 ·rename_i k pth off len aE bL ck
  split at hA
  ·rename_i sz'' l hg
   obtain⟨⟨h1,rfl,rfl,rfl,h4⟩,hK⟩:=hA
   have lC:=hg
   rw[←hs.bx]at lC
   obtain⟨ad,bF,hv,ed⟩:=tw.rs lC (by simpa[bh.aE]using h1)
   obtain⟨mF,ky,lB⟩:=hs.mem.blk k _ lC
   by_cases h0:min ys.length len=0
   ·rw[h0]at hK
    have lr:∀i,get (put Γ.bx k (.arr sz'' (l.take off++ys.take 0++l.drop (off+0)))) i=get Γ.bx i:=mq (by simpa using lC)
    have q1:=hs.le (oK lr) (Ak hs.mem lr) (wM:=put s.bx k (.arr sz'' (l.take off++ys.take 0++l.drop (off+0)))) (by rw[hs.bx])
    have q3:=q1.put (p:= .int .i64 0) (v:= .int .i64 0) hd en
    exact⟨_,_,w,_,_,none hv h0,.inl rfl,q3,hw,oK lr,WF.refl w,hK⟩
   ·unfold jC at ed
    cases hι:Γ.ι k with
    |none=>rw[hι]at ed;omega
    |
     some b=>
     rw[hι]at ed lB
     obtain⟨o1,o2,_,_⟩:=ed
     rcases o2 with o2|rfl
     ·omega
     obtain⟨c,ce,cs,rest,h7,h8,h9,G7⟩:=lB
     have tx:cs.length=l.length*sz'':=by rw[h9.length,bY mF]
     have Pr:c.size=cs.length+rest.length:=by rw[←Array.length_toList,h8];simp
     have yf:off*sz''+(min ys.length len)*sz''≤cs.length:=by
      rw[tx,←Nat.add_mul];exact Nat.mul_le_mul_right _ (by omega)
     simp only[dj,Nat.zero_add]at hv
     obtain⟨w',r1,r2,r3⟩:=Cv (P:=P) (w:=w) (u:=u) (ty:=o.type) ht iQ (b:=b) (o:=off*sz'') (dLen:=len) (dCap:=bF) (n:=min ys.length len) (c:=c) (ce:=ce) EM lI rfl zT.one (by rw[hw];exact h7) (by omega)
     rw[←hv]at r1
     have gG:(news.take (min ys.length len*sz'')).length=min ys.length len*sz'':=by rw[lJ,lI];exact Nat.min_eq_left (Nat.mul_le_mul_right _ (by omega))
     have II:bX c.toList (off*sz'') (news.take (min ys.length len*sz''))=bX cs (off*sz'') (news.take (min ys.length len*sz''))++rest:=by
      rw[h8];exact sc.splice_append (by omega)
     have BP:(bX c.toList (off*sz'') (news.take (min ys.length len*sz''))).toArray.size=c.size:=by
      have:=gn (cs:=c.toList) (us:=news.take (min ys.length len*sz'')) (o:=off*sz'') (by simp only[Array.length_toList];omega)
      simpa using this
     have aai:(bh.arr sz'' (l.take off++ys.take (min ys.length len)++l.drop (off+min ys.length len))).aE=(bh.arr sz'' l).aE:=by simp[bh.aE];omega
     have hle:=ml (Γ:=Γ) (cI:= .arr sz'' (l.take off++ys.take (min ys.length len)++l.drop (off+min ys.length len))) lC hι h7 BP (by omega)
     have jz:=n8 (Γ:=Γ) (cI:= .arr sz'' (l.take off++ys.take (min ys.length len)++l.drop (off+min ys.length len))) hs.mem lC hι h7 BP (by omega)
      ⟨λx hx=>by
       rcases List.mem_append.1 hx with hx|hx
       ·rcases List.mem_append.1 hx with hx|hx
        ·exact mF x (List.mem_of_mem_take hx)
        ·exact zV x (List.mem_of_mem_take hx)
       ·exact mF x (List.mem_of_mem_drop hx),ky,_,ce,_,rest,by simp only[Cx.kh];rw[uJ (dm h7)],by simpa using II,
       (h9.Kh mF zT zV off (min ys.length len) (by omega) (by omega)).mono hle,G7⟩
     have t1:=hs.le hle jz (wM:=put s.bx k (.arr sz'' (l.take off++ys.take (min ys.length len)++l.drop (off+min ys.length len)))) (by simp[Cx.kh,hs.bx])
     have t3:=t1.put (p:= .int .i64 (min ys.length len:Nat)) (v:= .int .i64 (min ys.length len:Nat)) hd en
     exact⟨_,_,w',_,_,BO r1,.inl rfl,t3,by rw[r2,hw];rfl,hle,r3,hK⟩
  ·rename_i v hg
   split at hA
   ·rename_i sz'' n l IE
    split at hA
    ·rename_i v' wQ
     obtain⟨⟨h1,rfl,rfl,h4⟩,hK⟩:=hA
     have lC:=hg
     rw[←hs.bx]at lC
     obtain⟨ad,bF,hv,ed⟩:=tw.rs lC (by simpa[bh.aE]using h1)
     unfold jC at ed
     obtain⟨b,c,ce,hι,h7,h8⟩:=hs.mem.blk k _ lC
     rw[hι]at ed
     obtain⟨o1,o2,_,_⟩:=ed
     obtain⟨g1,g2⟩:=qg pth h8 IE
     obtain⟨hl,hn,mF⟩:=g2.oG
     have aaj:PV.width (.ar sz'' n l)=n*sz'':=rfl
     rw[aaj]at g1 g2 hl
     have Pt:=hl.Kh mF zT zV off (min ys.length len) (by omega) (by omega)
     have gG:(news.take (min ys.length len*sz'')).length=min ys.length len*sz'':=by rw[lJ,lI];exact Nat.min_eq_left (Nat.mul_le_mul_right _ (by omega))
     have yf:off*sz''+(min ys.length len)*sz''≤n*sz'':=by rw[←Nat.add_mul];exact Nat.mul_le_mul_right _ (by omega)
     have TR:aF Γ [.ar sz'' n (l.take off++ys.take (min ys.length len)++l.drop (off+min ys.length len))] (bX ((c.toList.drop (dj pth)).take (n*sz'')) (off*sz'') (news.take (min ys.length len*sz''))):=
      Pt.Ud (by simp;omega) (λx hx=>by
       rcases List.mem_append.1 hx with hx|hx
       ·rcases List.mem_append.1 hx with hx|hx
        ·exact mF x (List.mem_of_mem_take hx)
        ·exact zV x (List.mem_of_mem_take hx)
       ·exact mF x (List.mem_of_mem_drop hx))
     obtain⟨c2,e2,k1,k2,k3,k4⟩:=sc (cI:= .box v') (pth:=pth) hs.mem lC hι TR (by simp only[qf,wQ])
     rw[h7]at k1
     simp only[sJ,Obj.cells.injEq]at k1
     obtain⟨rfl,rfl,_⟩:=k1
     have TS:=pU (cs:=c.toList) (us:=news.take (min ys.length len*sz'')) (o:=dj pth) (m:=n*sz'') (p:=off*sz'') g1 (by omega)
     by_cases h0:min ys.length len=0
     ·rw[h0]at hK
      have aak:news.take (min ys.length len*sz'')=[]:=by rw[h0];simp
      have mG:(bX c.toList (dj pth) (bX ((c.toList.drop (dj pth)).take (n*sz'')) (off*sz'') (news.take (min ys.length len*sz''))))=c.toList:=by
       rw[TS,aak];simp[bX]
      have hle:=ml (Γ:=Γ) (c':=c) (cI:= .box v') lC hι h7 rfl (Nat.le_refl _)
      have jz:=n8 (Γ:=Γ) (c':=c) (cI:= .box v') hs.mem lC hι h7 rfl (Nat.le_refl _) (k4 c mG.symm)
      have t1:=hs.le hle jz (wM:=put s.bx k (.box v')) (by simp[Cx.kh,hs.bx])
      have t3:=t1.put (p:= .int .i64 0) (v:= .int .i64 0) hd en
      refine⟨_,_,w,_,_,none hv h0,.inl rfl,t3,?_,hle,WF.refl w,hK⟩
      simp only[Cx.kh]
      rw[hw]
      apply Array.ext_getElem?
      intro j
      by_cases hj:b=j
      ·subst hj;rw[uJ (dm h7)];exact h7
      ·rw[Array.getElem?_setIfInBounds_ne hj]
     ·rcases o2 with o2|rfl
      ·omega
      obtain⟨w',r1,r2,r3⟩:=Cv (P:=P) (w:=w) (u:=u) (ty:=o.type) ht iQ (b:=b) (o:=dj pth+off*sz'') (dLen:=len) (dCap:=bF) (n:=min ys.length len) (c:=c) (ce:=ce) EM lI rfl zT.one (by rw[hw];exact h7) (by simp only[Array.length_toList]at g1;omega)
      rw[←hv]at r1
      rw[←TS]at r2
      have BP:(bX c.toList (dj pth) (bX ((c.toList.drop (dj pth)).take (n*sz'')) (off*sz'') (news.take (min ys.length len*sz'')))).toArray.size=c.size:=by
       rw[TS]
       have:=gn (cs:=c.toList) (us:=news.take (min ys.length len*sz'')) (o:=dj pth+off*sz'') (by simp only[Array.length_toList]at g1⊢;omega)
       simpa using this
      have hle:=ml (Γ:=Γ) (cI:= .box v') lC hι h7 BP (Nat.le_refl _)
      have jz:=n8 (Γ:=Γ) (cI:= .box v') hs.mem lC hι h7 BP (Nat.le_refl _) (k4 _ (by simp))
      have t1:=hs.le hle jz (wM:=put s.bx k (.box v')) (by simp[Cx.kh,hs.bx])
      have t3:=t1.put (p:= .int .i64 (min ys.length len:Nat)) (v:= .int .i64 (min ys.length len:Nat)) hd en
      exact⟨_,_,w',_,_,BO r1,.inl rfl,t3,by rw[r2,hw];rfl,hle,r3,hK⟩
    ·exact hA.elim
   ·exact hA.elim
  ·exact hA.elim
 ·exact hA.elim
theorem B6 {z:PV} {zv:Value} (h:aF Γ [z] zv.cells.toList) (n:Nat):aF Γ (List.replicate n z) (Builtin.zeroCells zv.cells n).toList:=by
 have e:(Builtin.zeroCells zv.cells n).toList=(List.replicate n zv.cells.toList).flatten:=lK zv.cells n
 rw[e];exact jP h n
theorem An {t e:TypeId} {ty:TypeId} {zv:Value} (ht:P.underlying t=some (.slice e)) (Qx:∀w,(zeroValue e).run P w= .ok zv w)
  {b o dLen dCap m:Nat} {news:List Value} {c:Array Value} {ce:TypeId} (hm:news.take m=news) (h0:0<dLen) (hn:news=(Builtin.zeroCells zv.cells dLen).toList) (h1:∀v∈news,gF v=true)
  (hb:w.heap[b]? =some (.cells c ce (0,0))) (yf:o+news.length≤c.size):
  ∃
   w',(Builtin.clear_ #[t] ty #[.slice (some ⟨b,o,none⟩) dLen dCap]).run P w= .ok (.tuple #[]) w'∧
   w'.heap=w.heap.setIfInBounds b (.cells (bX c.toList o (news.take m)).toArray ce (0,0))∧WF w w':=by
 rw[hm]
 obtain⟨w',g1,g2,g3⟩:=kz (P:=P) news w b o 0 c ce hb (by omega) h1
 refine⟨w',?_,by simpa using g2,g3⟩
 obtain⟨m,rfl⟩:∃m,dLen=m+1:=⟨dLen-1,by omega⟩
 rw[hn]at g1
 simp[Builtin.clear_,run_underlying ht,Qx,g1]
theorem My {o:Oper} {t e:TypeId} {sz:Nat} {z:PV} {x:Operand} {x':AX} {K:St->Prop} (ho:o.op= .call {callee:= .builtin .clear,args:= #[x],argTypes:= #[t]})
  (ht:P.underlying t=some (.slice e)) (iQ:gT P e=some sz) (hz:zeroOf P e=some z) (hx:gN x=some x') (hs:iB nt ds s Γ a) (hw:w.heap=Γ.heap) (he:ex s o.dst (.fill sz z x') K):lD P nt ds o a w Γ K:=by
 simp only[ex]at he
 obtain⟨p,hp,tw⟩:=cU hx hs rfl he
 obtain⟨hdn,hp⟩:=hp
 split at hp
 case h_2=>exact hp.elim
 rename_i k pth off len aE bL ck
 obtain⟨zv,Qx,Ww,BM,_,Wx⟩:=lP (Γ:=Γ) hz
 have TP:z.width=sz:=by rw[iQ]at BM;exact(Option.some.inj BM).symm
 obtain⟨ys,E2⟩:∃ys,ys=List.replicate len z:=⟨_,rfl⟩
 obtain⟨news,Pu⟩:∃news,news=(Builtin.zeroCells zv.cells len).toList:=⟨_,rfl⟩
 have zT:aF Γ ys news:=by rw[E2,Pu];exact B6 Ww len
 have zV:∀x∈ys,x.width=sz:=by rw[E2];intro x hx;rw[List.eq_of_mem_replicate hx];exact TP
 have lI:news.length=ys.length*sz:=by rw[zT.length,bY zV]
 have TT:ys.length=len:=by rw[E2];simp
 have hA:jD s none sz (.rs k pth off len aE bL ck) ys K:=by rw[E2];exact hp
 have BO:∀ {r:Value} {w':World},(Builtin.clear_ #[t] o.type #[a.eval x]).run P w= .ok r w'->(execOp a.eval o).run P w= .ok (.value r) w':=by
  intro r w' h
  have e1:execOp a.eval o=(do Pure.pure (Next.value (←Builtin.clear_ #[t] o.type #[a.eval x]))):=by
   have e0:Array.map a.eval #[x]= #[a.eval x]:=by simp
   rw[←e0]
   have hb:builtin .clear #[t] o.type ((#[x]:Array Operand).map λ| .const _=>true|_=>false) (Array.map a.eval #[x])=(do Pure.pure (Next.value (←Builtin.clear_ #[t] o.type (Array.map a.eval #[x])))):=rfl
   rw[←hb]
   unfold execOp
   rw[ho]
   rfl
  rw[e1,bJ,h];rfl
 have none:∀ {ad:Option Addr} {len cap:Nat},a.eval x= .slice ad len cap->len=0->(execOp a.eval o).run P w= .ok (.value (.tuple #[])) w:=by
  intro ad len cap hv h0
  refine BO ?_
  rw[hv,h0]
  cases ad<;>simp[Builtin.clear_,run_underlying ht]
 unfold lD
 rw[hdn]
 have hyl:min ys.length len=len:=by rw[TT,Nat.min_self]
 have zX:news.take (min ys.length len*sz)=news:=tJ (by rw[lI,hyl,TT];exact Nat.le_refl _)
 unfold jD at hA
 simp only at hA
 ·skip
  split at hA
  ·rename_i sz'' l hg
   obtain⟨⟨h1,rfl,rfl,rfl,h4⟩,hK⟩:=hA
   have lC:=hg
   rw[←hs.bx]at lC
   obtain⟨ad,bF,hv,ed⟩:=tw.rs lC (by simpa[bh.aE]using h1)
   obtain⟨mF,ky,lB⟩:=hs.mem.blk k _ lC
   by_cases h0:min ys.length len=0
   ·rw[h0]at hK
    have lr:∀i,get (put Γ.bx k (.arr sz'' (l.take off++ys.take 0++l.drop (off+0)))) i=get Γ.bx i:=mq (by simpa using lC)
    have q1:=hs.le (oK lr) (Ak hs.mem lr) (wM:=put s.bx k (.arr sz'' (l.take off++ys.take 0++l.drop (off+0)))) (by rw[hs.bx])
    exact⟨_,_,w,_,_,none hv (by omega),.inl rfl,q1,hw,oK lr,WF.refl w,hK⟩
   ·unfold jC at ed
    cases hι:Γ.ι k with
    |none=>rw[hι]at ed;omega
    |
     some b=>
     rw[hι]at ed lB
     obtain⟨o1,o2,_,_⟩:=ed
     rcases o2 with o2|rfl
     ·omega
     obtain⟨c,ce,cs,rest,h7,h8,h9,G7⟩:=lB
     have tx:cs.length=l.length*sz'':=by rw[h9.length,bY mF]
     have Pr:c.size=cs.length+rest.length:=by rw[←Array.length_toList,h8];simp
     have yf:off*sz''+(min ys.length len)*sz''≤cs.length:=by
      rw[tx,←Nat.add_mul];exact Nat.mul_le_mul_right _ (by omega)
     simp only[dj,Nat.zero_add]at hv
     obtain⟨w',r1,r2,r3⟩:=An (P:=P) (w:=w) (ty:=o.type) ht Qx (b:=b) (o:=off*sz'') (dLen:=len) (dCap:=bF) (m:=min ys.length len*sz'') (c:=c) (ce:=ce) zX (by omega) Pu zT.one (by rw[hw];exact h7) (by rw[lI,TT];rw[hyl]at yf;omega)
     rw[←hv]at r1
     have gG:(news.take (min ys.length len*sz'')).length=min ys.length len*sz'':=by rw[lJ,lI];exact Nat.min_eq_left (Nat.mul_le_mul_right _ (by omega))
     have II:bX c.toList (off*sz'') (news.take (min ys.length len*sz''))=bX cs (off*sz'') (news.take (min ys.length len*sz''))++rest:=by
      rw[h8];exact sc.splice_append (by omega)
     have BP:(bX c.toList (off*sz'') (news.take (min ys.length len*sz''))).toArray.size=c.size:=by
      have:=gn (cs:=c.toList) (us:=news.take (min ys.length len*sz'')) (o:=off*sz'') (by simp only[Array.length_toList];omega)
      simpa using this
     have aai:(bh.arr sz'' (l.take off++ys.take (min ys.length len)++l.drop (off+min ys.length len))).aE=(bh.arr sz'' l).aE:=by simp[bh.aE];omega
     have hle:=ml (Γ:=Γ) (cI:= .arr sz'' (l.take off++ys.take (min ys.length len)++l.drop (off+min ys.length len))) lC hι h7 BP (by omega)
     have jz:=n8 (Γ:=Γ) (cI:= .arr sz'' (l.take off++ys.take (min ys.length len)++l.drop (off+min ys.length len))) hs.mem lC hι h7 BP (by omega)
      ⟨λx hx=>by
       rcases List.mem_append.1 hx with hx|hx
       ·rcases List.mem_append.1 hx with hx|hx
        ·exact mF x (List.mem_of_mem_take hx)
        ·exact zV x (List.mem_of_mem_take hx)
       ·exact mF x (List.mem_of_mem_drop hx),ky,_,ce,_,rest,by simp only[Cx.kh];rw[uJ (dm h7)],by simpa using II,
       (h9.Kh mF zT zV off (min ys.length len) (by omega) (by omega)).mono hle,G7⟩
     have t1:=hs.le hle jz (wM:=put s.bx k (.arr sz'' (l.take off++ys.take (min ys.length len)++l.drop (off+min ys.length len)))) (by simp[Cx.kh,hs.bx])
     exact⟨_,_,w',_,_,BO r1,.inl rfl,t1,by rw[r2,hw];rfl,hle,r3,hK⟩
  ·rename_i v hg
   split at hA
   ·rename_i sz'' n l IE
    split at hA
    ·rename_i v' wQ
     obtain⟨⟨h1,rfl,rfl,h4⟩,hK⟩:=hA
     have lC:=hg
     rw[←hs.bx]at lC
     obtain⟨ad,bF,hv,ed⟩:=tw.rs lC (by simpa[bh.aE]using h1)
     unfold jC at ed
     obtain⟨b,c,ce,hι,h7,h8⟩:=hs.mem.blk k _ lC
     rw[hι]at ed
     obtain⟨o1,o2,_,_⟩:=ed
     obtain⟨g1,g2⟩:=qg pth h8 IE
     obtain⟨hl,hn,mF⟩:=g2.oG
     have aaj:PV.width (.ar sz'' n l)=n*sz'':=rfl
     rw[aaj]at g1 g2 hl
     have Pt:=hl.Kh mF zT zV off (min ys.length len) (by omega) (by omega)
     have gG:(news.take (min ys.length len*sz'')).length=min ys.length len*sz'':=by rw[lJ,lI];exact Nat.min_eq_left (Nat.mul_le_mul_right _ (by omega))
     have yf:off*sz''+(min ys.length len)*sz''≤n*sz'':=by rw[←Nat.add_mul];exact Nat.mul_le_mul_right _ (by omega)
     have TR:aF Γ [.ar sz'' n (l.take off++ys.take (min ys.length len)++l.drop (off+min ys.length len))] (bX ((c.toList.drop (dj pth)).take (n*sz'')) (off*sz'') (news.take (min ys.length len*sz''))):=
      Pt.Ud (by simp;omega) (λx hx=>by
       rcases List.mem_append.1 hx with hx|hx
       ·rcases List.mem_append.1 hx with hx|hx
        ·exact mF x (List.mem_of_mem_take hx)
        ·exact zV x (List.mem_of_mem_take hx)
       ·exact mF x (List.mem_of_mem_drop hx))
     obtain⟨c2,e2,k1,k2,k3,k4⟩:=sc (cI:= .box v') (pth:=pth) hs.mem lC hι TR (by simp only[qf,wQ])
     rw[h7]at k1
     simp only[sJ,Obj.cells.injEq]at k1
     obtain⟨rfl,rfl,_⟩:=k1
     have TS:=pU (cs:=c.toList) (us:=news.take (min ys.length len*sz'')) (o:=dj pth) (m:=n*sz'') (p:=off*sz'') g1 (by omega)
     by_cases h0:min ys.length len=0
     ·rw[h0]at hK
      have aak:news.take (min ys.length len*sz'')=[]:=by rw[h0];simp
      have mG:(bX c.toList (dj pth) (bX ((c.toList.drop (dj pth)).take (n*sz'')) (off*sz'') (news.take (min ys.length len*sz''))))=c.toList:=by
       rw[TS,aak];simp[bX]
      have hle:=ml (Γ:=Γ) (c':=c) (cI:= .box v') lC hι h7 rfl (Nat.le_refl _)
      have jz:=n8 (Γ:=Γ) (c':=c) (cI:= .box v') hs.mem lC hι h7 rfl (Nat.le_refl _) (k4 c mG.symm)
      have t1:=hs.le hle jz (wM:=put s.bx k (.box v')) (by simp[Cx.kh,hs.bx])
      refine⟨_,_,w,_,_,none hv (by omega),.inl rfl,t1,?_,hle,WF.refl w,hK⟩
      simp only[Cx.kh]
      rw[hw]
      apply Array.ext_getElem?
      intro j
      by_cases hj:b=j
      ·subst hj;rw[uJ (dm h7)];exact h7
      ·rw[Array.getElem?_setIfInBounds_ne hj]
     ·rcases o2 with o2|rfl
      ·omega
      obtain⟨w',r1,r2,r3⟩:=An (P:=P) (w:=w) (ty:=o.type) ht Qx (b:=b) (o:=dj pth+off*sz'') (dLen:=len) (dCap:=bF) (m:=min ys.length len*sz'') (c:=c) (ce:=ce) zX (by omega) Pu zT.one (by rw[hw];exact h7) (by simp only[Array.length_toList]at g1;rw[lI,TT];rw[hyl]at yf;omega)
      rw[←hv]at r1
      rw[←TS]at r2
      have BP:(bX c.toList (dj pth) (bX ((c.toList.drop (dj pth)).take (n*sz'')) (off*sz'') (news.take (min ys.length len*sz'')))).toArray.size=c.size:=by
       rw[TS]
       have:=gn (cs:=c.toList) (us:=news.take (min ys.length len*sz'')) (o:=dj pth+off*sz'') (by simp only[Array.length_toList]at g1⊢;omega)
       simpa using this
      have hle:=ml (Γ:=Γ) (cI:= .box v') lC hι h7 BP (Nat.le_refl _)
      have jz:=n8 (Γ:=Γ) (cI:= .box v') hs.mem lC hι h7 BP (Nat.le_refl _) (k4 _ (by simp))
      have t1:=hs.le hle jz (wM:=put s.bx k (.box v')) (by simp[Cx.kh,hs.bx])
      exact⟨_,_,w',_,_,BO r1,.inl rfl,t1,by rw[r2,hw];rfl,hle,r3,hK⟩
    ·exact hA.elim
   ·exact hA.elim
  ·exact hA.elim
end Go.Ab
namespace Go.Ab
variable [eE]
variable {P:Program} {nt:Nat} {ds:List Deferred} {s:St} {Γ:Cx} {a:Act} {w:World}
theorem Ki {own ng:Bool} {op:BinOp} {t yt:TypeId} {x y:Operand} {p:AX} (hk:lv P own (.binOp op t x y yt)=some (.isNil ng p)):
  (op= .eql∨op= .neq)∧(∃e,P.underlying t=some (.slice e))∧y= .const (.slice none 0 0)∧ng=decide (op= .neq)∧gN x=some p:=by
 simp only[lv]at hk
 split at hk
 ·rename_i q r hx hy
  split at hk
  ·rename_i ho
   split at hk
   ·simp at hk
   ·simp at hk
   ·simp at hk
   ·simp at hk
   ·rename_i e hu
    split at hk
    ·simp only[sJ,AK.isNil.injEq]at hk
     exact⟨ho,⟨e,hu⟩,rfl,hk.1.symm,by rw[hx,hk.2]⟩
    ·simp at hk
   ·split at hk
    ·split at hk<;>simp at hk
    ·simp at hk
   ·split at hk
    ·split at hk<;>simp at hk
    ·simp at hk
   ·simp at hk
  ·simp at hk
 ·simp at hk
theorem aP.slnil {sz:Nat} {l:List PV} {c:Bool} {v:Value} (h:aP Γ (.sl sz l c) v):∃ad n rc,v= .slice ad n rc∧(ad.isNone=true->l=[]):=by
 simp only[aP]at h
 cases h with
 |
  sl _ _ _ ad bF h1 h2 h3 h4 h5 _=>
  refine⟨ad,_,bF,rfl,λhn=> ?_⟩
  by_cases hl:l=[]
  ·exact hl
  ·obtain⟨b,o,e,_⟩:=h5 hl
   rw[e]at hn;simp at hn
theorem aP.ad7 {k off len aE sz:Nat} {p:List Step} {c:jA} {v:Value} {blk:bh} (h:aP Γ (.rs k p off len aE sz c) v) (hb:get Γ.bx k=some blk) (ht:aE=blk.aE):∃ad n rc,v= .slice ad n rc∧(ad.isNone=true->len=0):=by
 simp only[aP]at h
 cases h with
 |
  rs _ _ _ _ _ _ _ _ cI h1 h2 h3 _=>
  rw[hb]at h1
  obtain⟨h1,_⟩:=h1
  cases h1
  obtain⟨ad,rc,rfl,hr⟩:=h3 ht
  refine⟨ad,_,rc,rfl,λhn=> ?_⟩
  unfold jC at hr
  split at hr
  ·exact hr.1
  ·obtain⟨h4,h5,_⟩:=hr
   rcases h5 with h5|h5
   ·omega
   ·rw[h5]at hn;simp at hn
theorem Hg {t e:TypeId} {ad:Option Addr} {n c:Nat} (h:P.underlying t=some (.slice e)):(Op.equalIn 10000 t (.slice ad n c) (.slice none 0 0)).run P w= .ok ad.isNone w:=by
 have:∀d,(Op.equalIn (d+1) t (.slice ad n c) (.slice none 0 0)).run P w= .ok ad.isNone w:=by
  intro d
  cases ad with
  |none=>simp only[Op.equalIn,bJ,run_underlying h,rJ];rfl
  |some ad=>simp only[Op.equalIn,bJ,run_underlying h,rJ];rfl
 exact this 9999
theorem Kj {o:Oper} {own ng:Bool} {op:BinOp} {t yt:TypeId} {x y:Operand} {p:AX} {K:St->Prop} (ho:o.op= .binOp op t x y yt) (hk:lv P own (.binOp op t x y yt)=some (.isNil ng p)) (hs:iB nt ds s Γ a) (hw:w.heap=Γ.heap)
  (hd:∀k,o.dst=some k->k<nt) (he:ex s o.dst (.isNil ng p) K):lD P nt ds o a w Γ K:=by
 obtain⟨nW,⟨e,hu⟩,rfl,rfl,hx⟩:=Ki hk
 simp only[ex]at he
 obtain⟨q,hq,hr⟩:=cU hx hs rfl he
 have fin:∀ {ad:Option Addr} {n c:Nat},a.eval x= .slice ad n c->K (s.put o.dst (.bl (ad.isNone !=decide (op= .neq))))->lD P nt ds o a w Γ K:=by
  intro ad n c hv hK
  have jl:=ve (P:=P) (w:=w) (Hg (ad:=ad) (n:=n) (c:=c) hu) rfl rfl op nW
  refine qX hs hd (Le.refl Γ) hs.mem rfl (v:= .bool (ad.isNone !=decide (op= .neq))) ?_ hw (WF.refl w) ?_ hK
  ·unfold execOp
   rw[ho]
   have hg:(eqGuard op t x (.const (.slice none 0 0)) (.slice ad n c) (.slice none 0 0)).run P w= .ok () w:=by
    unfold eqGuard
    rcases nW with rfl|rfl<;>rfl
   have e2:a.eval (.const (.slice none 0 0))= .slice none 0 0:=rfl
   simp only[hv,e2,bJ,hg,rJ,jl]
   rcases nW with rfl|rfl<;>cases ad<;>rfl
  ·simp only[aP];exact .bl _ .nil
 split at hq
 ·obtain⟨ad,n,c,hv,hn⟩:=hr.slnil
  exact fin hv (hq _ hn)
 ·split at hq
  ·rename_i blk hb
   rw[←hs.bx]at hb
   obtain⟨ad,n,c,hv,hn⟩:=hr.ad7 hb hq.1
   exact fin hv (hq.2 _ hn)
  ·exact hq.elim
 ·exact hq.elim
end Go.Ab
namespace Go.Ab
variable [eE]
variable {P:Program} {nt:Nat} {ds:List Deferred} {s:St} {Γ:Cx} {a:Act} {w:World}
mutual
def ab (f:Nat->Bool):PV->Bool
 | .rs k _ _ _ _ _ _=>f k
 | .pt k _ _=>f k
 | .st _ l=>ae f l
 | .ar _ _ l=>ae f l
 | .tup l=>ae f l
 | .sl _ l _=>ae f l
 | .fp _ l _=>ae f l
 | .fn _ x y=>ae f x&&ae f y
 | .gd _ p=>ab f p
 | .ifc _ p=>ab f p
 |_=>true
def ae (f:Nat->Bool):List PV->Bool
 |[]=>true
 |p::l=>ab f p&&ae f l
end
mutual
def aI (ρ:Nat->Nat):PV->PV
 | .rs k p o l t z c=> .rs (ρ k) p o l t z c
 | .pt k p t=> .pt (ρ k) p t
 | .st w l=> .st w (aO ρ l)
 | .ar z n l=> .ar z n (aO ρ l)
 | .tup l=> .tup (aO ρ l)
 | .sl z l c=> .sl z (aO ρ l) c
 | .fp z l p=> .fp z (aO ρ l) p
 | .fn f x y=> .fn f (aO ρ x) (aO ρ y)
 | .gd b p=> .gd b (aI ρ p)
 | .ifc t p=> .ifc t (aI ρ p)
 |p=>p
def aO (ρ:Nat->Nat):List PV->List PV
 |[]=>[]
 |p::l=>aI ρ p::aO ρ l
end
theorem ow (ρ:Nat->Nat) (p:PV):(aI ρ p).width=p.width:=by cases p<;>simp[aI,PV.width]
theorem w6 (ρ:Nat->Nat) (p:PV):(aI ρ p).isAgg=p.isAgg:=by cases p<;>simp[aI,PV.isAgg]
theorem lX (ρ:Nat->Nat) (l:List PV):(aO ρ l).length=l.length:=by induction l<;>simp[aO, *]
theorem qn {ρ:Nat->Nat} {l:List PV} {q:PV} (h:q∈aO ρ l):∃p∈l,q=aI ρ p:=by
 induction l with
 |nil=>simp[aO]at h
 |
  cons x l ih=>
  simp only[aO,cJ]at h
  rcases h with h|h
  ·exact⟨x,by simp,h⟩
  ·obtain⟨p,hp,e⟩:=ih h;exact⟨p,by simp[hp],e⟩
mutual
theorem Ao {ρ:Nat->Nat} {f:Nat->Bool} (h:∀k,f k=true->ρ k=k):∀p,ab f p=true->aI ρ p=p
 | .rs k _ _ _ _ _ _,hp=>by simp only[ab]at hp;simp[aI,h k hp]
 | .pt k _ _,hp=>by simp only[ab]at hp;simp[aI,h k hp]
 | .st _ l,hp=>by simp only[ab]at hp;simp[aI,nj h l hp]
 | .ar _ _ l,hp=>by simp only[ab]at hp;simp[aI,nj h l hp]
 | .tup l,hp=>by simp only[ab]at hp;simp[aI,nj h l hp]
 | .sl _ l _,hp=>by simp only[ab]at hp;simp[aI,nj h l hp]
 | .fp _ l _,hp=>by simp only[ab]at hp;simp[aI,nj h l hp]
 | .fn _ x y,hp=>by simp only[ab,aJ]at hp;simp[aI,nj h x hp.1,nj h y hp.2]
 | .gd _ p,hp=>by simp only[ab]at hp;simp[aI,Ao h p hp]
 | .ifc _ p,hp=>by simp only[ab]at hp;simp[aI,Ao h p hp]
 | .un,_=>by simp[aI]
 | .bl _,_=>by simp[aI]
 | .int _ _,_=>by simp[aI]
 | .str _,_=>by simp[aI]
 | .np,_=>by simp[aI]
 | .nf,_=>by simp[aI]
 | .ni,_=>by simp[aI]
 | .mp ..,_=>by simp[aI]
theorem nj {ρ:Nat->Nat} {f:Nat->Bool} (h:∀k,f k=true->ρ k=k):∀l,ae f l=true->aO ρ l=l
 |[],_=>rfl
 |p::l,hp=>by simp only[ae,aJ]at hp;simp[aO,Ao h p hp.1,nj h l hp.2]
end
structure sd (f:Nat->Bool) (ρ:Nat->Nat) (Γ Δ:Cx):Prop where
 heap:Δ.heap=Γ.heap
 own:∀b,b<Γ.heap.size->¬Γ.own b->¬Δ.own b
 ref:∀k blk,f k=true->get Γ.bx k=some blk->∃cI,get Δ.bx (ρ k)=some cI∧cI.aE=blk.aE∧Δ.ι (ρ k)=Γ.ι k
theorem jC.aI {Δ:Cx} {k k' off len sz:Nat} {p:List Step} {c:jA} {ad:Option Addr} {bF:Nat} (h:jC Γ k p off len sz c ad bF) (hι:Δ.ι k'=Γ.ι k) (hh:Δ.heap=Γ.heap):jC Δ k' p off len sz c ad bF:=by
 unfold jC at*
 rw[hι,hh];exact h
theorem aF.aI {f:Nat->Bool} {ρ:Nat->Nat} {Δ:Cx} (hs:sd f ρ Γ Δ) {l:List PV} {cs:List Value} (h:aF Γ l cs):ae f l=true->aF Δ (aO ρ l) cs:=by
 induction h with
 |nil=>intro _;exact .nil
 |un h hr ih=>intro hf;simp only[ae,aJ]at hf;exact .un h (ih hf.2)
 |bl x hr ih=>intro hf;simp only[ae,aJ]at hf;exact .bl x (ih hf.2)
 |int k n hr ih=>intro hf;simp only[ae,aJ]at hf;exact .int k n (ih hf.2)
 |str l s h hr ih=>intro hf;simp only[ae,aJ]at hf;exact .str l s h (ih hf.2)
 |st w l hl hw hr ihl ih=>intro hf;simp only[ae,ab,aJ]at hf;exact .st w _ (ihl hf.1) hw (ih hf.2)
 |
  ar sz n l hl hn hw hr ihl ih=>
  intro hf;simp only[ae,ab,aJ]at hf
  refine .ar sz n _ (ihl hf.1) (by rw[lX];exact hn) (λx hx=> ?_) (ih hf.2)
  obtain⟨p,hp,rfl⟩:=qn hx
  rw[ow];exact hw p hp
 |
  sl sz l clip ad bF hl hw hc hk hb hr ihl ih=>
  intro hf;simp only[ae,ab,aJ]at hf
  have:=aF.sl (Γ:=Δ) sz (aO ρ l) clip ad bF (ihl hf.1) (λx hx=>by obtain⟨p,hp,rfl⟩:=qn hx;rw[ow];exact hw p hp) (by rw[lX];exact hc) (by rw[lX];exact hk)
   (λfB=>by
    obtain⟨b,o,h1,h2,h3,h4⟩:=hb (by intro h;subst h;simp[aO]at fB)
    exact⟨b,o,h1,by rw[hs.heap];exact h2,hs.own b h2 h3,by rw[hs.heap];exact h4⟩) (ih hf.2)
  rw[lX]at this
  exact this
 |
  rs k p off len aE sz c v blk hg h1 hv hr ih=>
  intro hf;simp only[ae,ab,aJ]at hf
  obtain⟨cI,g1,g2,g3⟩:=hs.ref k blk hf.1 hg.1
  refine .rs (ρ k) p off len aE sz c v cI ⟨g1,by rw[g2];exact hg.2⟩ h1 (λht=> ?_) (ih hf.2)
  obtain⟨ad,bF,e1,e2⟩:=hv (by rw[ht,g2])
  exact⟨ad,bF,e1,e2.aI g3 hs.heap⟩
 |np hr ih=>intro hf;simp only[ae,aJ]at hf;exact .np (ih hf.2)
 |
  pt k p aE v blk hg h1 hv hr ih=>
  intro hf;simp only[ae,ab,aJ]at hf
  obtain⟨cI,g1,g2,g3⟩:=hs.ref k blk hf.1 hg.1
  refine .pt (ρ k) p aE v cI ⟨g1,by rw[g2];exact hg.2⟩ h1 (λht=> ?_) (ih hf.2)
  obtain⟨b,e1,e2⟩:=hv (by rw[ht,g2])
  exact⟨b,by rw[g3,e1],e2⟩
 |
  fp sz l p b o hl hw hm hc hr ihl ih=>
  intro hf;simp only[ae,ab,aJ]at hf
  exact .fp sz _ p b o (ihl hf.1) (λx hx=>by obtain⟨p,hp,rfl⟩:=qn hx;rw[ow];exact hw p hp) ⟨by rw[hs.heap];exact hm.1,hs.own b hm.1 hm.2⟩ (by rw[hs.heap];exact hc) (ih hf.2)
 |
  fn g first cap h1 h2 h3 h4 hr i1 i2 ih=>
  intro hf;simp only[ae,ab,aJ]at hf
  exact .fn g _ _ (i1 hf.1.1) (i2 hf.1.2) (λx hx=>by obtain⟨p,hp,rfl⟩:=qn hx;rw[w6];exact h3 p hp) (λx hx=>by obtain⟨p,hp,rfl⟩:=qn hx;rw[w6];exact h4 p hp) (ih hf.2)
 |nf hr ih=>intro hf;simp only[ae,aJ]at hf;exact .nf (ih hf.2)
 |
  ifc t v h1 h2 hr i1 ih=>
  intro hf;simp only[ae,ab,aJ]at hf
  have:=i1 (by simp[ae,hf.1])
  simp only[aO]at this
  exact .ifc t _ this (by rw[w6];exact h2) (ih hf.2)
 |ni hr ih=>intro hf;simp only[ae,aJ]at hf;exact .ni (ih hf.2)
 |mp k b hr ih=>intro hf;simp only[ae,aJ]at hf;exact .mp k b (ih hf.2)
theorem aF.aV {f:Nat->Bool} {ρ:Nat->Nat} {Δ:Cx} (hs:sd f ρ Γ Δ) {p:PV} {cs:List Value} (h:aF Γ [p] cs) (hf:ab f p=true):aF Δ [Ab.aI ρ p] cs:=by
 have:=h.aI hs (by simp[ae,hf])
 simpa only[aO]using this
theorem jG.aI {f:Nat->Bool} {ρ:Nat->Nat} {Δ:Cx} (hs:sd f ρ Γ Δ) {p:PV} {v:Value} (h:jG Γ p v) (hf:ab f p=true):jG Δ (Ab.aI ρ p) v:=by
 cases p
 case un=>trivial
 case st w l=>obtain⟨cs,h1,h2⟩:=h;exact⟨cs,h1,h2.aV hs hf⟩
 case ar sz n l=>obtain⟨cs,h1,h2⟩:=h;exact⟨cs,h1,h2.aV hs hf⟩
 all_goals exact aF.aV hs h hf
theorem aP.aI {f:Nat->Bool} {ρ:Nat->Nat} {Δ:Cx} (hs:sd f ρ Γ Δ):∀ {p:PV} {v:Value},aP Γ p v->ab f p=true->aP Δ (Ab.aI ρ p) v:=by
 have h2:∀ {l:List PV} {vs:List Value},kx Γ l vs->ae f l=true->kx Δ (aO ρ l) vs:=by
  intro l
  induction l with
  |nil=>intro vs h hf;cases vs<;>simp_all [kx,aO]
  |
   cons p l ih=>
   intro vs h hf
   simp only[ae,aJ]at hf
   cases vs with
   |nil=>simp[kx]at h
   |cons v vs=>simp only[kx,aO]at h⊢;exact⟨h.1.aI hs hf.1,ih h.2 hf.2⟩
 intro p
 induction p using PV.rec (motive_2:=λ_=>True)with
 |gd b p ih=>intro v h hf;simp only[Ab.aI,ab]at hf⊢;rw[aP]at h⊢;exact⟨λhb=>ih (h.1 hb) hf,h.2⟩
 |tup l=>intro v h hf;simp only[aP,Ab.aI,ab]at h hf⊢;obtain⟨vs,e,h⟩:=h;exact⟨vs,e,h2 h hf⟩
 |un=>intro v h hf;simp[aP,Ab.aI]
 |st w l=>intro v h hf;obtain⟨cs,e,h⟩:=h;exact⟨cs,e,h.aV hs hf⟩
 |ar sz n l=>intro v h hf;obtain⟨cs,e,h⟩:=h;exact⟨cs,e,h.aV hs hf⟩
 |nil=>trivial
 |cons=>trivial
 |_=>intro v h hf;exact aF.aV hs h hf
def aZ (ρ:Nat->Nat):bh->bh
 | .box v=> .box (Ab.aI ρ v)
 | .arr sz l=> .arr sz (aO ρ l)
 | .map b ks vs l=> .map b ks vs l
def ah (f:Nat->Bool):bh->Bool
 | .box v=>ab f v
 | .arr _ l=>ae f l
 | .map .. =>true
theorem j7 (ρ:Nat->Nat) (b:bh):(aZ ρ b).aE=b.aE:=by cases b<;>simp[aZ,bh.aE,lX]
theorem bh.wL.aI {f:Nat->Bool} {ρ:Nat->Nat} {Δ:Cx} (hs:sd f ρ Γ Δ) {blk:bh} {ob:Option Nat} (h:blk.wL Γ ob) (hf:ah f blk=true):(aZ ρ blk).wL Δ ob:=by
 cases blk with
 |
  box v=>
  obtain⟨b,c,e,h1,h2,h3⟩:=h
  exact⟨b,c,e,h1,by rw[hs.heap];exact h2,h3.aV hs hf⟩
 |
  arr sz l=>
  obtain⟨h1,h2,h3⟩:=h
  refine⟨λx hx=>by obtain⟨p,hp,rfl⟩:=qn hx;rw[ow];exact h1 p hp,h2,?_⟩
  cases ob with
  |none=>trivial
  |
   some b=>
   obtain⟨c,e,cs,rest,h4,h5,h6,h7⟩:=h3
   exact⟨c,e,cs,rest,by rw[hs.heap];exact h4,h5,h6.aI hs hf,h7⟩
 |
  map b ks vs l=>
  obtain⟨h1,h2⟩:=h
  exact⟨h1,by rw[hs.heap];exact h2⟩
end Go.Ab
namespace Go.Ab
variable [eE]
variable {P:Program} {nt:Nat} {ds:List Deferred} {s:St} {Γ:Cx} {a:Act} {w:World}
def KB:Nat:=9000
def aG:Nat->List bh->List (Nat×bh)
 |_,[]=>[]
 |i,b::r=>(KB+i,b)::aG (i+1) r
theorem Cz (B:Nat):∀(l:List bh) (i k:Nat),get ((l.zipIdx i).map λx=>(B+x.2,x.1)) k=if B+i≤k then l[k-B-i]?else none
 |[],i,k=>by simp[get]
 |
  b::l,i,k=>by
  have ih:=Cz B l (i+1) k
  rw[List.zipIdx_cons,List.map_cons]
  unfold get
  rw[ih]
  by_cases h:B+i=k
  ·rw[if_pos h,if_pos (by omega),show k-B-i=0 by omega];rfl
  ·rw[if_neg h]
   by_cases h2:B+i≤k
   ·rw[if_pos h2,if_pos (by omega),show k-B-i=(k-B-(i+1))+1 by omega,List.getElem?_cons_succ]
   ·rw[if_neg h2,if_neg (by omega)]
theorem IT:∀(l:List bh) (i:Nat),aG i l=(l.zipIdx i).map λx=>(KB+x.2,x.1)
 |[],i=>rfl
 |b::l,i=>by rw[aG,IT l (i+1),List.zipIdx_cons,List.map_cons]
theorem gp (l:List bh) (i k:Nat):get (aG i l) k=if KB+i≤k then l[k-KB-i]?else none:=by
 rw[IT];exact Cz KB l i k
def ie (Γ:Cx):List PV->List Value->Prop
 |[],[]=>True
 |p::ps,v::vs=>aP Γ p v∧ie Γ ps vs
 |_,_=>False
def CA (P:Program) (f:FuncId) (vs:Array Value) (w:World) (Q:Ending->World->Prop):Prop:=
 ((callFunc f vs).run P w= .ok (.enter f vs) w∧Calls P f vs w Q)∨∃v w',(callFunc f vs).run P w= .ok (.value v) w'∧Q (.returned v) w'
theorem CA.mono {f:FuncId} {vs:Array Value} {w:World} {Q Q':Ending->World->Prop} (h:CA P f vs w Q) (hq:∀e w',Q e w'->Q' e w'):CA P f vs w Q':=by
 rcases h with⟨h1,h2⟩|⟨v,w',h1,h2⟩
 ·exact .inl ⟨h1,h2.mono hq⟩
 ·exact .inr ⟨v,w',h1,hq _ _ h2⟩
theorem CA.calls {f:FuncId} {vs:Array Value} {w:World} {Q:Ending->World->Prop} (h:CA P f vs w Q) (he:(callFunc f vs).run P w= .ok (.enter f vs) w):Calls P f vs w Q:=by
 rcases h with⟨h1,h2⟩|⟨v,w',h1,h2⟩
 ·exact h2
 ·rw[he]at h1;simp at h1
def af (P:Program) (f:FuncId) (args:List PV) (fp:List bh) (R:PV->List bh->Prop):Prop:=
 ∀
  (Γ:Cx) (w:World) (vs:List Value),w.heap=Γ.heap->Mem Γ->Γ.bx=aG 0 fp->ie Γ args vs->
  CA P f vs.toArray w (λe w'=>∃v r kS Γ',e= .returned v∧R r kS∧w'.heap=Γ'.heap∧Mem Γ'∧Γ'.bx=aG 0 kS∧aP Γ' r v∧Le Γ Γ'∧WF w w')
theorem af.mono {f:FuncId} {args:List PV} {fp:List bh} {R R':PV->List bh->Prop} (h:af P f args fp R) (hr:∀r kS,R r kS->R' r kS):af P f args fp R':=by
 intro Γ w vs h1 h2 h3 h4
 refine(h Γ w vs h1 h2 h3 h4).mono ?_
 rintro e w' ⟨v,r,kS,Γ',e1,e2,e3⟩
 exact⟨v,r,kS,Γ',e1,hr _ _ e2,e3⟩
def idx:List Nat->Nat->Option Nat
 |[],_=>none
 |x::r,k=>if x=k then some 0 else match idx r k with|some i=>some (i+1)|none=>none
theorem lL:∀ {l:List Nat} {k i:Nat},idx l k=some i->l[i]? =some k
 |[],k,i,h=>by simp[idx]at h
 |
  x::r,k,i,h=>by
  simp only[idx]at h
  split at h
  ·simp at h;subst_vars;rfl
  ·split at h
   ·rename_i j hj
    simp at h;subst h
    simpa using lL hj
   ·simp at h
theorem Ap:∀ {l:List Nat} {k i:Nat},l.Nodup->l[i]? =some k->idx l k=some i
 |[],k,i,_,h=>by simp at h
 |
  x::r,k,i,hn,h=>by
  rw[List.nodup_cons]at hn
  cases i with
  |zero=>simp at h;subst h;simp[idx]
  |
   succ i=>
   simp at h
   have fB:x≠k:=by intro e;subst e;exact hn.1 (List.mem_of_getElem? h)
   simp[idx,fB,Ap hn.2 h]
theorem Ff {l:List Nat} {k:Nat} (h:idx l k=none):k∉l:=by
 induction l with
 |nil=>simp
 |
  cons x r ih=>
  simp only[idx]at h
  split at h
  ·simp at h
  ·split at h
   ·simp at h
   ·rename_i fB _ hr
    simp only[cJ,not_or]
    exact⟨λe=>fB e.symm,ih hr⟩
def getAll (bx:List (Nat×bh)):List Nat->Option (List bh)
 |[]=>some []
 |k::r=>match get bx k,getAll bx r with|some b,some l=>some (b::l)|_,_=>none
theorem fc:∀ {ks:List Nat} {bx:List (Nat×bh)} {l:List bh},getAll bx ks=some l->l.length=ks.length∧∀(i:Nat) k,ks[i]? =some k->∃b,get bx k=some b∧l[i]? =some b
 |[],bx,l,h=>by simp[getAll]at h;subst h;simp
 |
  k::r,bx,l,h=>by
  simp only[getAll]at h
  split at h
  ·rename_i b l' hb hl
   simp only[sJ]at h;subst h
   obtain⟨h1,h2⟩:=fc hl
   refine⟨by simp[h1],λi j hj=> ?_⟩
   cases i with
   |zero=>simp at hj;subst hj;exact⟨b,hb,rfl⟩
   |succ i=>simp at hj;simpa using h2 i j hj
  ·simp at h
def bI (bx:List (Nat×bh)):List Nat->List bh->List (Nat×bh)
 |k::ks,b::bs=>bI (put bx k b) ks bs
 |_,_=>bx
theorem qY:∀ {ks:List Nat} {bs:List bh} {bx:List (Nat×bh)} (k:Nat),ks.Nodup->bs.length=ks.length->get (bI bx ks bs) k=match idx ks k with|some i=>bs[i]? |none=>get bx k
 |[],bs,bx,k,_,hl=>by cases bs<;>simp_all [bI,idx]
 |
  x::r,bs,bx,k,hn,hl=>by
  cases bs with
  |nil=>simp at hl
  |
   cons b bs=>
   rw[List.nodup_cons]at hn
   simp only[bI,qY k hn.2 (by simpa using hl),idx]
   by_cases hx:x=k
   ·subst hx
    have:idx r x=none:=by
     cases hi:idx r x with
     |none=>rfl
     |some i=>exact absurd (List.mem_of_getElem? (lL hi)) hn.1
    simp[this,dD]
   ·rw[if_neg hx]
    cases idx r k with
    |none=>simp[cQ _ _ _ _ hx]
    |some i=>simp
def aV (ks:List Nat) (k:Nat):Nat:=match idx ks k with|some i=>KB+i|none=>k
def eP (ks:List Nat) (k:Nat):Nat:=if KB≤k then(ks[k-KB]?).getD k else k
def bj (ks:List Nat) (k:Nat):Bool:=(idx ks k).isSome
def fY (n:Nat) (k:Nat):Bool:=decide (KB≤k∧k<KB+n)
def tB (P:Program) (s:St) (d:Option Nat) (f:FuncId) (args:List PV) (ks os:List Nat) (K:St->Prop):Prop:=
 ∃
  bm R,getAll s.bx ks=some bm∧(ks++os).Nodup∧(∀o∈os,get s.bx o=none)∧ae (bj ks) args=true∧bm.all (ah (bj ks))=true∧
  af P f (aO (aV ks) args) (bm.map (aZ (aV ks))) R∧
  ∀
   r fp,R r fp->(fp.length=(ks++os).length∧ab (fY fp.length) r=true∧fp.all (ah (fY fp.length))=true)∧
   K ({s with bx:=bI s.bx (ks++os) (fp.map (aZ (eP (ks++os))))}.put d (aI (eP (ks++os)) r))
def Cx.call (Γ:Cx) (ks:List Nat) (bm:List bh):Cx:=
 {
  heap:=Γ.heap,ι:=λk=>if KB≤k then(match ks[k-KB]?with|some j=>Γ.ι j|none=>none)else none,
  bx:=aG 0 (bm.map (aZ (aV ks))),ej:=λb=>Γ.own b∧¬∃(i:Nat) (k:Nat),ks[i]? =some k∧Γ.ι k=some b}
def Cx.back (Γ Γ':Cx) (all:List Nat) (fp:List bh):Cx:=
 {
  heap:=Γ'.heap,ι:=λk=>match idx all k with|some i=>Γ'.ι (KB+i)|none=>Γ.ι k,
  bx:=bI Γ.bx all (fp.map (aZ (eP all))),ej:=Γ.ej}
theorem Cx.ox {ks:List Nat} {bm:List bh} (hg:getAll Γ.bx ks=some bm):sd (bj ks) (aV ks) Γ (Γ.call ks bm) where
 heap:=rfl
 own b _ hn:=by
  rintro(⟨k,blk,h1,h2⟩|⟨h,_⟩)
  ·simp only[Cx.call]at h2
   split at h2
   ·split at h2
    ·rename_i j hj
     obtain⟨_,fb⟩:=fc hg
     obtain⟨b',g1,_⟩:=fb _ _ hj
     exact hn (.inl ⟨j,b',g1,h2⟩)
    ·simp at h2
   ·simp at h2
  ·exact hn h
 ref k blk hk hb:=by
  obtain⟨i,hi⟩:=Option.isSome_iff_exists.1 hk
  obtain⟨hl,fb⟩:=fc hg
  obtain⟨b',g1,g2⟩:=fb i k (lL hi)
  rw[hb]at g1;cases g1
  refine⟨aZ (aV ks) blk,?_,j7 _ _,?_⟩
  ·simp only[Cx.call,aV,hi,gp]
   rw[if_pos (by omega)]
   simp[g2]
  ·simp only[Cx.call,aV,hi]
   rw[if_pos (by omega)]
   simp[lL hi]
theorem Cx.lY {ks:List Nat} {bm:List bh} (hg:getAll Γ.bx ks=some bm) {b:Nat}:(Γ.call ks bm).iM b↔∃(i:Nat) (k:Nat),ks[i]? =some k∧Γ.ι k=some b:=by
 obtain⟨hl,fb⟩:=fc hg
 constructor
 ·rintro⟨k,blk,h1,h2⟩
  simp only[Cx.call]at h2
  split at h2
  ·split at h2
   ·rename_i j hj;exact⟨_,j,hj,h2⟩
   ·simp at h2
  ·simp at h2
 ·rintro⟨i,k,h1,h2⟩
  obtain⟨b',g1,g2⟩:=fb i k h1
  refine⟨KB+i,aZ (aV ks) b',?_,?_⟩
  ·simp only[Cx.call,gp]
   rw[if_pos (by omega)]
   simp[g2]
  ·simp only[Cx.call]
   rw[if_pos (by omega)]
   simp[h1,h2]
theorem Cx.vf (hm:Mem Γ) {ks:List Nat} {bm:List bh} (hg:getAll Γ.bx ks=some bm) (hn:ks.Nodup) (ed:bm.all (ah (bj ks))=true):Mem (Γ.call ks bm) where
 blk k blk hk:=by
  obtain⟨hl,fb⟩:=fc hg
  simp only[Cx.call,gp]at hk
  split at hk
  ·rename_i hle
   rw[List.getElem?_map,mJ]at hk
   obtain⟨b0,y7,rfl⟩:=hk
   have hi:=(List.getElem?_eq_some_iff.1 y7).1
   obtain⟨j,hj⟩:∃j,ks[k-KB]? =some j:=⟨_,gJ (by omega)⟩
   obtain⟨b1,g1,g2⟩:=fb _ _ hj
   simp only[Nat.sub_zero]at y7
   rw[y7]at g2;cases g2
   have:=(hm.blk j b0 g1).aI (Cx.ox hg) (List.all_eq_true.1 ed b0 (List.mem_of_getElem? y7))
   have e:(Γ.call ks bm).ι k=Γ.ι j:=by simp only[Cx.call];rw[if_pos (by omega),hj]
   rw[e];exact this
  ·simp at hk
 inj i j b hi hj h1 h2:=by
  obtain⟨hl,fb⟩:=fc hg
  simp only[Cx.call]at h1 h2
  split at h1
  ·split at h2
   ·split at h1
    ·rename_i x hx
     split at h2
     ·rename_i y hy
      obtain⟨b1,g1,_⟩:=fb _ _ hx
      obtain⟨b2,g2,_⟩:=fb _ _ hy
      have:=hm.inj x y b (by simp[g1]) (by simp[g2]) h1 h2
      subst this
      have e1:=Ap hn hx
      have e2:=Ap hn hy
      rw[e1]at e2;simp at e2;omega
     ·simp at h2
    ·simp at h1
   ·simp at h2
  ·simp at h1
 ej b h:=by
  rcases h.1 with h|h
  ·exact hm.lt h
  ·exact hm.ej b h
 apart b h hp:=hp.2 ((Cx.lY hg).1 h)
 yI b cs h:=by
  obtain⟨h1,h2⟩:=hm.yI b cs h
  refine⟨λhb=>h1 ?_,h2⟩
  obtain⟨i,k,g1,g2⟩:=(Cx.lY hg).1 hb
  obtain⟨b',g3,_⟩:=(fc hg).2 i k g1
  exact⟨k,b',g3,g2⟩
theorem tT (hm:Mem Γ) {Γ':Cx} {ks os:List Nat} {bm fp:List bh} (hg:getAll Γ.bx ks=some bm) (hn:(ks++os).Nodup) (QA:∀o∈os,get Γ.bx o=none)
  (s9:Mem Γ') (mH:Γ'.bx=aG 0 fp) (hle:Le (Γ.call ks bm) Γ') (hlen:fp.length=(ks++os).length) (ed:fp.all (ah (fY fp.length))=true):
  sd (fY fp.length) (eP (ks++os)) Γ' (Γ.back Γ' (ks++os) fp)∧Le Γ (Γ.back Γ' (ks++os) fp)∧Mem (Γ.back Γ' (ks++os) fp):=by
 obtain⟨hl,fb⟩:=fc hg
 have hnk:ks.Nodup:=(List.nodup_append.1 hn).1
 have IE:∀k,get (Γ.back Γ' (ks++os) fp).bx k=match idx (ks++os) k with|some i=>(fp.map (aZ (eP (ks++os))))[i]? |none=>get Γ.bx k:=λk=>qY k hn (by simpa using hlen)
 have iQ:Γ.heap.size≤Γ'.heap.size:=hle.size
 --a block of a key that is avW Kh or comes back
 have IJ:∀ {k i:Nat},idx (ks++os) k=some i->∃b0,fp[i]? =some b0∧get Γ'.bx (KB+i)=some b0:=by
  intro k i hi
  have gG:=(List.getElem?_eq_some_iff.1 (lL hi)).1
  have:fp[i]? =some (fp[i]'(by omega)):=gJ (by omega)
  exact⟨_,this,by rw[mH,gp,if_pos (by omega)];simpa using this⟩
 have JW:Γ'.ej=(Γ.call ks bm).ej:=hle.ej
 have BQ:∀ {k b:Nat} {blk:bh},idx (ks++os) k=none->get Γ.bx k=some blk->Γ.ι k=some b->(Γ.call ks bm).ej b:=by
  intro k b blk hi hb hι
  refine⟨.inl ⟨k,blk,hb,hι⟩,?_⟩
  rintro⟨i,k',h1,h2⟩
  obtain⟨b',g1,_⟩:=fb i k' h1
  have:=hm.inj k k' b (by simp[hb]) (by simp[g1]) hι h2
  subst this
  exact Ff hi (List.mem_append.2 (.inl (List.mem_of_getElem? h1)))
 have same:sd (fY fp.length) (eP (ks++os)) Γ' (Γ.back Γ' (ks++os) fp):=by
  refine⟨rfl,λb hb GW=> ?_,λk blk hk hb=> ?_⟩
  ·rintro(⟨k,blk,h1,h2⟩|h)
   ·rw[IE]at h1
    simp only[Cx.back]at h2
    cases hi:idx (ks++os) k with
    |
     some i=>
     rw[hi]at h2
     obtain⟨b0,_,g2⟩:=IJ hi
     exact GW (.inl ⟨_,b0,g2,h2⟩)
    |
     none=>
     rw[hi]at h1 h2
     exact GW (.inr (by rw[JW];exact BQ hi h1 h2))
   ·have h':Γ.ej b:=h
    have hpc:(Γ.call ks bm).ej b:=by
     refine⟨.inr h',?_⟩
     rintro⟨i,k',h1,h2⟩
     obtain⟨b',g1,_⟩:=fb i k' h1
     exact hm.apart b ⟨k',b',g1,h2⟩ h'
    exact GW (.inr (by rw[JW];exact hpc))
  ·simp only[fY,decide_eq_true_eq]at hk
   obtain⟨i,rfl⟩:∃i,k=KB+i:=⟨k-KB,by omega⟩
   have jg:(ks++os)[i]? =some ((ks++os)[i]'(by omega)):=gJ (by omega)
   have hr:eP (ks++os) (KB+i)=(ks++os)[i]'(by omega):=by
    simp only[eP];rw[if_pos (by omega)];simp[jg]
   have amI:=Ap hn jg
   rw[mH,gp,if_pos (by omega)]at hb
   simp only[Nat.add_sub_cancel_left,Nat.sub_zero]at hb
   refine⟨aZ (eP (ks++os)) blk,?_,j7 _ _,?_⟩
   ·rw[IE,hr,amI];simp[hb]
   ·simp only[Cx.back];rw[hr,amI]
 have le:Le Γ (Γ.back Γ' (ks++os) fp):=by
  refine⟨λb hb GW=> ?_,λb hb h=> ?_,rfl,iQ,λk blk hk=> ?_⟩
  ·refine hle.heap b hb (λh=>GW ?_)
   obtain⟨i,k,h1,h2⟩:=(Cx.lY hg).1 h
   obtain⟨b',g1,_⟩:=fb i k h1
   exact⟨k,b',g1,h2⟩
  ·obtain⟨k,blk,h1,h2⟩:=h
   rw[IE]at h1
   simp only[Cx.back]at h2
   cases hi:idx (ks++os) k with
   |
    some i=>
    rw[hi]at h2
    obtain⟨b0,_,g2⟩:=IJ hi
    obtain⟨i',k',g3,g4⟩:=(Cx.lY hg).1 (hle.iM b hb ⟨_,b0,g2,h2⟩)
    obtain⟨b',g1,_⟩:=fb i' k' g3
    exact⟨k',b',g1,g4⟩
   |
    none=>
    rw[hi]at h1 h2
    exact⟨k,blk,h1,h2⟩
  ·cases hi:idx (ks++os) k with
   |
    some i=>
    obtain⟨b0,g1,g2⟩:=IJ hi
    have BR:=lL hi
    have jg:ks[i]? =some k:=by
     rw[List.getElem?_append]at BR
     split at BR
     ·exact BR
     ·rw[QA k (List.mem_of_getElem? BR)]at hk;simp at hk
    obtain⟨b1,g3,g4⟩:=fb i k jg
    rw[hk]at g3;cases g3
    have hce:get (Γ.call ks bm).bx (KB+i)=some (aZ (aV ks) blk):=by
     simp only[Cx.call,gp];rw[if_pos (by omega)];simp[g4]
    have hcι:(Γ.call ks bm).ι (KB+i)=Γ.ι k:=by
     simp only[Cx.call];rw[if_pos (by omega)];simp[jg]
    obtain⟨b2,g5,g6,g7⟩:=hle.ref _ _ hce
    rw[g2]at g5;cases g5
    refine⟨aZ (eP (ks++os)) b0,by rw[IE,hi];simp[g1],by rw[j7];rw[j7]at g6;exact g6,λht=> ?_⟩
    rw[j7]at ht g7
    obtain⟨g8,g9⟩:=g7 ht
    rw[hcι]at g8 g9
    refine⟨by simp only[Cx.back];rw[hi];exact g8,g9⟩
   |
    none=>
    refine⟨blk,by rw[IE,hi];exact hk,Nat.le_refl _,λ_=>⟨by simp only[Cx.back];rw[hi],λb hb cs e hc=>⟨cs,?_,rfl⟩⟩⟩
    have hp:=BQ hi hk hb
    rw[←hc]
    refine hle.heap b (dm hc) (λh=>hp.2 ((Cx.lY hg).1 h))
 refine⟨same,le,⟨λk blk hk=> ?_,λi j b hi hj h1 h2=> ?_,λb h=>Nat.lt_of_lt_of_le (hm.ej b h) iQ,λb h hp=>hm.apart b (le.iM b (hm.ej b hp) h) hp,hm.mR le⟩⟩
 ·rw[IE]at hk
  cases hi:idx (ks++os) k with
  |
   some i=>
   rw[hi]at hk
   obtain⟨b0,g1,g2⟩:=IJ hi
   simp only[List.getElem?_map,g1,Option.map_some,sJ]at hk
   subst hk
   have:=(s9.blk _ _ g2).aI same (List.all_eq_true.1 ed b0 (List.mem_of_getElem? g1))
   have e:(Γ.back Γ' (ks++os) fp).ι k=Γ'.ι (KB+i):=by simp only[Cx.back];rw[hi]
   rw[e];exact this
  |
   none=>
   rw[hi]at hk
   have e:(Γ.back Γ' (ks++os) fp).ι k=Γ.ι k:=by simp only[Cx.back];rw[hi]
   rw[e]
   have hb:=hm.blk k blk hk
   refine hb.mono le (λb EN=> ?_)
   have hp:=BQ hi hk EN
   rw[EN]at hb
   exact hle.heap b hb.lt (λh=>hp.2 ((Cx.lY hg).1 h))
 ·rw[IE]at hi hj
  simp only[Cx.back]at h1 h2
  cases e1:idx (ks++os) i with
  |
   some x=>
   rw[e1]at h1
   obtain⟨b0,_,g2⟩:=IJ e1
   cases e2:idx (ks++os) j with
   |
    some y=>
    rw[e2]at h2
    obtain⟨b1,_,g3⟩:=IJ e2
    have:=s9.inj _ _ b (by simp[g2]) (by simp[g3]) h1 h2
    have LX:x=y:=by omega
    subst LX
    have:=lL e1
    rw[lL e2]at this
    exact(Option.some.inj this).symm
   |
    none=>
    rw[e2]at hj h2
    obtain⟨b1,WA⟩:=Option.isSome_iff_exists.1 hj
    have hp:=BQ e2 WA h2
    rw[←JW]at hp
    exact absurd hp (s9.apart b ⟨_,b0,g2,h1⟩)
  |
   none=>
   rw[e1]at hi h1
   obtain⟨b0,y7⟩:=Option.isSome_iff_exists.1 hi
   cases e2:idx (ks++os) j with
   |
    some y=>
    rw[e2]at h2
    obtain⟨b1,_,g3⟩:=IJ e2
    have hp:=BQ e1 y7 h1
    rw[←JW]at hp
    exact absurd hp (s9.apart b ⟨_,b1,g3,h2⟩)
   |
    none=>
    rw[e2]at hj h2
    exact hm.inj i j b (by simpa[y7]using hi) hj h1 h2
end Go.Ab
namespace Go.Ab
variable [eE]
variable {P:Program} {nt:Nat} {ds:List Deferred} {s:St} {Γ:Cx} {a:Act} {w:World} {l:Nat} {o:Obj}
abbrev FW (ro:Option Nat):Fence:= {Fence.wide with round:=ro}
theorem Mz {ro:Option Nat} {f:FuncId} {args:Array Value} {R:Ending->World->Prop} (h:Calls P f args w R):CallsIn (FW ro) 0 P f args w R:=
 (callsIn_wide (n:=0)).2 h
theorem Kk {ro:Option Nat} {f:FuncId} {args:Array Value} {R:Ending->World->Prop} (h:CallsIn (FW ro) 0 P f args w R):Calls P f args w R:=
 (callsIn_wide (n:=0)).1 h
def Ug:Obj->Bool
 | .cells .. | .map .. =>true
 |_=>false
def Cx.obj (Γ:Cx) (l:Nat) (o:Obj):Cx:= {Γ with heap:=Γ.heap.setIfInBounds l o}
def Cx.iW (Γ:Cx) (l:Nat):Prop:=∃x,Γ.heap[l]? =some x∧Ug x=false
theorem jQ {b:Nat} (h:b≠l):(Γ.obj l o).heap[b]? =Γ.heap[b]? :=by simp[Cx.obj,Array.getElem?_setIfInBounds_ne (Ne.symm h)]
theorem vh (h:l<Γ.heap.size):(Γ.obj l o).heap[l]? =some o:=by simp[Cx.obj,h]
theorem nr:(Γ.obj l o).heap.size=Γ.heap.size:=by simp[Cx.obj]
theorem Cx.iW.lt (h:Γ.iW l):l<Γ.heap.size:=by obtain⟨x,hx,_⟩:=h;exact dm hx
theorem Cx.iW.ne' (h:Γ.iW l) {b:Nat} {x:Obj} (hb:Γ.heap[b]? =some x) (hx:Ug x=true):b≠l:=by
 rintro rfl
 obtain⟨y,hy,hc⟩:=h
 rw[hb]at hy;cases hy;rw[hx]at hc;simp at hc
theorem Cx.iW.ne (h:Γ.iW l) {b:Nat} {c:Array Value} {e:TypeId} {z:Nat×Nat} (hb:Γ.heap[b]? =some (.cells c e z)):b≠l:=h.ne' hb rfl
theorem Aq (hm:Mem Γ) {b:Nat} (h:Γ.iM b):∃x,Γ.heap[b]? =some x∧Ug x=true:=by
 obtain⟨k,blk,h1,h2⟩:=h
 have:=hm.blk k blk h1
 rw[h2]at this
 cases blk with
 |box v=>obtain⟨b',c,e,e1,e2,_⟩:=this;cases e1;exact⟨_,e2,rfl⟩
 |arr sz l=>obtain⟨_,_,c,e,cs,rest,e2,_⟩:=this;exact⟨_,e2,rfl⟩
 |map b0 ks vs l=>obtain⟨e1,es,clock,e2,_⟩:=this;cases e1;exact⟨_,e2,rfl⟩
theorem Ar (hm:Mem Γ) (h:Γ.iW l):¬Γ.iM l:=by
 intro hb
 obtain⟨x,hx,hc⟩:=Aq hm hb
 exact h.ne' hx hc rfl
theorem IU (h:Γ.iW l):Mj Γ (Γ.obj l o) where
 cell b i c _ _ hc:=by
  have hb:b≠l:=by
   rintro rfl
   obtain⟨x,hx,hp⟩:=h
   unfold Ab.cell at hc
   rw[hx]at hc
   cases x<;>simp_all [Ug]
  unfold Ab.cell at hc⊢
  rw[jQ hb];exact hc
 own b _ ho:=ho
 size:=by rw[nr];exact Nat.le_refl _
 ref k blk hk:=⟨blk,hk,Nat.le_refl _,λ_=>⟨rfl,λb _ cs e hc=>⟨cs,by rw[jQ (h.ne hc)];exact hc,rfl⟩⟩⟩
theorem zd (hm:Mem Γ) (h:Γ.iW l):Mem (Γ.obj l o) where
 blk k blk hk:=(hm.blk k blk hk).nY (IU h) λb hb=>by
  obtain⟨x,hx,hc⟩:=Aq hm ⟨k,blk,hk,hb⟩
  exact jQ (h.ne' hx hc)
 inj:=hm.inj
 ej b hb:=by rw[nr];exact hm.ej b hb
 apart:=hm.apart
 yI b cs hb:=by
  obtain⟨h1,e,x,h2⟩:=hm.yI b cs hb
  exact⟨h1,e,x,by rw[jQ (h.ne h2)];exact h2⟩
theorem CB (h:Γ.iW l) (ho:Ug o=false):(Γ.obj l o).iW l:=⟨o,vh h.lt,ho⟩
theorem Le.plain {A B:Cx} (h:Le A B) (hm:Mem A) {x:Obj} (hx:A.heap[l]? =some x) (hc:Ug x=false):B.heap[l]? =some x:=by
 rw[h.heap l (dm hx) (Ar hm ⟨x,hx,hc⟩)];exact hx
theorem yi {A B:Cx} (h:Le A B) (hm:Mem A) (ha:A.iW l) (ho:Ug o=false):Le (A.obj l o) (B.obj l o) where
 heap b hb hn:=by
  rw[nr]at hb
  by_cases e:b=l
  ·subst e;rw[vh hb,vh (Nat.lt_of_lt_of_le hb h.size)]
  ·rw[jQ e,jQ e];exact h.heap b hb hn
 iM b hb hn:=by rw[nr]at hb;exact h.iM b hb hn
 ej:=h.ej
 size:=by rw[nr,nr];exact h.size
 ref k blk hk:=by
  obtain⟨cI,h1,h2,h3⟩:=h.ref k blk hk
  refine⟨cI,h1,h2,λht=>⟨(h3 ht).1,λb hb cs e hc=> ?_⟩⟩
  have fB:b≠l:=(CB ha ho).ne hc
  rw[jQ fB]at hc⊢
  exact(h3 ht).2 b hb cs e hc
theorem vi {A B:Cx} (h:Le A B) (hl:A.heap.size≤l) (hb:B.iW l):Le A (B.obj l o) where
 heap b gG hn:=by rw[jQ (by omega)];exact h.heap b gG hn
 iM b gG hn:=h.iM b gG hn
 ej:=h.ej
 size:=by rw[nr];exact h.size
 ref k blk hk:=by
  obtain⟨cI,h1,h2,h3⟩:=h.ref k blk hk
  refine⟨cI,h1,h2,λht=>⟨(h3 ht).1,λb rX cs e hc=> ?_⟩⟩
  obtain⟨Dl,h4,h5⟩:=(h3 ht).2 b rX cs e hc
  exact⟨Dl,by rw[jQ (hb.ne h4)];exact h4,h5⟩
theorem MA {o':Obj} (h:Γ.heap[l]? =some o):(Γ.obj l o').obj l o=Γ:=by
 have gG:=dm h
 have:(Γ.heap.setIfInBounds l o').setIfInBounds l o=Γ.heap:=by
  apply Array.ext
  ·simp
  ·intro i h1 h2
   rw[Array.getElem_setIfInBounds (by simpa using h2)]
   split
   ·subst_vars;exact((Array.getElem?_eq_some_iff.1 h).2).symm
   ·rename_i fB
    rw[Array.getElem_setIfInBounds h2,if_neg fB]
 simp only[Cx.obj,this]
theorem iB.obj (hs:iB nt ds s Γ a) (h:Γ.iW l):iB nt ds s (Γ.obj l o) a:=
 ⟨hs.bx,hs.size,hs.defers,λk p hk=>(hs.env k p hk).nY (IU h),zd hs.mem h⟩
theorem vj (h:w.heap=Γ.heap):(w.putObj l o).heap=(Γ.obj l o).heap:=by simp[World.putObj,Cx.obj,h]
theorem WF.obj (w:World) (l:Nat) (o:Obj):WF w (w.putObj l o):=⟨rfl,rfl,rfl⟩
theorem WF.alloc (w:World) (o:Obj):WF w (w.alloc o):=⟨rfl,rfl,rfl⟩
def lZ (B:Nat) (Γ:Cx) (ds:List Deferred):Prop:=
 ∃Ds:List Nat,ds=Ds.map (λD=> {target:= .collected D,args:= #[]})∧Ds.Nodup∧∀D∈Ds,B≤D∧Γ.heap[D]? =some (.deferred (some []))
theorem lZ.nil {B:Nat}:lZ B Γ []:=⟨[],rfl,.nil,by simp⟩
theorem lZ.le {B:Nat} {Γ':Cx} (h:lZ B Γ ds) (hm:Mem Γ) (hle:Le Γ Γ'):lZ B Γ' ds:=by
 obtain⟨Ds,h1,h2,h3⟩:=h
 exact⟨Ds,h1,h2,λD hD=>⟨(h3 D hD).1,hle.plain hm (h3 D hD).2 rfl⟩⟩
theorem lZ.heap {B:Nat} {Γ':Cx} (h:lZ B Γ ds) (he:Γ'.heap=Γ.heap):lZ B Γ' ds:=by
 obtain⟨Ds,h1,h2,h3⟩:=h
 exact⟨Ds,h1,h2,λD hD=>⟨(h3 D hD).1,by rw[he];exact(h3 D hD).2⟩⟩
def eU (n:Nat):List Nat:=(List.range n).map (KB+·)
def MC (P:Program) (l:Nat) (Γc:Cx) (args:List PV) (fp:List bh) (R:List bh->Prop):Prop:=
 ∀
  (Γ:Cx) (w:World) (vs:List Value),w.heap=Γ.heap->Mem Γ->Γ.bx=aG 0 fp->ie Γ args vs->Mj Γc Γ->Γ.heap[l]? =Γc.heap[l]? ->
  YieldAt (FW none) 0 P l vs.toArray w (λe w'=>∃kS Γ',e= .returned (.bool true)∧R kS∧w'.heap=Γ'.heap∧Mem Γ'∧Γ'.bx=aG 0 kS∧Le Γ Γ'∧WF w w')
class iZ where
 n:Nat
 spec:Nat->List PV->List bh->(List bh->Prop)->Prop
instance noY:iZ:=⟨0,λ_ _ _ _=>False⟩
def As [Y:iZ] (P:Program) (Γ:Cx):Prop:=∀l args fp R,Y.spec l args fp R->
 ∃Γ0 rec,Le Γ0 Γ∧(∀k blk,get Γ0.bx k=some blk->KB≤k∧k<KB+Y.n)∧Γ0.heap[l]? =some (.loop rec)∧Mem Γ0∧MC P l Γ0 args fp R
theorem As.le [iZ] {Γ':Cx} (h:As P Γ) (hle:Le Γ Γ'):As P Γ':=λl args fp R hs=>by
 obtain⟨Γ0,rec,h1,h2⟩:=h l args fp R hs
 exact⟨Γ0,rec,h1.trans hle,h2⟩
theorem As.no: @As _ noY P Γ:=λ_ _ _ _ h=>h.elim
def Hh [Y:iZ] (s:St) (d:Option Nat) (l:Nat) (args:List PV) (K:St->Prop):Prop:=
 ∃
  bm R,getAll s.bx (eU Y.n)=some bm∧ae (fY Y.n) args=true∧bm.all (ah (fY Y.n))=true∧Y.spec l args bm R∧
  ∀fp,R fp->(fp.length=Y.n∧fp.all (ah (fY Y.n))=true)∧K ({s with bx:=bI s.bx (eU Y.n) fp}.put d (.bl true))
theorem n9 (n:Nat):(eU n).Nodup:=by
 unfold eU
 exact List.Pairwise.map _ (λa b h=>by simp only[ne_eq];omega) List.nodup_range
theorem w7 {n i k:Nat}:(eU n)[i]? =some k↔i<n∧k=KB+i:=by
 unfold eU
 simp only[List.getElem?_map,mJ]
 constructor
 ·rintro⟨x,h1,h2⟩
  obtain⟨h3,h4⟩:=List.getElem?_eq_some_iff.1 h1
  simp at h3 h4;subst h4
  exact⟨h3,h2.symm⟩
 ·rintro⟨h1,rfl⟩
  exact⟨i,by simp[h1],rfl⟩
theorem At {n k:Nat}:idx (eU n) k=if KB≤k∧k<KB+n then some (k-KB)else none:=by
 split
 ·rename_i h
  exact Ap (n9 n) (w7.2 ⟨by omega,by omega⟩)
 ·rename_i h
  cases hi:idx (eU n) k with
  |none=>rfl
  |some i=>exact absurd (w7.1 (lL hi)) (by omega)
theorem pB (n:Nat):bj (eU n)=fY n:=by
 funext k
 simp only[bj,At,fY]
 split<;>simp_all
theorem pC {n k:Nat}:aV (eU n) k=k:=by
 unfold aV
 rw[At]
 split
 ·rename_i i h
  split at h<;>simp at h
  omega
 ·rfl
mutual
theorem vk {ρ:Nat->Nat} (h:∀k,ρ k=k):∀p,aI ρ p=p
 | .rs k _ _ _ _ _ _=>by simp[aI,h]
 | .pt k _ _=>by simp[aI,h]
 | .st _ l=>by simp[aI,ki h l]
 | .ar _ _ l=>by simp[aI,ki h l]
 | .tup l=>by simp[aI,ki h l]
 | .sl _ l _=>by simp[aI,ki h l]
 | .fp _ l _=>by simp[aI,ki h l]
 | .fn _ x y=>by simp[aI,ki h x,ki h y]
 | .gd _ p=>by simp[aI,vk h p]
 | .ifc _ p=>by simp[aI,vk h p]
 | .un| .bl _| .int .. | .str _| .np| .nf| .ni| .mp .. =>by simp[aI]
theorem ki {ρ:Nat->Nat} (h:∀k,ρ k=k):∀l,aO ρ l=l
 |[]=>rfl
 |p::l=>by simp[aO,vk h p,ki h l]
end
theorem Kl {ρ:Nat->Nat} (h:∀k,ρ k=k) (b:bh):aZ ρ b=b:=by
 cases b<;>simp[aZ,vk h,ki h]
theorem tU {ρ:Nat->Nat} (h:∀k,ρ k=k) (l:List bh):l.map (aZ ρ)=l:=by
 induction l<;>simp[Kl h, *]
theorem MD {Γ0:Cx} {n:Nat} {bm:List bh} (h0:∀k blk,get Γ0.bx k=some blk->KB≤k∧k<KB+n) (hle:Le Γ0 Γ) (hg:getAll Γ.bx (eU n)=some bm):Mj Γ0 (Γ.call (eU n) bm) where
 cell b i c hb hn hc:=by
  have:=hle.heap b hb λh=>hn (.inl h)
  rw[show(Γ.call (eU n) bm).heap=Γ.heap from rfl,uW this];exact hc
 own b hb ho:=by
  have hG:Γ.own b:=by
   rcases ho with ho|ho
   ·obtain⟨i,k,h1,h2⟩:=(Cx.lY hg).1 ho
    obtain⟨_,fb⟩:=fc hg
    obtain⟨b',g1,_⟩:=fb i k h1
    exact .inl ⟨k,b',g1,h2⟩
   ·exact ho.1
  exact hle.own b hb hG
 size:=hle.size
 ref k blk hk:=by
  obtain⟨h1,h2⟩:=h0 k blk hk
  obtain⟨cI,g1,g2,g3⟩:=hle.ref k blk hk
  have hs:=Cx.ox (Γ:=Γ) hg
  obtain⟨avX,e1,e2,e3⟩:=hs.ref k cI (by rw[pB];simp[fY,h1,h2]) g1
  rw[pC]at e1 e3
  refine⟨avX,e1,by omega,λht=> ?_⟩
  obtain⟨g4,g5⟩:=g3 (by omega)
  exact⟨by rw[e3,g4],g5⟩
end Go.Ab
namespace Go.Ab
variable [eE]
variable {P:Program} {nt:Nat} {ds:List Deferred} {s:St} {Γ:Cx} {a:Act} {w:World}
theorem aF.ad8 {Δ:Cx}:∀ {l:List PV} {cs:List Value},aF Γ l cs->l.all PV.isNum=true->aF Δ l cs
 |_,_,.nil,_=> .nil
 |_,_,.int k n h,hn=> .int k n (aF.ad8 h (by simpa[PV.isNum]using hn))
 |_,_,.un _ _,hn=>by simp[PV.isNum]at hn
 |_,_,.bl _ _,hn=>by simp[PV.isNum]at hn
 |_,_,.str _ _ _ _,hn=>by simp[PV.isNum]at hn
 |_,_,.st _ _ _ _ _,hn=>by simp[PV.isNum]at hn
 |_,_,.ar _ _ _ _ _ _ _,hn=>by simp[PV.isNum]at hn
 |_,_,.sl _ _ _ _ _ _ _ _ _ _ _,hn=>by simp[PV.isNum]at hn
 |_,_,.rs _ _ _ _ _ _ _ _ _ _ _ _ _,hn=>by simp[PV.isNum]at hn
 |_,_,.np _,hn=>by simp[PV.isNum]at hn
 |_,_,.pt _ _ _ _ _ _ _ _ _,hn=>by simp[PV.isNum]at hn
 |_,_,.fp _ _ _ _ _ _ _ _ _ _,hn=>by simp[PV.isNum]at hn
 |_,_,.fn _ _ _ _ _ _ _ _,hn=>by simp[PV.isNum]at hn
 |_,_,.nf _,hn=>by simp[PV.isNum]at hn
 |_,_,.ifc _ _ _ _ _,hn=>by simp[PV.isNum]at hn
 |_,_,.ni _,hn=>by simp[PV.isNum]at hn
 |_,_,.mp _ _ _,hn=>by simp[PV.isNum]at hn
def Cx.lit (Γ:Cx) (b:Nat) (o:Obj) (k:Nat) (blk:bh):Cx:=
 {heap:=Γ.heap.setIfInBounds b o,ι:=λi=>if i=k then none else Γ.ι i,bx:=put Γ.bx k blk,ej:=Γ.ej}
theorem DI (hm:Mem Γ) {k b:Nat} {blk cI:bh} {o o':Obj} (hg:get Γ.bx k=some blk) (hb:Γ.ι k=some b) (ho:Γ.heap[b]? =some o) (ht:blk.aE<cI.aE):Le Γ (Γ.lit b o' k cI) where
 heap b' rX fB:=by
  have:b≠b':=by intro h;subst h;exact fB ⟨k,blk,hg,hb⟩
  simp only[Cx.lit]
  rw[Array.getElem?_setIfInBounds_ne this]
 iM b' rX h:=by
  obtain⟨i,bl,hgi,hi⟩:=h
  simp only[Cx.lit,fC]at hgi hi
  by_cases jg:k=i
  ·subst jg;simp at hi
  ·rw[if_neg jg]at hgi
   rw[if_neg (λe=>jg e.symm)]at hi
   exact⟨i,bl,hgi,hi⟩
 ej:=rfl
 size:=by simp[Cx.lit]
 ref i bl h:=by
  by_cases jg:k=i
  ·subst jg
   rw[hg]at h;cases h
   exact⟨cI,by simp[Cx.lit,dD],by omega,λe=>by omega⟩
  ·refine⟨bl,by simp only[Cx.lit];rw[cQ _ _ _ _ jg];exact h,Nat.le_refl _,λ_=>⟨by simp only[Cx.lit];rw[if_neg (λe=>jg e.symm)],λb2 EN cs e hc=>⟨cs,?_,rfl⟩⟩⟩
   have fB:b≠b2:=by
    intro h';subst h'
    exact jg (hm.inj k i b (by rw[hg];rfl) (by rw[h];rfl) hb EN)
   simp only[Cx.lit]
   rw[Array.getElem?_setIfInBounds_ne fB];exact hc
theorem QR (hm:Mem Γ) {k b:Nat} {blk cI:bh} {o o':Obj} (hg:get Γ.bx k=some blk) (hb:Γ.ι k=some b) (ho:Γ.heap[b]? =some o) (ht:blk.aE<cI.aE) (hr:cI.wL (Γ.lit b o' k cI) none):Mem (Γ.lit b o' k cI) where
 blk i bl h:=by
  by_cases jg:k=i
  ·subst jg
   simp only[Cx.lit,dD,sJ]at h
   subst h
   have:(Γ.lit b o' k cI).ι k=none:=by simp[Cx.lit]
   rw[this];exact hr
  ·simp only[Cx.lit]at h
   rw[cQ _ _ _ _ jg]at h
   have h2:=hm.blk i bl h
   have hi:(Γ.lit b o' k cI).ι i=Γ.ι i:=by simp only[Cx.lit];rw[if_neg (λe=>jg e.symm)]
   rw[hi]
   exact h2.mono (DI hm hg hb ho ht) (λb2 EN=>by
    have fB:b≠b2:=by
     intro h';subst h'
     exact jg (hm.inj k i b (by simp[hg]) (by simp[h]) hb EN)
    simp only[Cx.lit];rw[Array.getElem?_setIfInBounds_ne fB])
 inj i j b2 hi hj h1 h2:=by
  simp only[Cx.lit]at h1 h2
  have BR:¬i=k:=by intro e;rw[if_pos e]at h1;cases h1
  have hkj:¬j=k:=by intro e;rw[if_pos e]at h2;cases h2
  rw[if_neg BR]at h1
  rw[if_neg hkj]at h2
  refine hm.inj i j b2 ?_ ?_ h1 h2
  ·simp only[Cx.lit]at hi;rwa [cQ _ _ _ _ (λe=>BR e.symm)]at hi
  ·simp only[Cx.lit]at hj;rwa [cQ _ _ _ _ (λe=>hkj e.symm)]at hj
 ej b2 h:=by have:=hm.ej b2 h;simpa[Cx.lit]using this
 apart b2 h hp:=hm.apart b2 ((DI hm (o':=o') hg hb ho ht).iM b2 (hm.ej b2 hp) h) hp
 yI:=hm.mR (DI hm hg hb ho ht)
theorem yL (w:World) (t e e':TypeId) (C:Array Value) (b n c:Nat) (ht:P.underlying t=some (.slice e)) (he:P.underlying e=some (.int .u8)) (hb:w.heap[b]? =some (.cells C e' (0,0))):
  (convert t t (.slice (some ⟨b,0,none⟩) n c)).run P w= .ok (.slice (some ⟨b,0,none⟩) n c) {w with heap:=w.heap.setIfInBounds b (.cells C e' (C.size,C.size+1))}:=by
 have EM:w.shape? b=some (e',C.size):=by unfold World.shape?;rw[hb]
 have n6:w.freeze ⟨b,C.size,none⟩ 1= {w with heap:=w.heap.setIfInBounds b (.cells C e' (C.size,C.size+1))}:=by
  unfold World.freeze
  rw[if_neg (by decide)]
  have:∀f:Obj->Obj,w.heap.modify b f=w.heap.setIfInBounds b (f (.cells C e' (0,0))):=by
   intro f
   apply Array.ext_getElem?
   intro i
   rw[Array.getElem?_modify,Array.getElem?_setIfInBounds]
   by_cases h:b=i
   ·subst h
    rw[hb];simp[dm hb]
   ·simp[h]
  rw[this]
  rfl
 simp[convert,run_underlying ht,run_underlying he,markStringish,EM,n6]
theorem Km {o:Oper} {t e:TypeId} {x:Operand} {x':AX} {K:St->Prop} (ho:o.op= .convert t t x) (h1:P.underlying t=some (.slice e)) (h3:P.underlying e=some (.int .u8))
  (hx:gN x=some x') (hs:iB nt ds s Γ a) (hw:w.heap=Γ.heap) (hd:∀k,o.dst=some k->k<nt) (he:ex s o.dst (.convL x') K):lD P nt ds o a w Γ K:=by
 simp only[ex]at he
 obtain⟨p,hp,hr⟩:=cU hx hs rfl he
 cases p<;>simp only at hp<;>first|exact hp.elim|skip
 rename_i k pth off len aE sz c
 split at hp
 ·rename_i bL l hg
  obtain⟨⟨rfl,rfl,rfl,rfl,rfl,rfl,rfl,fB,aal⟩,hK⟩:=hp
  rw[←hs.bx]at hg
  obtain⟨ad,bF,hv,ed⟩:=hr.rs hg rfl
  have LW:=hs.mem.blk _ _ hg
  unfold jC at ed
  have hlen:0<l.length:=by cases l<;>simp at fB⊢
  cases hι:Γ.ι k with
  |none=>rw[hι]at ed;simp only at ed;omega
  |
   some b=>
   rw[hι]at ed
   simp only at ed
   obtain⟨TU,had,_,avZ⟩:=ed
   obtain⟨_,G8,e0,aCq,Cq⟩:=avZ trivial
   have av0:ad=some ⟨b,0,none⟩:=by
    rcases had with h|h
    ·omega
    ·simpa[dj]using h
   subst av0
   simp only[bh.wL,hι]at LW
   obtain⟨amJ,_,C,e1,cs,rest,hC,EP,JX,_⟩:=LW
   have uR:w.heap[b]? =some (.cells C e1 (0,0)):=by rw[hw];exact hC
   have ht:(bh.arr 1 l).aE<(bh.arr 1 (l++[.int .u8 0])).aE:=by simp[bh.aE]
   have jl:(execOp a.eval o).run P w= .ok (.value (.slice (some ⟨b,0,none⟩) l.length bF)) {w with heap:=w.heap.setIfInBounds b (.cells C e1 (C.size,C.size+1))}:=by
    have e2:execOp a.eval o=(do Pure.pure (Next.value (←convert t t (a.eval x)))):=by unfold execOp;rw[ho]
    rw[e2,bJ,hv,yL w t e e1 C b l.length bF h1 h3 uR];rfl
   have hle:=DI hs.mem (o':= .cells C e1 (C.size,C.size+1)) hg hι hC ht
   have jz:=QR hs.mem (o':= .cells C e1 (C.size,C.size+1)) hg hι hC ht ⟨by
    intro y hy
    rcases List.mem_append.1 hy with h|h
    ·exact amJ y h
    ·simp at h;subst h;rfl,by omega,trivial⟩
   have g1:=hs.le hle jz (wM:=put s.bx k (.arr 1 (l++[.int .u8 0]))) (by simp[Cx.lit,hs.bx])
   have amK:¬(Γ.lit b (.cells C e1 (C.size,C.size+1)) k (.arr 1 (l++[.int .u8 0]))).own b:=by
    rintro(⟨i,bl,q1,q2⟩|q)
    ·simp only[Cx.lit]at q1 q2
     by_cases jg:i=k
     ·rw[if_pos jg]at q2;cases q2
     ·rw[if_neg jg]at q2
      rw[cQ _ _ _ _ (λe=>jg e.symm)]at q1
      exact jg (hs.mem.inj i k b (by simp[q1]) (by simp[hg]) q2 hι)
    ·exact hs.mem.apart b ⟨k,_,hg,hι⟩ q
   have Dp:aP (Γ.lit b (.cells C e1 (C.size,C.size+1)) k (.arr 1 (l++[.int .u8 0]))) (.sl 1 l false) (.slice (some ⟨b,0,none⟩) l.length bF):=by
    simp only[aP]
    refine .sl 1 l false _ bF (JX.ad8 aal) amJ TU (by simp) (λ_=>⟨b,0,rfl,by simp[Cx.lit];exact dm hC,amK,λi c hc=> ?_⟩) .nil
    simp only[cell,Cx.lit,Nat.zero_add]
    rw[uJ (dm hC)]
    simp only
    rw[←Array.getElem?_toList,EP,List.getElem?_append_left (List.getElem?_eq_some_iff.1 hc).1]
    exact hc
   have g2:=g1.put hd Dp
   refine⟨_,_,_,_,_,jl,.inl rfl,g2,by simp[Cx.lit,hw],hle,⟨rfl,rfl,rfl⟩,hK⟩
 ·exact hp.elim
end Go.Ab
namespace Go.Ab
variable [eE]
variable {P:Program} {nt:Nat} {ds:List Deferred} {s:St} {Γ:Cx} {a:Act} {w:World}
theorem Fg {o:Oper} {t u e:TypeId} {kn:IntKind} {i:TypeInfo} {z:Value} {zz:PV} {x y:Operand} {x' y':AX} {K:St->Prop} (ho:o.op= .call {callee:= .builtin .append,args:= #[x,y],argTypes:= #[t,u]})
  (ht:P.underlying t=some (.slice e)) (hu:P.underlying u=some (.int kn)) (hi:P.info? e=some i) (hz:i.zero=some z) (hzz:zeroOf P e=some zz) (Wx:z.cells.size=i.size) (ky:0<i.size) (aag:z.cells.toList.all gF=true)
  (hx:gN x=some x') (hy:gN y=some y') (hs:iB nt ds s Γ a) (hw:w.heap=Γ.heap) (hd:∀k,o.dst=some k->k<nt) (he:ex s o.dst (.appendZ i.size i.bytes zz x' y') K):lD P nt ds o a w Γ K:=by
 simp only[ex]at he
 obtain⟨p,hp,tw⟩:=cU hx hs rfl he
 obtain⟨q,hq,nU⟩:=cU hy hs rfl hp
 obtain⟨kv,m,hm,hA⟩:=gY hq nU
 obtain⟨zv,Qx,Ww,BM,_,aCr⟩:=lP (Γ:=Γ) hzz
 have TP:zz.width=i.size:=by rw[wX hi]at BM;exact(Option.some.inj BM).symm
 have av2:zv=z:=by
  have h1:=Qx w
  simp only[zeroValue,typeInfo,bJ]at h1
  simp[hi,hz]at h1
  exact h1.symm
 subst av2
 unfold oI at hA
 split at hA
 ·exact hA.elim
 rename_i k hk
 split at hA
 case h_2=>exact hA.elim
 rename_i k2 len aE bL n
 split at hA
 case h_2=>exact hA.elim
 rename_i sz'' l hg
 obtain⟨⟨j2,h1,h2,h3,hln,avT,Pk,gG,h5,h6⟩,hK⟩:=hA
 subst h1 h2 h3
 have lC:=hg
 rw[←hs.bx]at lC
 obtain⟨ad,bF,hv,ed⟩:=tw.rs lC rfl
 obtain⟨mF,_,lB⟩:=hs.mem.blk k2 _ lC
 have hwt:∀x∈l.take len,x.width=i.size:=λx hx=>mF x (List.mem_of_mem_take hx)
 have E3:(l.take len).length=len:=by rw[lJ];omega
 have Hc:bF=n:=by
  unfold jC at ed
  split at ed
  ·exact ed.2.2
  ·exact ed.2.2.1
 subst Hc
 obtain⟨mn,rfl⟩:∃mn:Nat,m=mn:=⟨m.toNat,by omega⟩
 simp only[Int.toNat_natCast]at gG h5 h6 hK
 --the old cells
 obtain⟨cs,BY,lH⟩:∃cs,aF Γ (l.take len) cs∧(0<len->∃b o,ad=some ⟨b,o,none⟩∧∀j x,cs[j]? =some x->cell Γ.heap b (o+j)=some x):=by
  unfold jC at ed
  cases hι:Γ.ι k2 with
  |
   none=>
   rw[hι]at ed
   obtain⟨rfl,_,_⟩:=ed
   exact⟨[],by simpa using aF.nil,by simp⟩
  |
   some b=>
   rw[hι]at ed lB
   obtain⟨o1,o2,_,_⟩:=ed
   obtain⟨c,ce,cs,rest,h7,h8,h9,G7⟩:=lB
   refine⟨cs.take (len*i.size),h9.Fe mF len (by omega),λhp=> ?_⟩
   rcases o2 with o2|rfl
   ·omega
   refine⟨b,_,rfl,λj x hj=> ?_⟩
   have hb:=lW h7 cs rest h8
   have ER:cs[j]? =some x:=by
    rw[List.getElem?_take]at hj;split at hj
    ·exact hj
    ·cases hj
   simpa[dj]using hb j x ER
 have tx:cs.length=len*i.size:=by rw[BY.length,bY hwt,E3]
 obtain⟨w',cap,r1,r2,r3,r4⟩:=wZ (P:=P) (w:=w) (ty:=o.type) (kv:=kv) ht hu hi hz (ad:=ad) (sLen:=len) (sCap:=bF) (n:=mn) (olds:=cs)
  (.inl ⟨ad,bF,rfl,λky=>by rw[hw];exact lH (by omega)⟩) tx (by omega) ky gG h6 h5
 rw[←hv,←hm]at r1
 have hzl:(Builtin.zeroCells zv.cells mn).toList=(List.replicate mn zv.cells.toList).flatten:=by
  have:=lK zv.cells mn
  simpa[Builtin.zeroCells]using this
 have hrz:=jP Ww mn
 rw[←hzl]at hrz
 exact oJ (cap:=cap) (l:=l.take len++List.replicate mn zz) (cs:=cs++(Builtin.zeroCells zv.cells mn).toList) (rest:=(Builtin.zeroCells zv.cells (cap-(len+mn))).toList) hs hw hk (hd k hk) j2 ky (BY.append hrz)
  (λx hx=>(List.mem_append.1 hx).elim (hwt x) (λhx=>by rw[(List.mem_replicate.1 hx).2];exact TP))
  (by simp only[List.length_append,Array.length_toList,ql,Wx,tx,←Nat.add_mul];congr 1;omega)
  (by rw[List.length_append,E3,List.length_replicate];exact r2) (tA (by omega) aag)
  (by rw[List.length_append,E3,List.length_replicate];exact kD ho r1) r3 r4
  (by rw[List.length_append,E3,List.length_replicate];exact hK)
end Go.Ab
