/- Each acting operation and each call does what its abstract reading says. No condition. -/
import Derived.Test.YtjkfnhhekobfgaaGreatDoorA2
import Derived.Laws.Append
import Derived.Laws.IdiomStrings
import Derived.OrdersIn
import Derived.RangeFuncSeq
import Derived.RangeFuncLeaves
import Derived.RangeFuncRecord
set_option linter.all false
namespace Go.Ab
variable [eJ]
variable {P:Program} {nt:Nat} {ds:List Deferred} {s:St} {Γ:Cx} {a:Act} {w:World}
structure WF (w w':World):Prop where
 os:w'.os=w.os
 tape:w'.tape=w.tape
 output:w'.output=w.output
theorem WF.refl (w:World):WF w w:=⟨rfl,rfl,rfl⟩
theorem WF.trans {a b c:World} (h:WF a b) (k:WF b c):WF a c:=⟨k.os.trans h.os,k.tape.trans h.tape,k.output.trans h.output⟩
theorem aO.mK {Γ Γ':Cx} (hle:I2 Γ Γ'):∀ {p:PV} {v:Value},aO Γ p v->aO Γ' p v:=by
 have h1:∀ {p:PV} {v:Value},jF Γ p v->jF Γ' p v:=by
  intro p v h
  cases p
  case un=>trivial
  case st w l=>obtain⟨cs,h1,h2⟩:=h;exact⟨cs,h1,h2.mK hle⟩
  case ar sz n l=>obtain⟨cs,h1,h2⟩:=h;exact⟨cs,h1,h2.mK hle⟩
  all_goals exact aG.mK hle h
 have h2:∀ {l:List PV} {vs:List Value},j3 Γ l vs->j3 Γ' l vs:=by
  intro l
  induction l with
  |nil=>intro vs h;cases vs<;>simp_all [j3]
  |
   cons p l ih=>
   intro vs h
   cases vs with
   |nil=>simp[j3]at h
   |cons v vs=>simp only[j3]at h⊢;exact⟨h1 h.1,ih h.2⟩
 intro p
 induction p using PV.rec (motive_2:=λ_=>True)with
 |gd b p ih=>intro v h;rw[aO]at h⊢;exact⟨λhb=>ih (h.1 hb),h.2⟩
 |tup l=>intro v h;simp only[aO]at h⊢;obtain⟨vs,e,h⟩:=h;exact⟨vs,e,h2 h⟩
 |un=>intro v h;simp[aO]
 |st w l=>intro v h;obtain⟨cs,e,h⟩:=h;exact⟨cs,e,h.mK hle⟩
 |ar sz n l=>intro v h;obtain⟨cs,e,h⟩:=h;exact⟨cs,e,h.mK hle⟩
 |nil=>trivial
 |cons=>trivial
 |_=>intro v h;exact aG.mK hle h
theorem bX.vE.mK {Γ Γ':Cx} (hle:I2 Γ Γ') {ob:Option Nat} {blk:bX} (hh:∀b,ob=some b->Γ'.heap[b]? =Γ.heap[b]?) (h:blk.vE Γ ob):blk.vE Γ' ob:=by
 cases blk with
 |
  box v=>
  obtain⟨b,c,e,h1,h2,h3⟩:=h
  exact⟨b,c,e,h1,by rw[hh b h1];exact h2,h3.mK hle⟩
 |
  arr sz l=>
  obtain⟨h1,h2,h3⟩:=h
  refine⟨h1,h2,?_⟩
  cases ob with
  |none=>exact h3
  |
   some b=>
   obtain⟨c,e,cs,rest,h4,h5,h6,h7⟩:=h3
   exact⟨c,e,cs,rest,by rw[hh b rfl];exact h4,h5,h6.mK hle,h7⟩
 |
  map b ks vs l=>
  obtain⟨h1,h2⟩:=h
  exact⟨h1,by rw[hh b h1];exact h2⟩
theorem aO.mono {Γ Γ':Cx} (hle:Le Γ Γ') {p:PV} {v:Value} (h:aO Γ p v):aO Γ' p v:=h.mK hle.c
theorem bX.vE.mono {Γ Γ':Cx} (hle:Le Γ Γ') {ob:Option Nat} {blk:bX} (hh:∀b,ob=some b->Γ'.heap[b]? =Γ.heap[b]?) (h:blk.vE Γ ob):blk.vE Γ' ob:=h.mK hle.c hh
theorem db {h:Array Obj} {b:Nat} {o:Obj} (e:h[b]? =some o):b<h.size:=(Array.getElem?_eq_some_iff.1 e).1
theorem bX.vE.lt {blk:bX} {b:Nat} (h:blk.vE Γ (some b)):b<Γ.heap.size:=by
 cases blk with
 |box v=>obtain⟨b',c,e,h1,h2,h3⟩:=h;cases h1;exact db h2
 |arr sz l=>obtain⟨_,_,c,e,cs,rest,h4,_⟩:=h;exact db h4
 |map b0 ks vs l=>obtain⟨h1,es,clock,h2,_⟩:=h;cases h1;exact db h2
theorem Mem.lt (hm:Mem Γ) {b:Nat} (h:Γ.hO b):b<Γ.heap.size:=by
 obtain⟨k,blk,hg,hb⟩:=h
 have:=hm.blk k blk hg
 rw[hb]at this
 exact this.lt
theorem Mem.vH (hm:Mem Γ):¬Γ.own Γ.heap.size:=by
 rintro(h|h)
 ·exact Nat.lt_irrefl _ (hm.lt h)
 ·exact Nat.lt_irrefl _ (hm.ed _ h)
def Cx.push (Γ:Cx) (o:Obj):Cx:= {Γ with heap:=Γ.heap.push o}
def Cx.ext (Γ:Cx) (o:Obj) (k:Nat) (blk:bX):Cx:=
 {heap:=Γ.heap.push o,ι:=λi=>if i=k then some Γ.heap.size else Γ.ι i,bx:=put Γ.bx k blk,ed:=Γ.ed}
def Cx.kV (Γ:Cx) (k:Nat) (blk:bX):Cx:=
 {Γ with ι:=λi=>if i=k then none else Γ.ι i,bx:=put Γ.bx k blk}
theorem k9 (h:Array Obj) (o:Obj) {b:Nat} (hb:b<h.size):(h.push o)[b]? =h[b]? :=by
 rw[Array.getElem?_push,if_neg (by omega)]
theorem px (Γ:Cx) (o:Obj):Le Γ (Γ.push o) where
 heap b hb _:=k9 _ _ hb
 hO b _ h:=h
 ed:=rfl
 size:=by simp[Cx.push]
 ref k blk h:=⟨blk,h,Nat.le_refl _,λ_=>⟨rfl,λb _ cs e hc=>⟨cs,by rw[←hc];exact k9 _ _ (db hc),rfl⟩⟩⟩
theorem xt (Γ:Cx) (o:Obj) {k:Nat} (blk:bX) (hk:get Γ.bx k=none):Le Γ (Γ.ext o k blk) where
 heap b hb _:=k9 _ _ hb
 hO b hb h:=by
  obtain⟨i,bl,hg,hi⟩:=h
  simp only[Cx.ext]at hg hi
  by_cases ir:i=k
  ·subst ir;simp at hi;omega
  ·rw[if_neg ir]at hi
   rw[cP _ _ _ _ (λh=>ir h.symm)]at hg
   exact⟨i,bl,hg,hi⟩
 ed:=rfl
 size:=by simp[Cx.ext]
 ref i bl h:=by
  have ir:i≠k:=by intro h';subst h';rw[hk]at h;simp at h
  refine⟨bl,by simp only[Cx.ext];rw[cP _ _ _ _ (λh=>ir h.symm)];exact h,Nat.le_refl _,λ_=>⟨by simp[Cx.ext,ir],λb _ cs e hc=>⟨cs,by rw[←hc];exact k9 _ _ (db hc),rfl⟩⟩⟩
theorem qV (Γ:Cx) {k:Nat} (blk:bX) (hk:get Γ.bx k=none):Le Γ (Γ.kV k blk) where
 heap b hb _:=rfl
 hO b hb h:=by
  obtain⟨i,bl,hg,hi⟩:=h
  simp only[Cx.kV]at hg hi
  by_cases ir:i=k
  ·subst ir;simp at hi
  ·rw[if_neg ir]at hi
   rw[cP _ _ _ _ (λh=>ir h.symm)]at hg
   exact⟨i,bl,hg,hi⟩
 ed:=rfl
 size:=Nat.le_refl _
 ref i bl h:=by
  have ir:i≠k:=by intro h';subst h';rw[hk]at h;simp at h
  exact⟨bl,by simp only[Cx.kV];rw[cP _ _ _ _ (λh=>ir h.symm)];exact h,Nat.le_refl _,λ_=>⟨by simp[Cx.kV,ir],λb _ cs e hc=>⟨cs,hc,rfl⟩⟩⟩
theorem Mem.lF {Γ Γ':Cx} (hm:Mem Γ) (hl:Le Γ Γ') (b:Nat) (cs:Array Value) (h:eJ.te b=some cs):¬Γ'.hO b∧∃e x,Γ'.heap[b]? =some (.cells cs e x):=by
 obtain⟨h1,e,x,h2⟩:=hm.te b cs h
 refine⟨λhb=>h1 (hl.hO b (db h2) hb),e,x,?_⟩
 rw[hl.heap b (db h2) h1];exact h2
theorem mem_push (hm:Mem Γ) (o:Obj):Mem (Γ.push o) where
 blk k blk h:=by
  have:=hm.blk k blk h
  exact this.mono (px Γ o) (λb hb=>by
   rw[show(Γ.push o).ι k=Γ.ι k from rfl]at hb
   rw[hb]at this;exact k9 _ _ this.lt)
 inj:=hm.inj
 ed b h:=by have:=hm.ed b h;simp only[Cx.push,Array.size_push];omega
 apart:=hm.apart
 te:=hm.lF (px Γ o)
theorem FU (hm:Mem Γ) {o:Obj} {k:Nat} {blk:bX} (hk:get Γ.bx k=none) (hr:blk.vE (Γ.ext o k blk) (some Γ.heap.size)):Mem (Γ.ext o k blk) where
 blk i bl h:=by
  by_cases ir:i=k
  ·subst ir
   simp only[Cx.ext,dw,sJ]at h
   subst h
   have:(Γ.ext o i blk).ι i=some Γ.heap.size:=by simp[Cx.ext]
   rw[this];exact hr
  ·simp only[Cx.ext]at h
   rw[cP _ _ _ _ (λh=>ir h.symm)]at h
   have:=hm.blk i bl h
   have e:(Γ.ext o k blk).ι i=Γ.ι i:=by simp[Cx.ext,ir]
   rw[e]
   exact this.mono (xt Γ o blk hk) (λb hb=>by rw[hb]at this;exact k9 _ _ this.lt)
 inj i j b hi hj h1 h2:=by
  simp only[Cx.ext,gL]at hi hj h1 h2
  by_cases ir:i=k<;>by_cases um:j=k
  ·rw[ir,um]
  ·rw[if_pos ir]at h1
   rw[if_neg um]at h2
   rw[if_neg (λh=>um h.symm)]at hj
   obtain⟨bl,s8⟩:=Option.isSome_iff_exists.1 hj
   have:=hm.lt ⟨j,bl,s8,h2⟩
   simp at h1;omega
  ·rw[if_neg ir]at h1
   rw[if_pos um]at h2
   rw[if_neg (λh=>ir h.symm)]at hi
   obtain⟨bl,s8⟩:=Option.isSome_iff_exists.1 hi
   have:=hm.lt ⟨i,bl,s8,h1⟩
   simp at h2;omega
  ·rw[if_neg ir]at h1
   rw[if_neg um]at h2
   rw[if_neg (λh=>ir h.symm)]at hi
   rw[if_neg (λh=>um h.symm)]at hj
   exact hm.inj i j b hi hj h1 h2
 ed b h:=by have:=hm.ed b h;simp only[Cx.ext,Array.size_push];omega
 apart b h hp:=by
  have dG:=hm.ed b hp
  exact hm.apart b ((xt Γ o blk hk).hO b dG h) hp
 te:=hm.lF (xt Γ o blk hk)
theorem xu (hm:Mem Γ) {k:Nat} {blk:bX} (hk:get Γ.bx k=none) (hr:blk.vE (Γ.kV k blk) none):Mem (Γ.kV k blk) where
 blk i bl h:=by
  by_cases ir:i=k
  ·subst ir
   simp only[Cx.kV,dw,sJ]at h
   subst h
   have:(Γ.kV i blk).ι i=none:=by simp[Cx.kV]
   rw[this];exact hr
  ·simp only[Cx.kV]at h
   rw[cP _ _ _ _ (λh=>ir h.symm)]at h
   have:=hm.blk i bl h
   have e:(Γ.kV k blk).ι i=Γ.ι i:=by simp[Cx.kV,ir]
   rw[e]
   exact this.mono (qV Γ blk hk) (λb hb=>rfl)
 inj i j b hi hj h1 h2:=by
  simp only[Cx.kV,gL]at hi hj h1 h2
  by_cases ir:i=k
  ·rw[if_pos ir]at h1;simp at h1
  ·by_cases um:j=k
   ·rw[if_pos um]at h2;simp at h2
   ·rw[if_neg ir]at h1
    rw[if_neg um]at h2
    rw[if_neg (λh=>ir h.symm)]at hi
    rw[if_neg (λh=>um h.symm)]at hj
    exact hm.inj i j b hi hj h1 h2
 ed b h:=hm.ed b h
 apart b h hp:=by
  have dG:=hm.ed b hp
  exact hm.apart b ((qV Γ blk hk).hO b dG h) hp
 te:=hm.lF (qV Γ blk hk)
def Cx.jH (Γ:Cx) (b:Nat) (o:Obj) (k:Nat) (blk:bX):Cx:=
 {Γ with heap:=Γ.heap.setIfInBounds b o,bx:=put Γ.bx k blk}
theorem ld {k b:Nat} {blk cI:bX} {c c':Array Value} {e:TypeId} (hg:get Γ.bx k=some blk) (hb:Γ.ι k=some b) (hc:Γ.heap[b]? =some (.cells c e (0,0))) (hs:c'.size=c.size) (ht:blk.aQ≤cI.aQ):
  Le Γ (Γ.jH b (.cells c' e (0,0)) k cI) where
 heap b' yX bS:=by
  have:b≠b':=by intro h;subst h;exact bS ⟨k,blk,hg,hb⟩
  simp only[Cx.jH]
  rw[Array.getElem?_setIfInBounds_ne this]
 hO b' yX h:=by
  obtain⟨i,bl,Vy,hi⟩:=h
  simp only[Cx.jH,gL]at Vy hi
  by_cases ir:k=i
  ·subst ir;exact⟨k,blk,hg,hi⟩
  ·rw[if_neg ir]at Vy;exact⟨i,bl,Vy,hi⟩
 ed:=rfl
 size:=by simp[Cx.jH]
 ref i bl h:=by
  have keep:∀b2,Γ.ι i=some b2->∀cs e',Γ.heap[b2]? =some (.cells cs e' (0,0))->∃AR,(Γ.jH b (.cells c' e (0,0)) k cI).heap[b2]? =some (.cells AR e' (0,0))∧AR.size=cs.size:=by
   intro b2 pg cs e' AT
   by_cases hbb:b=b2
   ·subst hbb
    rw[hc]at AT
    simp only[sJ,Obj.cells.injEq]at AT
    obtain⟨rfl,rfl,_⟩:=AT
    exact⟨c',by simp only[Cx.jH];rw[uJ (db hc)],hs⟩
   ·exact⟨cs,by simp only[Cx.jH];rw[Array.getElem?_setIfInBounds_ne hbb];exact AT,rfl⟩
  by_cases ir:k=i
  ·subst ir
   rw[hg]at h;cases h
   exact⟨cI,by simp[Cx.jH,dw],ht,λ_=>⟨rfl,keep⟩⟩
  ·exact⟨bl,by simp only[Cx.jH];rw[cP _ _ _ _ ir];exact h,Nat.le_refl _,λ_=>⟨rfl,keep⟩⟩
theorem mT (hm:Mem Γ) {k b:Nat} {blk cI:bX} {c c':Array Value} {e:TypeId} (hg:get Γ.bx k=some blk) (hb:Γ.ι k=some b) (hc:Γ.heap[b]? =some (.cells c e (0,0))) (hs:c'.size=c.size) (ht:blk.aQ≤cI.aQ)
  (hr:cI.vE (Γ.jH b (.cells c' e (0,0)) k cI) (some b)):Mem (Γ.jH b (.cells c' e (0,0)) k cI) where
 blk i bl h:=by
  by_cases ir:k=i
  ·subst ir
   simp only[Cx.jH,dw,sJ]at h
   subst h
   have:(Γ.jH b (.cells c' e (0,0)) k cI).ι k=some b:=hb
   rw[this];exact hr
  ·simp only[Cx.jH]at h
   rw[cP _ _ _ _ ir]at h
   have:=hm.blk i bl h
   exact this.mono (ld hg hb hc hs ht) (λb2 pg=>by
    have bS:b≠b2:=by
     intro h';subst h'
     exact ir (hm.inj k i b (by simp[hg]) (by simp[h]) hb pg)
    simp only[Cx.jH];rw[Array.getElem?_setIfInBounds_ne bS])
 inj i j b2 hi hj h1 h2:=by
  refine hm.inj i j b2 ?_ ?_ h1 h2
  ·simp only[Cx.jH,gL]at hi;split at hi
   ·subst_vars;simp[hg]
   ·exact hi
  ·simp only[Cx.jH,gL]at hj;split at hj
   ·subst_vars;simp[hg]
   ·exact hj
 ed b2 h:=by have:=hm.ed b2 h;simpa[Cx.jH]using this
 apart b2 h hp:=hm.apart b2 ((ld hg hb hc hs ht).hO b2 (hm.ed b2 hp) h) hp
 te:=hm.lF (ld hg hb hc hs ht)
end Go.Ab
namespace Go.Ab
variable [eJ]
variable {P:Program} {nt:Nat} {ds:List Deferred} {s:St} {Γ:Cx} {a:Act} {w:World}
theorem Em (v:Value):v.oneCell'=fN v:=by cases v<;>rfl
theorem Ba {b o:Nat} {c:Array Value} {e:TypeId} {v:Value} (h:w.heap[b]? =some (.cells c e (0,0))):
  (w.setCell ⟨b,o,none⟩ v).heap=w.heap.setIfInBounds b (.cells (c.setIfInBounds o v) e (0,0)):=by
 have hb:=db h
 have he:w.heap[b]= .cells c e (0,0):=(Array.getElem?_eq_some_iff.1 h).2
 simp only[World.setCell]
 apply Array.ext
 ·simp
 ·intro i h1 h2
  rw[Array.getElem_modify,Array.getElem_setIfInBounds]
  split
  ·subst_vars;simp[he]
  ·rfl
theorem WF.setCell (w:World) (ad:Addr) (v:Value):WF w (w.setCell ad v):=⟨rfl,rfl,rfl⟩
theorem Bb {b o:Nat} {c:Array Value} {e:TypeId} {v:Value} (h:w.heap[b]? =some (.cells c e (0,0))) (ho:o<c.size) (hv:fN v=true):
  (store ⟨b,o,none⟩ v).run P w= .ok () (w.setCell ⟨b,o,none⟩ v):=by
 rw[run_store P w _ v _ (by rw[Em];exact hv)]
 rw[cell?_eq]
 simp[cell,h,ho,World.frozen?]
theorem jR:∀(vs:List Value) (w:World) (b o i:Nat) (c:Array Value) (e:TypeId),w.heap[b]? =some (.cells c e (0,0))->o+i+vs.length≤c.size->(∀v∈vs,fN v=true)->
  ∃w',(storeCells ⟨b,o,none⟩ vs i).run P w= .ok () w'∧w'.heap=w.heap.setIfInBounds b (.cells (bU c.toList (o+i) vs).toArray e (0,0))∧WF w w'
 |
  [],w,b,o,i,c,e,h,hl,hv=>by
  refine⟨w,rfl,?_,WF.refl w⟩
  have:(bU c.toList (o+i) []).toArray=c:=by simp[bU]
  rw[this]
  have he:w.heap[b]? =some (.cells c e (0,0)):=h
  apply Array.ext
  ·simp
  ·intro j h1 h2
   rw[Array.getElem_setIfInBounds]
   split
   ·subst_vars;exact(Array.getElem?_eq_some_iff.1 he).2
   ·rfl
 |
  v::vs,w,b,o,i,c,e,h,hl,hv=>by
  simp only[List.length_cons]at hl
  have hb:=db h
  have h1:=Bb (P:=P) h (show o+i<c.size by omega) (hv v (by simp))
  have hh:=Ba (v:=v) (o:=o+i) h
  have da:(w.setCell ⟨b,o+i,none⟩ v).heap[b]? =some (.cells (c.setIfInBounds (o+i) v) e (0,0)):=by
   rw[hh,uJ hb]
  obtain⟨w',h2,h3,h4⟩:=jR vs (w.setCell ⟨b,o+i,none⟩ v) b o (i+1) (c.setIfInBounds (o+i) v) e da (by simp;omega) (λx hx=>hv x (by simp[hx]))
  refine⟨w',?_,?_,(WF.setCell w _ v).trans h4⟩
  ·simp only[storeCells,bJ,iZ,h1,rJ]
   exact h2
  ·rw[h3,hh]
   have wm:bU (c.setIfInBounds (o+i) v).toList (o+(i+1)) vs=bU c.toList (o+i) (v::vs):=by
    rw[Array.toList_setIfInBounds]
    have dG:o+i<c.toList.length:=by simp;omega
    obtain⟨A,x,B,hA,ly⟩:∃A x B,A.length=o+i∧c.toList=A++x::B:=
     ⟨c.toList.take (o+i),c.toList[o+i],c.toList.drop (o+i+1),by rw[lJ];omega,by rw[List.getElem_cons_drop,List.take_append_drop]⟩
    rw[ly,←hA,List.set_append_right (h:=Nat.le_refl _)]
    rw[show o+(i+1)=A.length+1 by omega]
    simp only[Nat.sub_self,List.set_cons_zero,bU,List.length_cons]
    have e1:(A++v::B).take (A.length+1)=A++[v]:=by rw[List.take_append,tJ (by omega)];simp
    have e2:(A++v::B).drop (A.length+1+vs.length)=B.drop vs.length:=by
     rw[List.drop_append,List.drop_eq_nil_of_le (by omega),show A.length+1+vs.length-A.length=vs.length+1 by omega];simp
    have e3:(A++x::B).drop (A.length+(vs.length+1))=B.drop vs.length:=by
     rw[←List.drop_drop];simp
    rw[e1,e2,e3]
    simp
   rw[wm]
   simp
theorem Bc {t:TypeId} {b o n:Nat} {c:Array Value} {e:TypeId} {v:Value} (h:w.heap[b]? =some (.cells c e (0,0))) (hn:iL P t=some n) (hs:v.cells.size=n) (ho:o+n≤c.size) (hv:∀x∈v.cells.toList,fN x=true):
  ∃w',(storeVar t ⟨b,o,none⟩ v).run P w= .ok () w'∧w'.heap=w.heap.setIfInBounds b (.cells (bU c.toList o v.cells.toList).toArray e (0,0))∧WF w w':=by
 obtain⟨w',h1,h2,h3⟩:=jR (P:=P) v.cells.toList w b o 0 c e h (by simp;omega) hv
 refine⟨w',?_,by simpa using h2,h3⟩
 simp only[storeVar,bJ,run_sizeOf hn,rJ]
 rw[if_neg (by simp[hs])]
 exact h1
def oG (w:World) (size n:Nat) (v:Value) (cs:List Value):Prop:=
 (∃ad rc,v= .slice ad n rc∧(0<n->∃b o,ad=some ⟨b,o,none⟩∧∀i c,cs[i]? =some c->cell w.heap b (o+i)=some c))∨
 (∃str,v= .string str∧n=str.size∧size=1∧cs=str.data.toList.map λb=> .int .u8 b.toNat)
theorem jS {size n:Nat} {v:Value} {cs:List Value} (h:oG w size n v cs) (hl:cs.length=n*size):(Builtin.firstCells size n v).run P w= .ok cs.toArray w:=by
 rcases h with⟨ad,rc,rfl,h⟩|⟨str,rfl,rfl,rfl,rfl⟩
 ·cases ad with
  |
   none=>
   have:n=0:=by
    rcases Nat.eq_zero_or_pos n with h0|h0
    ·exact h0
    ·obtain⟨b,o,h1,_⟩:=h h0;simp at h1
   subst this
   have:cs=[]:=List.eq_nil_of_length_eq_zero (by simpa using hl)
   subst this;rfl
  |
   some ad=>
   simp only[Builtin.firstCells]
   rw[←hl]
   by_cases h0:0<n
   ·obtain⟨b,o,h1,h2⟩:=h h0
    simp only[sJ]at h1;subst h1
    exact run_loadCells_list w _ cs (λj v hj=>by rw[iZ,cell?_eq];exact h2 j v hj)
   ·have:n=0:=by omega
    subst this
    have:cs=[]:=List.eq_nil_of_length_eq_zero (by simpa using hl)
    subst this;rfl
 ·simp only[Builtin.firstCells,Sem.run_pure]
  congr 1
  apply Array.ext'
  rw[Array.toList_map]
  congr 2
  have:str.extract 0 str.size=str:=by simp
  rw[this]
theorem oH {size n:Nat} {v:Value} {cs:List Value} (h:oG w size n v cs):(Builtin.lenOf v).run P w= .ok n w:=by
 rcases h with⟨ad,rc,rfl,_⟩|⟨str,rfl,rfl,_⟩<;>rfl
theorem oI (z:Array Value) (n:Nat):(Builtin.zeroCells z n).size=n*z.size:=by simp[Builtin.zeroCells]
theorem oJ {t u e:TypeId} {d:TypeDesc} {i:TypeInfo} {ty:TypeId} (ht:P.underlying t=some (.slice e)) (hu:P.underlying u=some d) (hd:(∃x,d= .slice x)∨d= .string) (hi:P.info? e=some i)
  {b o sLen sCap n:Nat} {y:Value} {news:List Value} {c:Array Value} {ce:TypeId} (hy:oG w i.size n y news) (hl:news.length=n*i.size) (h1:∀v∈news,fN v=true) (rZ:sLen+n≤sCap)
  (hb:w.heap[b]? =some (.cells c ce (0,0))) (za:o+sLen*i.size+n*i.size≤c.size):
  ∃
   w',(Builtin.append_ #[t,u] ty #[.slice (some ⟨b,o,none⟩) sLen sCap,y]).run P w= .ok (.slice (some ⟨b,o,none⟩) (sLen+n) sCap) w'∧
   w'.heap=w.heap.setIfInBounds b (.cells (bU c.toList (o+sLen*i.size) news).toArray ce (0,0))∧WF w w':=by
 obtain⟨w',g1,g2,g3⟩:=jR (P:=P) news w b (o+sLen*i.size) 0 c ce hb (by omega) h1
 refine⟨w',?_,by simpa using g2,g3⟩
 have hf:=jS (P:=P) hy hl
 have hlen:=oH (P:=P) hy
 rcases hd with⟨x,rfl⟩|rfl
 ·simp[Builtin.append_,run_underlying ht,run_underlying hu,sizeOf,typeInfo,hi,hlen,rZ,hf,iZ,g1]
 ·simp[Builtin.append_,run_underlying ht,run_underlying hu,sizeOf,typeInfo,hi,hlen,rZ,hf,iZ,g1]
theorem lG {t u e:TypeId} {d:TypeDesc} {i:TypeInfo} {ty:TypeId} (ht:P.underlying t=some (.slice e)) (hu:P.underlying u=some d) (hd:(∃x,d= .slice x)∨d= .string) (hi:P.info? e=some i)
  {ad:Option Addr} {sLen sCap:Nat} {y:Value} (hy:oG w i.size 0 y []) (hle:sLen≤sCap):
  (Builtin.append_ #[t,u] ty #[.slice ad sLen sCap,y]).run P w= .ok (.slice ad sLen sCap) w:=by
 have hf:=jS (P:=P) hy (by simp)
 have hlen:=oH (P:=P) hy
 rcases hd with⟨x,rfl⟩|rfl
 ·cases ad<;>simp[Builtin.append_,run_underlying ht,run_underlying hu,sizeOf,typeInfo,hi,hlen,hle,hf,storeCells]
 ·cases ad<;>simp[Builtin.append_,run_underlying ht,run_underlying hu,sizeOf,typeInfo,hi,hlen,hle,hf,storeCells]
theorem uE {t u e:TypeId} {d:TypeDesc} {i:TypeInfo} {z:Value} {ty:TypeId} (ht:P.underlying t=some (.slice e)) (hu:P.underlying u=some d) (hd:(∃x,d= .slice x)∨d= .string) (hi:P.info? e=some i) (hz:i.zero=some z)
  {ad:Option Addr} {sLen sCap n:Nat} {y:Value} {olds news:List Value} (hs:oG w i.size sLen (.slice ad sLen sCap) olds) (L0:olds.length=sLen*i.size)
  (hy:oG w i.size n y news) (hl:news.length=n*i.size) (hg:sCap<sLen+n) (h63:sLen+n≤9223372036854775807) (Vz:(sLen+n)*i.bytes≤140737488355328):
  ∃
   w' cap,(Builtin.append_ #[t,u] ty #[.slice ad sLen sCap,y]).run P w= .ok (.slice (some ⟨w.heap.size,0,none⟩) (sLen+n) cap) w'∧sLen+n≤cap∧
   w'.heap=w.heap.push (.cells (olds++news++(Builtin.zeroCells z.cells (cap-(sLen+n))).toList).toArray e (0,0))∧WF w w':=by
 have hn:¬(sLen+n≤sCap):=by omega
 have PG:¬(9223372036854775807<((sLen:Int)+(n:Int))):=by omega
 have PH:¬(281474976710656<Builtin.nextslicecap (sLen+n) sCap*i.bytes):=by have:=growslice_fits hg Vz;omega
 have ur:oG w.drew i.size sLen (.slice ad sLen sCap) olds:=hs
 have hy':oG w.drew i.size n y news:=hy
 have hfo:=jS (P:=P) ur L0
 have hf:=jS (P:=P) hy' hl
 have hlen:=oH (P:=P) hy
 refine⟨w.drew.alloc (.cells (olds++news++(Builtin.zeroCells z.cells (grownCap w (sLen+n) sCap e-(sLen+n))).toList).toArray e),grownCap w (sLen+n) sCap e,?_,grownCap_ge w _ _ _,rfl,⟨rfl,rfl,rfl⟩⟩
 rcases hd with⟨x,rfl⟩|rfl
 ·simp[Builtin.append_,run_underlying ht,run_underlying hu,sizeOf,typeInfo,zeroValue,hi,hz,hlen,hn,PG,PH,Question.forced,hf,hfo,newRow,grownCap]
  congr 2
  apply Array.ext'
  simp
 ·simp[Builtin.append_,run_underlying ht,run_underlying hu,sizeOf,typeInfo,zeroValue,hi,hz,hlen,hn,PG,PH,Question.forced,hf,hfo,newRow,grownCap]
  congr 2
  apply Array.ext'
  simp
theorem uF {t u e:TypeId} {kn kv:IntKind} {i:TypeInfo} {z:Value} {ty:TypeId} (ht:P.underlying t=some (.slice e)) (hu:P.underlying u=some (.int kn)) (hi:P.info? e=some i) (hz:i.zero=some z)
  {ad:Option Addr} {sLen sCap n:Nat} {olds:List Value} (hs:oG w i.size sLen (.slice ad sLen sCap) olds) (L0:olds.length=sLen*i.size) (h0:0<n) (gF:0<i.size)
  (hg:sCap<sLen+n) (h63:sLen+n≤9223372036854775807) (Vz:(sLen+n)*i.bytes≤140737488355328):
  ∃
   w' cap,(Builtin.append_ #[t,u] ty #[.slice ad sLen sCap,.int kv n]).run P w= .ok (.slice (some ⟨w.heap.size,0,none⟩) (sLen+n) cap) w'∧sLen+n≤cap∧
   w'.heap=w.heap.push (.cells (olds++(Builtin.zeroCells z.cells n).toList++(Builtin.zeroCells z.cells (cap-(sLen+n))).toList).toArray e (0,0))∧WF w w':=by
 have hn:¬(sLen+n≤sCap):=by omega
 have PG:¬(9223372036854775807<((sLen:Int)+(n:Int))):=by omega
 have PH:¬(281474976710656<Builtin.nextslicecap (sLen+n) sCap*i.bytes):=by have:=growslice_fits hg Vz;omega
 have aif:¬(281474976710656<(n:Int)*(i.bytes:Int)):=by
  rw[←Int.natCast_mul]
  have:n*i.bytes≤(sLen+n)*i.bytes:=Nat.mul_le_mul_right _ (by omega)
  omega
 have hw:IntKind.i64.wrap (n:Int)=n:=by rw[IntKind.wrap_i64];omega
 have na:¬((n:Int)<0):=by omega
 have hns:¬(n*i.size=0):=Nat.mul_ne_zero (by omega) (by omega)
 have ur:oG w.drew i.size sLen (.slice ad sLen sCap) olds:=hs
 have hfo:=jS (P:=P) ur L0
 refine⟨w.drew.alloc (.cells (olds++(Builtin.zeroCells z.cells n).toList++(Builtin.zeroCells z.cells (grownCap w (sLen+n) sCap e-(sLen+n))).toList).toArray e),grownCap w (sLen+n) sCap e,?_,grownCap_ge w _ _ _,rfl,⟨rfl,rfl,rfl⟩⟩
 simp[Builtin.append_,run_underlying ht,run_underlying hu,sizeOf,typeInfo,zeroValue,hi,hz,asInt,asIntOf,hw,hn,na,hns,PG,PH,aif,Question.forced,hfo,newRow,grownCap]
 congr 2
 apply Array.ext'
 simp
theorem zY {t u e:TypeId} {ty:TypeId} {sz:Nat} (ht:P.underlying t=some (.slice e)) (iq:iL P e=some sz)
  {b o dLen dCap n:Nat} {y:Value} {news:List Value} {c:Array Value} {ce:TypeId} {ysz:Nat} (hy:oG w sz ysz y news) (hl:news.length=ysz*sz) (hn:n=min ysz dLen) (h1:∀v∈news,fN v=true)
  (hb:w.heap[b]? =some (.cells c ce (0,0))) (za:o+n*sz≤c.size):
  ∃
   w',(Builtin.copy_ #[t,u] ty #[.slice (some ⟨b,o,none⟩) dLen dCap,y]).run P w= .ok (.int .i64 n) w'∧
   w'.heap=w.heap.setIfInBounds b (.cells (bU c.toList o (news.take (n*sz))).toArray ce (0,0))∧WF w w':=by
 have dG:(news.take (n*sz)).length=n*sz:=by
  rw[lJ,hl]
  exact Nat.min_eq_left (Nat.mul_le_mul_right _ (by omega))
 obtain⟨w',g1,g2,g3⟩:=jR (P:=P) (news.take (n*sz)) w b o 0 c ce hb (by omega) (λv hv=>h1 v (List.mem_of_mem_take hv))
 refine⟨w',?_,by simpa using g2,g3⟩
 have hlen:=oH (P:=P) hy
 have hf:(Builtin.firstCells sz n y).run P w= .ok (news.take (n*sz)).toArray w:=by
  rcases hy with⟨ad,rc,rfl,h⟩|⟨str,rfl,h2,rfl,rfl⟩
  ·by_cases h0:0<n
   ·obtain⟨b',o',h3,h4⟩:=h (by omega)
    subst h3
    simp only[Builtin.firstCells]
    have:=run_loadCells_list (P:=P) w ⟨b',o',none⟩ (news.take (n*sz)) (λj v hj=>by
     rw[iZ,cell?_eq]
     rw[List.getElem?_take]at hj
     split at hj
     ·exact h4 j v hj
     ·simp at hj)
    rw[dG]at this
    exact this
   ·have:n=0:=by omega
    rw[this]
    cases ad<;>simp[Builtin.firstCells,loadCells,loadCellsFrom]
  ·simp only[Builtin.firstCells,Sem.run_pure]
   congr 1
   apply Array.ext'
   rw[Array.toList_map]
   simp[ByteArray.data_extract]
 have DR:Nat.min ysz dLen=n:=hn.symm
 simp[Builtin.copy_,run_underlying ht,run_sizeOf iq,hlen,DR,hf,g1,goInt]
end Go.Ab
namespace Go.Ab
variable [eJ]
variable {P:Program} {nt:Nat} {ds:List Deferred} {s:St} {Γ:Cx} {a:Act} {w:World}
def St.put (s:St) (d:Option Nat) (p:PV):St:=
 match d with
 |some d=> {s with env:=Ab.put s.env d p}
 |none=>s
mutual
def wk:PV->PV
 | .sl sz l _=> .sl sz (jo l) false
 | .st w l=> .st w (jo l)
 | .ar z n l=> .ar z n (jo l)
 | .tup l=> .tup (jo l)
 |p=>p
def jo:List PV->List PV
 |[]=>[]
 |p::l=>wk p::jo l
end
def SA:bX->PV->PV
 | .arr _ _,v=>wk v
 | .box _,v=>v
 | .map ..,v=>v
def u8 (b:UInt8):PV:= .int .u8 b.toNat
def ic (s:St) (d:Option Nat) (sz bytes:Nat) (p:PV) (ys:List PV) (K:St->Prop):Prop:=
 match d with
 |none=>False
 |
  some d=>match p with
  | .sl sz0 l true=>(get s.bx d=none∧(l=[]∨(sz0=sz∧ys≠[]))∧(l.length+ys.length)*bytes≤140737488355328∧l.length+ys.length≤9223372036854775807)∧
    K {env:=put s.env d (.rs d [] 0 (l.length+ys.length) (l.length+ys.length) sz .tip),bx:=put s.bx d (.arr sz (l++ys))}
  |
   .rs k [] 0 len aQ dR .tip=>(match get s.bx k with
   |
    some (.arr sz'' l)=>(aQ=l.length∧len=l.length∧dR=sz∧sz''=sz∧(l.length+ys.length)*bytes≤140737488355328∧l.length+ys.length≤9223372036854775807)∧
    K {env:=put s.env d (.rs k [] 0 (l.length+ys.length) (l.length+ys.length) sz .tip),bx:=put s.bx k (.arr sz (l++ys))}
   |_=>False)
  |
   .rs k [] 0 len aQ dR (.full n)=>(match get s.bx k with
   |
    some (.arr sz'' l)=>(aQ=l.length∧dR=sz∧sz''=sz∧len≤n∧n≤l.length∧ys≠[]∧get s.bx d=none∧(len+ys.length)*bytes≤140737488355328∧len+ys.length≤9223372036854775807)∧
    (len+ys.length≤n->K {env:=put s.env d (.rs k [] 0 (len+ys.length) aQ sz (.full n)),bx:=put s.bx k (.arr sz (l.take len++ys++l.drop (len+ys.length)))})∧
    (n<len+ys.length->K {env:=put s.env d (.rs d [] 0 (len+ys.length) (len+ys.length) sz .tip),bx:=put s.bx d (.arr sz (l.take len++ys))})
   |_=>False)
  | .rs k p off len aQ dR .clip=>content s (.rs k p off len aQ dR .clip) λsz'' l=>(get s.bx d=none∧sz''=sz∧ys≠[]∧(l.length+ys.length)*bytes≤140737488355328∧l.length+ys.length≤9223372036854775807)∧
    K {env:=put s.env d (.rs d [] 0 (l.length+ys.length) (l.length+ys.length) sz .tip),bx:=put s.bx d (.arr sz (l++ys))}
  |_=>False
def ny (s:St) (d:Option Nat) (sz bytes:Nat) (z p:PV) (m:Int) (K:St->Prop):Prop:=
 match d with
 |none=>False
 |
  some d=>match p with
  |
   .rs k [] 0 len aQ dR (.full n)=>(match get s.bx k with
   |
    some (.arr sz'' l)=>(get s.bx d=none∧aQ=l.length∧dR=sz∧sz''=sz∧len≤n∧n≤l.length∧0<m∧n<len+m.toNat∧(len+m.toNat)*bytes≤140737488355328∧len+m.toNat≤9223372036854775807)∧
    K {env:=put s.env d (.rs d [] 0 (len+m.toNat) (len+m.toNat) sz .tip),bx:=put s.bx d (.arr sz (l.take len++List.replicate m.toNat z))}
   |_=>False)
  |_=>False
def src (s:St) (str:Bool) (sz:Nat) (q:PV) (K:List PV->Prop):Prop:=
 if str then(match q with| .str bs=>sz=1∧K (bs.map u8)|_=>False)
 else content s q λdR ys=>(ys=[]∨dR=sz)∧K ys
def jT (s:St) (d:Option Nat) (sz:Nat) (p:PV) (ys:List PV) (K:St->Prop):Prop:=
 match p with
 |
  .rs k pth off len aQ dR _=>(match get s.bx k with
  |some (.arr sz'' l)=>(aQ=l.length∧pth=[]∧dR=sz∧sz''=sz∧off+len≤l.length)∧
    K ({s with bx:=put s.bx k (.arr sz (l.take off++ys.take (min ys.length len)++l.drop (off+min ys.length len)))}.put d (.int .i64 (min ys.length len:Nat)))
  |
   some (.box v)=>(match bf v pth with
   |
    some (.ar sz'' n l)=>(match eL v pth (.ar sz'' n (l.take off++ys.take (min ys.length len)++l.drop (off+min ys.length len)))with
    |some v'=>(aQ=0∧dR=sz∧sz''=sz∧off+len≤n)∧K ({s with bx:=put s.bx k (.box v')}.put d (.int .i64 (min ys.length len:Nat)))
    |none=>False)
   |_=>False)
  |_=>False)
 |_=>False
def Je (s:St) (d:Option Nat) (sz:Nat) (z p:PV) (K:St->Prop):Prop:=
 d=none∧match p with
 | .rs k pth off len aQ dR c=>jT s none sz (.rs k pth off len aQ dR c) (List.replicate len z) K
 |_=>False
def SB (p:PV):List (PV×PV)->Option PV
 |[]=>none
 |(k,v)::r=>if PV.beq p k=true then some v else SB p r
def Y5 (p v:PV):List (PV×PV)->List (PV×PV)
 |[]=>[(p,v)]
 |(k,w)::r=>if PV.beq p k=true then(p,v)::r else(k,w)::Y5 p v r
def ex (s:St) (d:Option Nat):AK->(St->Prop)->Prop
 |
  .alloc z,K=>(match d with
  |some k=>get s.bx k=none∧K {env:=put s.env k (.pt k [] 0),bx:=put s.bx k (.box z)}
  |none=>False)
 |
  .box x,K=>(match d with
  |some k=>vg true s x λp=>(get s.bx k=none∧p.bG=true)∧K {env:=put s.env k (.pt k [] 0),bx:=put s.bx k (.box p)}
  |none=>False)
 |
  .buildSlice own sz z n parts,K=>y9 true s parts λps=>(match eh (List.replicate n z) (ps.map λx=>(x.1,wk x.2))with
  |some l=>if own=true then(match d with
    |some k=>get s.bx k=none∧K {env:=put s.env k (.rs k [] 0 n n sz .tip),bx:=put s.bx k (.arr sz l)}
    |none=>False)else K (s.put d (.sl sz l true))
  |none=>False)
 |
  .makeSlice sz bytes z len cap,K=>vg true s len λp=>mS p λl=>vg true s cap λq=>mS q λc=>
  (match d with
  |some k=>(get s.bx k=none∧0≤l∧l≤c∧c*bytes≤281474976710656∧c≤9223372036854775807)∧
    K {env:=put s.env k (.rs k [] 0 l.toNat l.toNat sz .tip),bx:=put s.bx k (.arr sz (List.replicate l.toNat z))}
  |none=>False)
 |
  .store n x y,K=>vg true s x λp=>vg true s y λv=>(match p with
  |
   .pt k pth aQ=>(match get s.bx k with
   |
    some blk=>(match qu blk pth (SA blk v)with
    |some cI=>(aQ=blk.aQ∧v.width=n∧v.bG=true)∧K {s with bx:=put s.bx k cI}
    |none=>False)
   |none=>False)
  |_=>False)
 |
  .isNil ng x,K=>vg true s x λp=>(match p with
  | .sl _ l _=>∀b:Bool,(b=true->l=[])->K (s.put d (.bl (b !=ng)))
  | .rs k _ _ len aQ _ _=>(match get s.bx k with|some blk=>aQ=blk.aQ∧∀b:Bool,(b=true->len=0)->K (s.put d (.bl (b !=ng)))|none=>False)
  |_=>False)
 | .append sz bytes str x y,K=>vg true s x λp=>vg true s y λq=>src s str sz q λys=>ic s d sz bytes p ys K
 | .appendZ sz bytes z x y,K=>vg true s x λp=>vg true s y λq=>mS q λm=>ny s d sz bytes z p m K
 |
  .copy sz x y,K=>vg true s x λp=>vg true s y λq=>(match q with
  | .str _=>src s true sz q λys=>jT s d sz p ys K
  |_=>src s false sz q λys=>jT s d sz p ys K)
 | .fill sz z x,K=>vg true s x λp=>Je s d sz z p K
 |
  .mkMap ks vs,K=>(match d with
  |some k=>get s.bx k=none∧∀b:Nat,K {env:=put s.env k (.mp k b),bx:=put s.bx k (.map b ks vs [])}
  |none=>False)
 |
  .mapGet ks vs z ok m x,K=>vg true s m λpm=>vg true s x λp=>(match pm with
  |
   .mp k b=>(match get s.bx k with
   |some (.map b' ks' vs' l)=>(b'=b∧ks'=ks∧vs'=vs∧fits ks p=true)∧K (s.put d (if ok=true then .tup [(SB p l).getD z,.bl (SB p l).isSome]else(SB p l).getD z))
   |_=>False)
  |_=>False)
 |
  .mapSet ks vs m x y,K=>vg true s m λpm=>vg true s x λp=>vg true s y λv=>(match pm with
  |
   .mp k b=>(match get s.bx k with
   |some (.map b' ks' vs' l)=>(d=none∧b'=b∧ks'=ks∧vs'=vs∧fits ks p=true∧fits vs v=true)∧K {s with bx:=put s.bx k (.map b' ks' vs' (Y5 p v l))}
   |_=>False)
  |_=>False)
 | .convB x,K=>vg true s x λp=>(match p with| .str bs=>K (s.put d (.sl 1 (bs.map u8) false))|_=>False)
 |
  .convL x,K=>vg true s x λp=>(match p with
  |
   .rs k pth off len aQ sz c=>(match get s.bx k with
   |some (.arr dR l)=>(pth=[]∧off=0∧sz=1∧dR=1∧c= .tip∧len=l.length∧aQ=l.length∧l≠[]∧l.all PV.isNum=true)∧
     K (St.put {s with bx:=put s.bx k (.arr 1 (l++[.int .u8 0]))} d (.sl 1 l false))
   |_=>False)
  |_=>False)
 |_,_=>False
def kr (P:Program) (nt:Nat) (ds:List Deferred) (o:Oper) (a:Act) (w:World) (Γ:Cx) (K:St->Prop):Prop:=
 ∃nx v w' s' Γ',(execOp a.eval o).run P w= .ok nx w'∧(nx= .value v∨nx= .skip∧v=undef)∧gK nt ds s' Γ' (a.put o.dst v)∧w'.heap=Γ'.heap∧Le Γ Γ'∧WF w w'∧K s'
theorem gK.put (hs:gK nt ds s Γ a) {d:Option Nat} (hd:∀k,d=some k->k<nt) {p:PV} {v:Value} (hr:aO Γ p v):gK nt ds (s.put d p) Γ (a.put d v):=by
 cases d with
 |none=>exact hs
 |
  some d=>
  refine⟨hs.bx,by simp[Act.put,hs.size],hs.defers,λk q hk=> ?_,hs.mem⟩
  simp only[St.put,gL]at hk
  have dG:=hd d rfl
  split at hk
  ·rename_i hdk
   simp only[sJ]at hk;subst hk hdk
   simp only[Act.put]
   have:(a.tmps.setIfInBounds d v).getD d undef=v:=by
    rw[Array.getD_eq_getD_getElem?,uJ (by rw[hs.size];exact dG)];rfl
   rw[this];exact hr
  ·rename_i bS
   have:=hs.env k q hk
   simp only[Act.put]
   rw[Array.getD_eq_getD_getElem?,Array.getElem?_setIfInBounds_ne bS,←Array.getD_eq_getD_getElem?]
   exact this
theorem gK.le (hs:gK nt ds s Γ a) {Γ':Cx} {uq:List (Nat×bX)} (hle:Le Γ Γ') (hm:Mem Γ') (hb:Γ'.bx=uq):gK nt ds {s with bx:=uq} Γ' a:=
 ⟨hb,hs.size,hs.defers,λk p h=>(hs.env k p h).mono hle,hm⟩
theorem M7 {k:Nat} {b:Nat} {v:PV} (hb:get Γ.bx k=some (.box v)) (hι:Γ.ι k=some b):aO Γ (.pt k [] 0) (.pointer (some ⟨b,0,none⟩)):=
 aO.I5 hb rfl hι rfl
theorem CA {o:Oper} {k:Nat} {p:PV} {cs:Array Value} {e:TypeId} {K:St->Prop} (hs:gK nt ds s Γ a) (hw:w.heap=Γ.heap) (hk:o.dst=some k) (dG:k<nt) (jn:get s.bx k=none)
  (hr:aG Γ [p] cs.toList) (iO:(execOp a.eval o).run P w= .ok (.value (.pointer (some ⟨w.heap.size,0,none⟩))) (w.alloc (.cells cs e))) (hK:K {env:=put s.env k (.pt k [] 0),bx:=put s.bx k (.box p)}):
  kr P nt ds o a w Γ K:=by
 rw[←hs.bx]at jn
 have hle:=xt Γ (.cells cs e) (k:=k) (.box p) jn
 have iV:Mem (Γ.ext (.cells cs e) k (.box p)):=FU hs.mem jn ⟨Γ.heap.size,cs,e,rfl,by simp[Cx.ext],hr.mono hle⟩
 have h1:=hs.le hle iV (uq:=put s.bx k (.box p)) (by simp[Cx.ext,hs.bx])
 have h2:aO (Γ.ext (.cells cs e) k (.box p)) (.pt k [] 0) (.pointer (some ⟨w.heap.size,0,none⟩)):=by
  rw[hw];exact M7 (v:=p) (by simp[Cx.ext,dw]) (by simp[Cx.ext])
 have h3:=h1.put (d:=some k) (λj hj=>by cases hj;exact dG) h2
 exact⟨_,_,_,_,_,iO,.inl rfl,by rw[hk];exact h3,by simp[World.alloc,Cx.ext,hw],hle,⟨rfl,rfl,rfl⟩,hK⟩
theorem nz {o:Oper} {k sz:Nat} {l:List PV} {cs rest:List Value} {e:TypeId} {cap:Nat} {w':World} {K:St->Prop} (hs:gK nt ds s Γ a) (hw:w.heap=Γ.heap) (hk:o.dst=some k) (dG:k<nt) (jn:get s.bx k=none) (iq:0<sz)
  (hr:aG Γ l cs) (lx:∀x∈l,x.width=sz) (Cc:cap*sz=(cs++rest).length) (vA:l.length≤cap) (D9:∀v∈rest,fN v=true)
  (iO:(execOp a.eval o).run P w= .ok (.value (.slice (some ⟨w.heap.size,0,none⟩) l.length cap)) w') (qT:w'.heap=w.heap.push (.cells (cs++rest).toArray e (0,0))) (oC:WF w w')
  (hK:K {env:=put s.env k (.rs k [] 0 l.length l.length sz .tip),bx:=put s.bx k (.arr sz l)}):kr P nt ds o a w Γ K:=by
 rw[←hs.bx]at jn
 have hle:=xt Γ (.cells (cs++rest).toArray e (0,0)) (k:=k) (.arr sz l) jn
 have hh:(Γ.ext (.cells (cs++rest).toArray e (0,0)) k (.arr sz l)).heap[Γ.heap.size]? =some (.cells (cs++rest).toArray e (0,0)):=by simp[Cx.ext]
 have iV:Mem (Γ.ext (.cells (cs++rest).toArray e (0,0)) k (.arr sz l)):=FU hs.mem jn ⟨lx,iq,_,e,cs,rest,hh,rfl,hr.mono hle,D9⟩
 have h1:=hs.le hle iV (uq:=put s.bx k (.arr sz l)) (by simp[Cx.ext,hs.bx])
 have h2:aO (Γ.ext (.cells (cs++rest).toArray e (0,0)) k (.arr sz l)) (.rs k [] 0 l.length l.length sz .tip) (.slice (some ⟨w.heap.size,0,none⟩) l.length cap):=by
  rw[hw]
  simp only[aO]
  refine .rs k [] 0 _ _ sz _ _ (.arr sz l) ⟨by simp[Cx.ext,dw],by simp[bX.aQ]⟩ rfl (λ_=>⟨_,_,rfl,?_⟩) .nil
  unfold iT
  have:(Γ.ext (.cells (cs++rest).toArray e (0,0)) k (.arr sz l)).ι k=some Γ.heap.size:=by simp[Cx.ext]
  rw[this]
  exact⟨vA,.inr (by simp[du]),trivial,λ_=>⟨rfl,_,e,hh,by simpa using Cc⟩⟩
 have h3:=h1.put (d:=some k) (λj hj=>by cases hj;exact dG) h2
 exact⟨_,_,_,_,_,iO,.inl rfl,by rw[hk];exact h3,by rw[qT,hw];rfl,hle,oC,hK⟩
theorem Hr {o:Oper} {k sz:Nat} {ad:Option Addr} {K:St->Prop} (hs:gK nt ds s Γ a) (hw:w.heap=Γ.heap) (hk:o.dst=some k) (dG:k<nt) (jn:get s.bx k=none) (iq:0<sz)
  (iO:(execOp a.eval o).run P w= .ok (.value (.slice ad 0 0)) w)
  (hK:K {env:=put s.env k (.rs k [] 0 0 0 sz .tip),bx:=put s.bx k (.arr sz [])}):kr P nt ds o a w Γ K:=by
 rw[←hs.bx]at jn
 have hle:=qV Γ (k:=k) (.arr sz []) jn
 have iV:Mem (Γ.kV k (.arr sz [])):=xu hs.mem jn ⟨by simp,iq,trivial⟩
 have h1:=hs.le hle iV (uq:=put s.bx k (.arr sz [])) (by simp[Cx.kV,hs.bx])
 have h2:aO (Γ.kV k (.arr sz [])) (.rs k [] 0 0 0 sz .tip) (.slice ad 0 0):=by
  simp only[aO]
  refine .rs k [] 0 _ _ sz _ _ (.arr sz []) ⟨by simp[Cx.kV,dw],by simp[bX.aQ]⟩ rfl (λ_=>⟨_,_,rfl,?_⟩) .nil
  unfold iT
  have:(Γ.kV k (.arr sz [])).ι k=none:=by simp[Cx.kV]
  rw[this];exact⟨rfl,rfl,trivial⟩
 have h3:=h1.put (d:=some k) (λj hj=>by cases hj;exact dG) h2
 exact⟨_,_,_,_,Γ.kV k (.arr sz []),iO,.inl rfl,by rw[hk];exact h3,hw,hle,WF.refl w,hK⟩
theorem py {o:Oper} {p:PV} {v:Value} {w':World} {Γ':Cx} {K:St->Prop} (hs:gK nt ds s Γ a) (hd:∀k,o.dst=some k->k<nt) (hle:Le Γ Γ') (hm:Mem Γ') (hb:Γ'.bx=Γ.bx)
  (iO:(execOp a.eval o).run P w= .ok (.value v) w') (hh:w'.heap=Γ'.heap) (oC:WF w w') (hr:aO Γ' p v) (hK:K (s.put o.dst p)):kr P nt ds o a w Γ K:=by
 have h1:=hs.le hle hm (uq:=s.bx) (by rw[hb,hs.bx])
 exact⟨_,v,w',_,_,iO,.inl rfl,h1.put hd hr,hh,hle,oC,hK⟩
theorem Jf (p:PV):(wk p).width=p.width:=by cases p<;>simp[wk,PV.width]
theorem sd (l:List PV):(jo l).length=l.length:=by induction l<;>simp[jo, *]
theorem xv (l:List PV):jo l=l.map wk:=by induction l<;>simp[jo, *]
theorem M8 {l:List PV} {q:PV} (h:q∈jo l):∃p∈l,q=wk p:=by
 rw[xv]at h;obtain⟨p,hp,e⟩:=List.mem_map.1 h;exact⟨p,hp,e.symm⟩
theorem zZ {l:List PV} {sz:Nat} (h:∀x∈l,x.width=sz):∀x∈jo l,x.width=sz:=by
 intro x hx;obtain⟨p,hp,rfl⟩:=M8 hx;rw[Jf];exact h p hp
theorem aG.jo {l:List PV} {cs:List Value} (h:aG Γ l cs):aG Γ (jo l) cs:=by
 induction h with
 |nil=>exact .nil
 |un h hr ih=>simp only[Ab.jo,Ab.wk];exact .un h ih
 |bl x hr ih=>simp only[Ab.jo,Ab.wk];exact .bl x ih
 |int k n hr ih=>simp only[Ab.jo,Ab.wk];exact .int k n ih
 |str l s h hr ih=>simp only[Ab.jo,Ab.wk];exact .str l s h ih
 |st w l hl hw hr ihl ih=>simp only[Ab.jo,Ab.wk];exact .st w _ ihl hw ih
 |ar sz n l hl hn hs hr ihl ih=>simp only[Ab.jo,Ab.wk];exact .ar sz n _ ihl (by rw[sd];exact hn) (zZ hs) ih
 |
  sl sz l clip a bC hl hw hc hk hb hr ihl ih=>
  simp only[Ab.jo,Ab.wk]
  have:=aG.sl sz (Ab.jo l) false a bC ihl (zZ hw) (by rw[sd];exact hc) (by simp) (λbS=>hb (λhe=>bS (by rw[he];rfl))) ih
  rwa [sd]at this
 |rs k p off len aQ sz c v blk hg h1 hv hr ih=>simp only[Ab.jo,Ab.wk];exact .rs k p off len aQ sz c v blk hg h1 hv ih
 |np hr ih=>simp only[Ab.jo,Ab.wk];exact .np ih
 |pt k p aQ v blk hg h1 hv hr ih=>simp only[Ab.jo,Ab.wk];exact .pt k p aQ v blk hg h1 hv ih
 |fp sz l p b o hl hw hm hc hr ihl ih=>simp only[Ab.jo,Ab.wk];exact .fp sz l p b o hl hw hm hc ih
 |fn f first cap h1 h2 h3 h4 hr i1 i2 ih=>simp only[Ab.jo,Ab.wk];exact .fn f first cap h1 h2 h3 h4 ih
 |nf hr ih=>simp only[Ab.jo,Ab.wk];exact .nf ih
 |ifc t v h1 h2 hr i1 ih=>simp only[Ab.jo,Ab.wk];exact .ifc t v h1 h2 ih
 |ni hr ih=>simp only[Ab.jo,Ab.wk];exact .ni ih
 |mp k b hr ih=>simp only[Ab.jo,Ab.wk];exact .mp k b ih
theorem aG.wk {p:PV} {cs:List Value} (h:aG Γ [p] cs):aG Γ [wk p] cs:=by
 have:=h.jo;simpa[Ab.jo]using this
theorem jF.wk {p:PV} {v:Value} (h:jF Γ p v):jF Γ (wk p) v:=by
 cases p
 case st w l=>obtain⟨cs,h1,h2⟩:=h;simp only[Ab.wk];exact⟨cs,h1,by simpa[Ab.wk]using aG.wk h2⟩
 case ar z n l=>obtain⟨cs,h1,h2⟩:=h;simp only[Ab.wk];exact⟨cs,h1,by simpa[Ab.wk]using aG.wk h2⟩
 case sl z l c=>have:=aG.wk (show aG Γ [.sl z l c] [v] from h);simp only[Ab.wk]at this⊢;exact this
 case tup l=>have:=aG.wk (show aG Γ [.tup l] [v] from h);cases h
 all_goals (simp only[Ab.wk];exact h)
theorem j3.jo:∀ {l:List PV} {vs:List Value},j3 Γ l vs->j3 Γ (Ab.jo l) vs
 |[],[],_=>trivial
 |[],_::_,h=>by simp[j3]at h
 |_::_,[],h=>by simp[j3]at h
 |p::l,v::vs,h=>by simp only[j3,Ab.jo]at h⊢;exact⟨h.1.wk,j3.jo h.2⟩
theorem aO.wk {p:PV} {v:Value} (h:aO Γ p v):aO Γ (wk p) v:=by
 cases p
 case st w l=>obtain⟨cs,h1,h2⟩:=h;simp only[Ab.wk];exact⟨cs,h1,by simpa[Ab.wk]using aG.wk h2⟩
 case ar z n l=>obtain⟨cs,h1,h2⟩:=h;simp only[Ab.wk];exact⟨cs,h1,by simpa[Ab.wk]using aG.wk h2⟩
 case sl z l c=>simp only[aO,Ab.wk]at h⊢;simpa[Ab.wk]using aG.wk h
 case tup l=>simp only[aO,Ab.wk]at h⊢;obtain⟨vs,e,h⟩:=h;exact⟨vs,e,h.jo⟩
 all_goals (simp only[Ab.wk];exact h)
theorem Hs {o:Oper} {t:TypeId} {z:PV} {K:St->Prop} (ho:o.op= .alloc t) (hz:zeroOf P t=some z) (hs:gK nt ds s Γ a) (hw:w.heap=Γ.heap) (hd:∀k,o.dst=some k->k<nt) (he:ex s o.dst (.alloc z) K):
  kr P nt ds o a w Γ K:=by
 simp only[ex]at he
 split at he
 ·rename_i k hk
  obtain⟨v,hv,hr,_,_,_⟩:=kK (Γ:=Γ) hz
  refine CA (cs:=v.cells) (e:=t) hs hw hk (hd k hk) he.1 hr ?_ he.2
  simp only[execOp,ho,Instr.alloc,bJ,hv,rJ,newVar,newRow]
  rfl
 ·exact he.elim
theorem M9 {o:Oper} {t:TypeId} {x:Operand} {y:AX} {K:St->Prop} (ho:o.op= .box t x) (hx:iW x=some y) (hs:gK nt ds s Γ a) (hw:w.heap=Γ.heap) (hd:∀k,o.dst=some k->k<nt) (he:ex s o.dst (.box y) K):
  kr P nt ds o a w Γ K:=by
 simp only[ex]at he
 split at he
 ·rename_i k hk
  obtain⟨p,⟨⟨h1,h2⟩,h3⟩,hr⟩:=cW hx hs rfl he
  refine CA (cs:=(a.eval x).cells) (e:=t) hs hw hk (hd k hk) h1 (hr.xo h2) ?_ h3
  simp only[execOp,ho,Instr.box,bJ,newVar,newRow]
  rfl
 ·exact he.elim
theorem ja {z:PV} {cs:List Value} (h:aG Γ [z] cs):∀n,aG Γ (List.replicate n z) (List.replicate n cs).flatten
 |0=> .nil
 |n+1=>by rw[List.replicate_succ,List.replicate_succ,List.flatten_cons];exact h.cons (ja h n)
theorem kH (z:Array Value) (n:Nat):((Array.range (n*z.size)).map (z[·%z.size]!)).toList=(List.replicate n z.toList).flatten:=by
 induction n with
 |zero=>simp
 |
  succ n ih=>
  have e:(n+1)*z.size=n*z.size+z.size:=by rw[Nat.add_mul];omega
  rw[List.replicate_succ',List.flatten_append,←ih,e]
  simp only[Array.toList_map,Array.toList_range,List.range_add,List.map_append,List.map_map,List.flatten_cons,List.flatten_nil,List.append_nil]
  congr 1
  apply List.ext_getElem?
  intro i
  by_cases hi:i<z.size
  ·simp[hi,Nat.mod_eq_of_lt hi,Nat.add_mod,Nat.mul_mod_left]
  ·simp[hi]
end Go.Ab
namespace Go.Ab
variable [eJ]
variable {P:Program} {nt:Nat} {ds:List Deferred} {s:St} {Γ:Cx} {a:Act} {w:World}
theorem xw {o:Oper} {t e:TypeId} {n sz:Nat} {parts:Array (Nat×Operand)} {ps:List (Nat×AX)} {z:PV} {own:Bool} {K:St->Prop} (ho:o.op= .buildSlice t n parts) (hu:P.underlying t=some (.slice e))
  (hp:pr parts.toList=some ps) (hz:zeroOf P e=some z) (iq:iL P e=some sz) (gF:0<sz) (alz:n*sz≤2^24)
  (hs:gK nt ds s Γ a) (hw:w.heap=Γ.heap) (hd:∀k,o.dst=some k->k<nt) (he:ex s o.dst (.buildSlice own sz z n ps) K):kr P nt ds o a w Γ K:=by
 simp only[ex]at he
 obtain⟨qs,hq,hlen,dM⟩:=wR hs rfl hp he
 obtain⟨zv,MT,Sb,yY,_,Sc⟩:=kK (Γ:=Γ) hz
 have PI:z.width=sz:=by rw[iq]at yY;exact(Option.some.inj yY).symm
 split at hq
 ·rename_i l hl
  have hzc:zv.cells.size=sz:=by rw[Sc,PI]
  have acP:aG Γ (List.replicate n z) ((Array.range (n*sz)).map (zv.cells[·%zv.cells.size]!)).toList:=by
   have:=kH zv.cells n
   rw[hzc]at this⊢
   rw[this]
   exact ja Sb n
  have hwr:∀x∈List.replicate n z,x.width=sz:=by intro x hx;rw[(List.mem_replicate.1 hx).2];exact PI
  obtain⟨cells,h1,h2⟩:=tk (Γ:=Γ) (qs.map λx=>(x.1,wk x.2)) (parts.toList.map λp=>(p.1,a.eval p.2)) (λi=>some (i*sz,sz)) (List.replicate n z) l _ acP hl (by simp[hlen])
   (λi j p k u h3 h4=>by
    rw[List.getElem?_map,mJ]at h3 h4
    obtain⟨⟨k',x⟩,h5,h6⟩:=h4
    obtain⟨⟨j',q⟩,h7,h8⟩:=h3
    simp only[Prod.mk.injEq]at h6 h8
    obtain⟨rfl,rfl⟩:=h6
    obtain⟨rfl,rfl⟩:=h8
    have:=dM i j' q k' x h7 h5
    exact⟨this.1,this.2.wk⟩)
   (λi q hi=>by
    have hil:=(List.getElem?_eq_some_iff.1 hi).1
    rw[gQ hwr (by omega),hwr q (List.mem_of_getElem? hi)])
  have VA:l.length=n:=by rw[uC.setParts_length hl];simp
  have hlw:=uC.setParts_width hl hwr
  have AT:cells.toList.length=n*sz:=by rw[h2.length,b8 hlw,VA]
  have dG:¬n*sz>2^24:=by omega
  have Ha:Instr.fill (λi=>some (i*sz,sz)) ((Array.range (n*sz)).map ((if n*sz=0 then #[]else zv.cells)[·%(if n*sz=0 then #[]else zv.cells).size]!)) (parts.map λp=>(p.1,a.eval p.2)).toList=some cells:=by
   have e1:(parts.map λp=>(p.1,a.eval p.2)).toList=parts.toList.map λp=>(p.1,a.eval p.2):=by simp
   rw[e1]
   by_cases h0:n*sz=0
   ·rw[if_pos h0]
    rw[h0]at h1⊢
    have em:∀f:Nat->Value,Array.map f (Array.range 0)= #[]:=λf=>by apply Array.ext';simp
    rw[em]at h1⊢
    exact h1
   ·rw[if_neg h0];exact h1
  have hb:(Instr.buildSlice t n (parts.map λp=>(p.1,a.eval p.2))).run P w= .ok (.slice (some ⟨w.heap.size,0,none⟩) n n) (w.alloc (.cells cells e)):=by
   simp only[Instr.buildSlice,bJ,run_underlying hu,rJ,run_sizeOf iq]
   rw[if_neg dG]
   by_cases h0:n*sz=0
   ·rw[if_pos h0]
    rw[if_pos h0]at Ha
    simp only[bJ,Sem.run_pure,rJ]
    rw[Ha]
    rfl
   ·rw[if_neg h0]
    rw[if_neg h0]at Ha
    simp only[bJ,MT,Sem.run_pure,rJ]
    rw[Ha]
    rfl
  have iO:(execOp a.eval o).run P w= .ok (.value (.slice (some ⟨w.heap.size,0,none⟩) n n)) (w.alloc (.cells cells e)):=by
   have e2:execOp a.eval o=(do Pure.pure (Next.value (←Instr.buildSlice t n (parts.map λp=>(p.1,a.eval p.2))))):=by unfold execOp;rw[ho]
   rw[e2,bJ,hb];rfl
  split at hq
  ·rename_i PB
   split at hq
   ·rename_i k hk
    refine nz (P:=P) (cs:=cells.toList) (rest:=[]) (e:=e) (cap:=n) (w':=w.alloc (.cells cells e)) hs hw hk (hd k hk) hq.1 gF h2 hlw (by rw[List.append_nil];exact AT.symm) (by omega) (by simp) (by rw[VA];exact iO) (by rw[List.append_nil];rfl) ⟨rfl,rfl,rfl⟩ (by rw[VA];exact hq.2)
   ·exact hq.elim
  ·refine py hs hd (px Γ (.cells cells e)) (mem_push hs.mem _) rfl iO (by show w.heap.push _=Γ.heap.push _;rw[hw]) ⟨rfl,rfl,rfl⟩ ?_ hq
   simp only[aO]
   have:=aG.sl (Γ:=Γ.push (.cells cells e)) sz l true (some ⟨w.heap.size,0,none⟩) n (h2.mono (px Γ _)) hlw (by omega) (λ_=>VA.symm) (λ_=>⟨w.heap.size,0,rfl,by simp[Cx.push,hw],by
    rw[hw]
    have:=hs.mem.vH
    exact this,λi c hc=>by
     have hi:=(List.getElem?_eq_some_iff.1 hc).1
     simp only[cell,Cx.push,hw,Nat.zero_add,Array.getElem?_push_size]
     rw[←Array.getElem?_toList];exact hc⟩) .nil
   rw[VA]at this
   exact this
 ·exact hq.elim
theorem zk {o:Oper} {t e:TypeId} {i:TypeInfo} {ln cp:Operand} {ln' cp':AX} {z:PV} {K:St->Prop} (ho:o.op= .makeSlice t ln cp) (hu:P.underlying t=some (.slice e)) (hl:iW ln=some ln') (hc:iW cp=some cp')
  (hz:zeroOf P e=some z) (hi:P.info? e=some i) (gF:0<i.size)
  (hs:gK nt ds s Γ a) (hw:w.heap=Γ.heap) (hd:∀k,o.dst=some k->k<nt) (he:ex s o.dst (.makeSlice i.size i.bytes z ln' cp') K):kr P nt ds o a w Γ K:=by
 simp only[ex]at he
 obtain⟨p,hp,rM⟩:=cW hl hs rfl he
 obtain⟨k1,l,yR,hp⟩:=fX hp rM
 obtain⟨q,hq,mQ⟩:=cW hc hs rfl hp
 obtain⟨k2,c,kq,hK⟩:=fX hq mQ
 obtain⟨zv,MT,Sb,yY,_,Sc⟩:=kK (Γ:=Γ) hz
 have PI:z.width=i.size:=by rw[uD hi]at yY;exact(Option.some.inj yY).symm
 have hzc:zv.cells.size=i.size:=by rw[Sc,PI]
 split at hK
 ·rename_i k hk
  obtain⟨⟨h1,h2,h3,h4,h5⟩,hK⟩:=hK
  have L3:IntKind.i64.wrap l=l:=by
   have e1:(2:Int)^IntKind.i64.bits=18446744073709551616:=by decide
   have e2:(2:Int)^(IntKind.i64.bits-1)=9223372036854775808:=by decide
   simp only[IntKind.wrap,e1,e2]
   have:l%18446744073709551616=l:=Int.emod_eq_of_lt h2 (by omega)
   rw[this]
   rw[if_neg (by simp;intro _;omega)]
  have hwc:IntKind.i64.wrap c=c:=by
   have e1:(2:Int)^IntKind.i64.bits=18446744073709551616:=by decide
   have e2:(2:Int)^(IntKind.i64.bits-1)=9223372036854775808:=by decide
   simp only[IntKind.wrap,e1,e2]
   have:c%18446744073709551616=c:=Int.emod_eq_of_lt (by omega) (by omega)
   rw[this]
   rw[if_neg (by simp;intro _;omega)]
  have ly:((Array.range (c.toNat*i.size)).map (zv.cells[·%zv.cells.size]!)).toList=(List.replicate c.toNat zv.cells.toList).flatten:=by
   have:=kH zv.cells c.toNat
   rw[hzc]at this⊢
   exact this
  have vB:(List.replicate c.toNat zv.cells.toList).flatten=(List.replicate l.toNat zv.cells.toList).flatten++(List.replicate (c.toNat-l.toNat) zv.cells.toList).flatten:=by
   rw[←List.flatten_append,List.replicate_append_replicate,show l.toNat+(c.toNat-l.toNat)=c.toNat by omega]
  refine nz (P:=P) (l:=List.replicate l.toNat z) (cs:=(List.replicate l.toNat zv.cells.toList).flatten) (rest:=(List.replicate (c.toNat-l.toNat) zv.cells.toList).flatten) (e:=e) (cap:=c.toNat) (w':=w.alloc (.cells ((Array.range (c.toNat*i.size)).map (zv.cells[·%zv.cells.size]!)) e)) hs hw hk (hd k hk) h1 gF (ja Sb _)
   (by intro x hx;rw[(List.mem_replicate.1 hx).2];exact PI) ?_ (by simp;omega) (ja Sb _).one ?_ ?_ ⟨rfl,rfl,rfl⟩ (by simpa using hK)
  ·rw[←vB,←ly];simp
  ·simp only[List.length_replicate]
   have hb:¬((i.bytes:Int)*c>2^48):=by
    have:(2:Int)^48=281474976710656:=by decide
    rw[this,Int.mul_comm];omega
   have hm:(Instr.makeSlice t (a.eval ln) (a.eval cp)).run P w= .ok (.slice (some ⟨w.heap.size,0,none⟩) l.toNat c.toNat) (w.alloc (.cells ((Array.range (c.toNat*i.size)).map (zv.cells[·%zv.cells.size]!)) e)):=by
    have uk:((decide (c<0)||decide ((i.bytes:Int)*c>2^48))||decide (l<0)||decide (l>c))=false:=by
     have e1:decide (c<0)=false:=decide_eq_false (by omega)
     have e2:decide ((i.bytes:Int)*c>2^48)=false:=decide_eq_false hb
     have e3:decide (l<0)=false:=decide_eq_false (by omega)
     have e4:decide (l>c)=false:=decide_eq_false (by omega)
     rw[e1,e2,e3,e4];rfl
    have iq:=uD hi
    have Sd:(typeInfo e).run P w= .ok i w:=by simp[typeInfo,hi]
    simp only[Instr.makeSlice,bJ,run_underlying hu,rJ,yR,kq,asInt,asIntOf,Sem.run_pure,Sd,L3,hwc]
    rw[if_neg (by rw[uk];simp)]
    simp only[bJ,run_askRoom,rJ,run_sizeOf iq]
    by_cases h0:c.toNat*i.size=0
    ·rw[if_pos h0]
     have em:∀f:Nat->Value,Array.map f (Array.range (c.toNat*i.size))= #[]:=by intro f;rw[h0];apply Array.ext';simp
     simp only[bJ,Sem.run_pure,rJ,em]
     rfl
    ·rw[if_neg h0]
     simp only[bJ,MT,rJ,Sem.run_pure]
     rfl
   have e2:execOp a.eval o=(do Pure.pure (Next.value (←Instr.makeSlice t (a.eval ln) (a.eval cp)))):=by unfold execOp;rw[ho]
   rw[e2,bJ,hm];rfl
  ·rw[←vB,←ly];rfl
 ·exact hK.elim
theorem Jg (l:List UInt8):aG Γ (l.map u8) (l.map λb=>Value.int .u8 b.toNat):=by
 induction l with
 |nil=>exact .nil
 |cons b l ih=>exact .int .u8 _ ih
theorem Ht {o:Oper} {t d e:TypeId} {x:Operand} {x':AX} {K:St->Prop} (ho:o.op= .convert t d x) (h1:P.underlying t=some .string) (h2:P.underlying d=some (.slice e)) (h3:P.underlying e=some (.int .u8))
  (hx:iW x=some x') (hs:gK nt ds s Γ a) (hw:w.heap=Γ.heap) (hd:∀k,o.dst=some k->k<nt) (he:ex s o.dst (.convB x') K):kr P nt ds o a w Γ K:=by
 simp only[ex]at he
 obtain⟨p,hp,hr⟩:=cW hx hs rfl he
 cases p<;>simp only at hp<;>first|exact hp.elim|skip
 rename_i l
 simp only[aO]at hr
 obtain⟨bs,hv,hl⟩:∃bs:ByteArray,a.eval x= .string bs∧bs.data.toList=l:=by
  generalize a.eval x=v at hr
  cases hr with
  |str l s h _=>exact⟨s,rfl,h⟩
 subst hl
 have Se:=run_bytes_of_string (P:=P) w t d e bs h1 h2 h3
 generalize hC:bytesRow bs (grownCap w bs.size 0 e)=C at Se
 have iO:(execOp a.eval o).run P w= .ok (.value (.slice (some ⟨w.heap.size,0,none⟩) bs.size (grownCap w bs.size 0 e))) (w.drew.alloc (.cells C e (C.size,C.size+1))):=by
  have e2:execOp a.eval o=(do Pure.pure (Next.value (←convert t d (a.eval x)))):=by unfold execOp;rw[ho]
  rw[e2,bJ,hv,Se];rfl
 refine py hs hd (px Γ (.cells C e (C.size,C.size+1))) (mem_push hs.mem _) rfl iO (by show w.heap.push _=Γ.heap.push _;rw[hw]) ⟨rfl,rfl,rfl⟩ ?_ hp
 simp only[aO]
 have iq:(bs.data.toList.map u8).length=bs.size:=by rw[List.length_map,Array.length_toList];rfl
 have:=aG.sl (Γ:=Γ.push (.cells C e (C.size,C.size+1))) 1 (bs.data.toList.map u8) false (some ⟨w.heap.size,0,none⟩) (grownCap w bs.size 0 e) (Jg _) (by
   intro x hx
   obtain⟨b,_,rfl⟩:=List.mem_map.1 hx
   rfl) (by rw[iq];have:=grownCap_ge w bs.size 0 e;omega) (by simp) (λ_=>⟨w.heap.size,0,rfl,by simp[Cx.push,hw],by
    rw[hw]
    exact hs.mem.vH,λi c hc=>by
     simp only[cell,Cx.push,hw,Nat.zero_add,Array.getElem?_push_size]
     rw[←hC]
     simp only[bytesRow]
     have hi:=(List.getElem?_eq_some_iff.1 hc).1
     rw[Array.getElem?_append_left (by simpa using hi)]
     rw[←hc]
     simp⟩) .nil
 rw[iq]at this
 exact this
end Go.Ab
namespace Go.Ab
variable [eJ]
variable {P:Program} {nt:Nat} {ds:List Deferred} {s:St} {Γ:Cx} {a:Act} {w:World}
theorem qz (hm:Mem Γ) {k b:Nat} {blk cI:bX} {pth:List Step} {x:PV} {us:List Value} (hg:get Γ.bx k=some blk) (hb:Γ.ι k=some b) (hx:aG Γ [x] us) (kE:qu blk pth x=some cI):
  ∃
   c e,Γ.heap[b]? =some (.cells c e (0,0))∧du pth+us.length≤c.size∧cI.aQ=blk.aQ∧
   ∀c',c'.toList=bU c.toList (du pth) us->cI.vE (Γ.jH b (.cells c' e (0,0)) k cI) (some b):=by
 have h:=hm.blk k blk hg
 cases blk with
 |
  box v=>
  obtain⟨b',c,e,h1,h2,h3⟩:=h
  rw[hb]at h1;cases h1
  simp only[qu]at kE
  split at kE
  ·rename_i v' R9
   simp only[sJ]at kE;subst kE
   obtain⟨g1,g2,g3⟩:=xn hx pth h3 R9
   refine⟨c,e,h2,by simpa using g1,rfl,λc' FC=> ?_⟩
   have iq:c'.size=c.size:=by rw[←Array.length_toList,FC,fh g1,Array.length_toList]
   refine⟨b,c',e,rfl,by simp only[Cx.jH];rw[uJ (db h2)],?_⟩
   rw[FC]
   exact g3.mono (ld (cI:= .box v') hg hb h2 iq (Nat.le_refl _))
  ·simp at kE
 |
  arr sz l=>
  obtain⟨h1,h2,h3⟩:=h
  rw[hb]at h3
  obtain⟨c,e,cs,rest,h4,h5,h6,D9⟩:=h3
  cases pth with
  |nil=>simp[qu]at kE
  |cons st r=>
  cases st with
  |f=>simp[qu]at kE
  |
   i j sz''=>
   simp only[qu]at kE
   split at kE
   ·rename_i hs;subst hs
    split at kE
    ·rename_i cj hc
     split at kE
     ·rename_i c2 yT
      simp only[sJ]at kE;subst kE
      have r3:=h6.at hc
      obtain⟨g4,g5,g6⟩:=xn hx r r3 yT
      have g7:=r3.hZ
      have:=xm h6 hc (by omega) g5 g6
      have hj:=(List.getElem?_eq_some_iff.1 hc).1
      rw[gQ h1 (by omega)]at this
      have hle:du (Step.i j sz''::r)+us.length≤cs.length:=by simp only[du];exact this.1
      have L7:c.size=cs.length+rest.length:=by rw[←Array.length_toList,h5];simp
      refine⟨c,e,h4,by omega,by simp[bX.aQ],λc' FC=> ?_⟩
      have iq:c'.size=c.size:=by rw[←Array.length_toList,FC,fh (by simp;omega),Array.length_toList]
      have Iz:=ld (Γ:=Γ) (cI:= .arr sz'' (l.set j c2)) hg hb h4 iq (by simp[bX.aQ])
      refine⟨oq h1 (by rw[g5];exact h1 cj (List.mem_of_getElem? hc)),h2,c',e,bU cs (du (Step.i j sz''::r)) us,rest,by simp only[Cx.jH];rw[uJ (db h4)],?_,?_,D9⟩
      ·rw[FC,h5];exact splice_append hle
      ·exact(by simpa only[du]using this.2:aG Γ _ _).mono Iz
     ·simp at kE
    ·simp at kE
   ·simp at kE
  |w o n s=>simp[qu]at kE
 |map b0 ks vs l=>simp[qu]at kE
where
 splice_append {cs rest us:List Value} {o:Nat} (h:o+us.length≤cs.length):bU (cs++rest) o us=bU cs o us++rest:=by
  simp only[bU]
  rw[List.take_append_of_le_length (by omega),List.drop_append_of_le_length (by omega)]
  simp
theorem Hu {o:Oper} {t:TypeId} {n:Nat} {x y:Operand} {x' y':AX} {K:St->Prop} (ho:o.op= .store t x y) (hn:iL P t=some n) (hx:iW x=some x') (hy:iW y=some y')
  (hs:gK nt ds s Γ a) (hw:w.heap=Γ.heap) (hd:o.dst=none) (he:ex s o.dst (.store n x' y') K):kr P nt ds o a w Γ K:=by
 simp only[ex]at he
 obtain⟨p,hp,rM⟩:=cW hx hs rfl he
 obtain⟨v,hv,mQ⟩:=cW hy hs rfl hp
 split at hv
 ·rename_i k pth aQ
  split at hv
  ·rename_i blk hg
   split at hv
   ·rename_i cI kE
    obtain⟨⟨h1,h2,h3⟩,hK⟩:=hv
    rw[←hs.bx]at hg
    obtain⟨b,hι,hpv⟩:=rM.pt hg h1
    have ly:=mQ.xo h3
    have PJ:aG Γ [SA blk v] (a.eval y).cells.toList:=by
     cases blk
     ·exact ly
     ·exact ly.wk
     ·exact ly
    obtain⟨c,e,g1,g2,g3,g4⟩:=qz hs.mem hg hι PJ kE
    have hvs:(a.eval y).cells.size=n:=by rw[←h2,←ly.hZ];simp
    obtain⟨w',r1,r2,r3⟩:=Bc (P:=P) (w:=w) (t:=t) (b:=b) (o:=du pth) (c:=c) (e:=e) (v:=a.eval y) (by rw[hw];exact g1) hn hvs (by have:=g2;simp at this;omega) (λz hz=>ly.one z hz)
    have iq:(bU c.toList (du pth) (a.eval y).cells.toList).toArray.size=c.size:=by simp[fh (show du pth+(a.eval y).cells.toList.length≤c.toList.length by simpa using g2)]
    have hle:=ld (Γ:=Γ) (cI:=cI) hg hι g1 iq (by omega)
    have iV:=mT (Γ:=Γ) (cI:=cI) hs.mem hg hι g1 iq (by omega) (g4 _ (by simp))
    have h1:=hs.le hle iV (uq:=put s.bx k cI) (by simp[Cx.jH,hs.bx])
    refine⟨.skip,undef,w',_,_,?_,.inr ⟨rfl,rfl⟩,by rw[hd];exact h1,by rw[r2,hw];rfl,hle,r3,hK⟩
    have e2:execOp a.eval o=(do Instr.storeAt t (a.eval x) (a.eval y);Pure.pure Next.skip):=by unfold execOp;rw[ho]
    rw[e2,bJ]
    simp only[Instr.storeAt,hpv,Instr.sureAddr,bJ,Sem.run_pure,rJ,r1]
   ·exact hv.elim
  ·exact hv.elim
 ·exact hv.elim
theorem Be {str:Bool} {sz:Nat} {q:PV} {v:Value} {K:List PV->Prop} (hs:gK nt ds s Γ a) (hw:w.heap=Γ.heap) (h:src s str sz q K) (hr:aO Γ q v):
  ∃ys news,K ys∧oG w sz ys.length v news∧aG Γ ys news∧(∀x∈ys,x.width=sz):=by
 unfold src at h
 split at h
 ·split at h
  ·rename_i bs
   obtain⟨st,hv,hd⟩:=hr.str
   obtain⟨rfl,hK⟩:=h
   have hlen:bs.length=st.size:=by rw[←hd];exact Array.length_toList
   refine⟨_,_,hK,.inr ⟨st,hv,by simp[hlen],rfl,rfl⟩,?_,?_⟩
   ·rw[hd]
    clear hK hlen hd hv hr
    induction bs with
    |nil=>exact .nil
    |cons b bs ih=>exact .int _ _ ih
   ·intro x hx;obtain⟨b,_,rfl⟩:=List.mem_map.1 hx;rfl
  ·exact h.elim
 ·obtain⟨dR,l,cs,ad,bC,⟨h1,hK⟩,hv,hl,kF,hle,lx⟩:=nV hs h hr
  refine⟨l,cs,hK,.inl ⟨ad,bC,hv,λgF=> ?_⟩,hl,λx hx=> ?_⟩
  ·obtain⟨b,o,e1,e2⟩:=kF (by intro h;subst h;simp at gF)
   exact⟨b,o,e1,by rw[hw];exact e2⟩
  ·rcases h1 with rfl|rfl
   ·simp at hx
   ·exact lx x hx
end Go.Ab
namespace Go.Ab
variable [eJ]
variable {P:Program} {nt:Nat} {ds:List Deferred} {s:St} {Γ:Cx} {a:Act} {w:World}
theorem wS (Γ:Cx) (o:Obj) {k:Nat} {blk cI:bX} (hk:get Γ.bx k=some blk) (ht:blk.aQ<cI.aQ):Le Γ (Γ.ext o k cI) where
 heap b hb _:=k9 _ _ hb
 hO b hb h:=by
  obtain⟨i,bl,hg,hi⟩:=h
  simp only[Cx.ext]at hg hi
  by_cases ir:i=k
  ·subst ir;simp at hi;omega
  ·rw[if_neg ir]at hi
   rw[cP _ _ _ _ (λh=>ir h.symm)]at hg
   exact⟨i,bl,hg,hi⟩
 ed:=rfl
 size:=by simp[Cx.ext]
 ref i bl h:=by
  by_cases ir:i=k
  ·subst ir
   rw[hk]at h;cases h
   exact⟨cI,by simp[Cx.ext,dw],by omega,λe=>by omega⟩
  ·exact⟨bl,by simp only[Cx.ext];rw[cP _ _ _ _ (λh=>ir h.symm)];exact h,Nat.le_refl _,λ_=>⟨by simp[Cx.ext,ir],λb _ cs e hc=>⟨cs,by rw[←hc];exact k9 _ _ (db hc),rfl⟩⟩⟩
theorem Jh (hm:Mem Γ) {o:Obj} {k:Nat} {blk cI:bX} (hk:get Γ.bx k=some blk) (ht:blk.aQ<cI.aQ) (hr:cI.vE (Γ.ext o k cI) (some Γ.heap.size)):Mem (Γ.ext o k cI) where
 blk i bl h:=by
  by_cases ir:i=k
  ·subst ir
   simp only[Cx.ext,dw,sJ]at h
   subst h
   have:(Γ.ext o i cI).ι i=some Γ.heap.size:=by simp[Cx.ext]
   rw[this];exact hr
  ·simp only[Cx.ext]at h
   rw[cP _ _ _ _ (λh=>ir h.symm)]at h
   have:=hm.blk i bl h
   have e:(Γ.ext o k cI).ι i=Γ.ι i:=by simp[Cx.ext,ir]
   rw[e]
   exact this.mono (wS Γ o hk ht) (λb hb=>by rw[hb]at this;exact k9 _ _ this.lt)
 inj i j b hi hj h1 h2:=by
  simp only[Cx.ext,gL]at hi hj h1 h2
  by_cases ir:i=k<;>by_cases um:j=k
  ·rw[ir,um]
  ·rw[if_pos ir]at h1
   rw[if_neg um]at h2
   rw[if_neg (λh=>um h.symm)]at hj
   obtain⟨bl,s8⟩:=Option.isSome_iff_exists.1 hj
   have:=hm.lt ⟨j,bl,s8,h2⟩
   simp at h1;omega
  ·rw[if_neg ir]at h1
   rw[if_pos um]at h2
   rw[if_neg (λh=>ir h.symm)]at hi
   obtain⟨bl,s8⟩:=Option.isSome_iff_exists.1 hi
   have:=hm.lt ⟨i,bl,s8,h1⟩
   simp at h2;omega
  ·rw[if_neg ir]at h1
   rw[if_neg um]at h2
   rw[if_neg (λh=>ir h.symm)]at hi
   rw[if_neg (λh=>um h.symm)]at hj
   exact hm.inj i j b hi hj h1 h2
 ed b h:=by have:=hm.ed b h;simp only[Cx.ext,Array.size_push];omega
 apart b h hp:=by
  have dG:=hm.ed b hp
  exact hm.apart b ((wS Γ o hk ht).hO b dG h) hp
 te:=hm.lF (wS Γ o hk ht)
theorem nA {bx:List (Nat×bX)} (h:∀i,get bx i=get Γ.bx i):Le Γ {Γ with bx:=bx} where
 heap _ _ _:=rfl
 hO b _ hm:=by obtain⟨k,blk,hg,hk⟩:=hm;exact⟨k,blk,by rw[←h];exact hg,hk⟩
 ed:=rfl
 size:=Nat.le_refl _
 ref k blk hg:=⟨blk,by show get bx k=_;rw[h];exact hg,Nat.le_refl _,λ_=>⟨rfl,λ_ _ cs _ hc=>⟨cs,hc,rfl⟩⟩⟩
theorem xx (hm:Mem Γ) {bx:List (Nat×bX)} (h:∀i,get bx i=get Γ.bx i):Mem {Γ with bx:=bx} where
 blk k blk hg:=(hm.blk k blk (by rw[←h];exact hg)).mono (nA h) (λ_ _=>rfl)
 inj i j b hi hj h1 h2:=hm.inj i j b (by rw[←h];exact hi) (by rw[←h];exact hj) h1 h2
 ed:=hm.ed
 apart b hb:=hm.apart b ((nA h).hO b (hm.lt (by obtain⟨k,blk,hg,hk⟩:=hb;exact⟨k,blk,by rw[←h];exact hg,hk⟩)) hb)
 te:=hm.lF (nA h)
theorem lg {α:Type} {l:List (Nat×α)} {k:Nat} {x:α} (h:get l k=some x):∀i,get (put l k x) i=get l i:=by
 intro i
 rw[gL]
 split
 ·subst_vars;exact h.symm
 ·rfl
theorem z6 {o:Oper} {k d sz:Nat} {blk:bX} {l:List PV} {cs rest:List Value} {e:TypeId} {cap:Nat} {w':World} {K:St->Prop} (hs:gK nt ds s Γ a) (hw:w.heap=Γ.heap) (hk:o.dst=some d) (dG:d<nt) (hg:get s.bx k=some blk)
  (ht:blk.aQ<l.length) (iq:0<sz) (hr:aG Γ l cs) (lx:∀x∈l,x.width=sz) (Cc:cap*sz=(cs++rest).length) (vA:l.length≤cap) (D9:∀v∈rest,fN v=true)
  (iO:(execOp a.eval o).run P w= .ok (.value (.slice (some ⟨w.heap.size,0,none⟩) l.length cap)) w') (qT:w'.heap=w.heap.push (.cells (cs++rest).toArray e (0,0))) (oC:WF w w')
  (hK:K {env:=put s.env d (.rs k [] 0 l.length l.length sz .tip),bx:=put s.bx k (.arr sz l)}):kr P nt ds o a w Γ K:=by
 rw[←hs.bx]at hg
 have hle:=wS Γ (.cells (cs++rest).toArray e (0,0)) (k:=k) (cI:= .arr sz l) hg (by simpa[bX.aQ]using ht)
 have hh:(Γ.ext (.cells (cs++rest).toArray e (0,0)) k (.arr sz l)).heap[Γ.heap.size]? =some (.cells (cs++rest).toArray e (0,0)):=by simp[Cx.ext]
 have iV:Mem (Γ.ext (.cells (cs++rest).toArray e (0,0)) k (.arr sz l)):=Jh hs.mem hg (by simpa[bX.aQ]using ht) ⟨lx,iq,_,e,cs,rest,hh,rfl,hr.mono hle,D9⟩
 have h1:=hs.le hle iV (uq:=put s.bx k (.arr sz l)) (by simp[Cx.ext,hs.bx])
 have h2:aO (Γ.ext (.cells (cs++rest).toArray e (0,0)) k (.arr sz l)) (.rs k [] 0 l.length l.length sz .tip) (.slice (some ⟨w.heap.size,0,none⟩) l.length cap):=by
  rw[hw]
  simp only[aO]
  refine .rs k [] 0 _ _ sz _ _ (.arr sz l) ⟨by simp[Cx.ext,dw],by simp[bX.aQ]⟩ rfl (λ_=>⟨_,_,rfl,?_⟩) .nil
  unfold iT
  have:(Γ.ext (.cells (cs++rest).toArray e (0,0)) k (.arr sz l)).ι k=some Γ.heap.size:=by simp[Cx.ext]
  rw[this]
  exact⟨vA,.inr (by simp[du]),trivial,λ_=>⟨rfl,_,e,hh,by simpa using Cc⟩⟩
 have h3:=h1.put (d:=some d) (λj hj=>by cases hj;exact dG) h2
 exact⟨_,_,_,_,_,iO,.inl rfl,by rw[hk];exact h3,by rw[qT,hw];rfl,hle,oC,hK⟩
theorem rP {o:Oper} {b:Builtin} {x y:Operand} {t u:TypeId} {f:Array TypeId->TypeId->Array Value->Sem Value} (ho:o.op= .call {callee:= .builtin b,args:= #[x,y],argTypes:= #[t,u]})
  (hb:∀ {c:Array Bool} {args:Array Value},builtin b #[t,u] o.type c args=(do Pure.pure (Next.value (←f #[t,u] o.type args)))):
  execOp a.eval o=(do Pure.pure (Next.value (←f #[t,u] o.type #[a.eval x,a.eval y]))):=by
 have e1:Array.map a.eval #[x,y]= #[a.eval x,a.eval y]:=by simp
 rw[←e1,←hb (c:=(#[x,y]:Array Operand).map λ| .const _=>true|_=>false)]
 unfold execOp
 rw[ho]
 rfl
theorem jU {o:Oper} {x y:Operand} {t u:TypeId} (ho:o.op= .call {callee:= .builtin .append,args:= #[x,y],argTypes:= #[t,u]}) {r:Value} {w':World}
  (h:(Builtin.append_ #[t,u] o.type #[a.eval x,a.eval y]).run P w= .ok r w'):(execOp a.eval o).run P w= .ok (.value r) w':=by
 have e2:execOp a.eval o=(do Pure.pure (Next.value (←Builtin.append_ #[t,u] o.type #[a.eval x,a.eval y]))):=rP ho rfl
 rw[e2,bJ,h];rfl
theorem aG.CB {l:List PV} {cs:List Value} {sz:Nat} (h:aG Γ l cs) (hw:∀x∈l,x.width=sz) (n:Nat) (hn:n≤l.length):aG Γ (l.take n) (cs.take (n*sz)):=by
 have e1:l=l.take n++l.drop n:=by rw[List.take_append_drop]
 rw[e1]at h
 obtain⟨c1,v1,rfl,r1,r2⟩:=h.split
 have l1:c1.length=n*sz:=by rw[r1.length,gQ hw hn]
 rw[←l1,List.take_left];exact r1
theorem aG.Qa {l:List PV} {cs:List Value} {sz:Nat} (h:aG Γ l cs) (hw:∀x∈l,x.width=sz) (n:Nat) (hn:n≤l.length):aG Γ (l.drop n) (cs.drop (n*sz)):=by
 have e1:l=l.take n++l.drop n:=by rw[List.take_append_drop]
 rw[e1]at h
 obtain⟨c1,v1,rfl,r1,r2⟩:=h.split
 have l1:c1.length=n*sz:=by rw[r1.length,gQ hw hn]
 rw[←l1,List.drop_left];exact r2
theorem aG.over {l ys:List PV} {cs news:List Value} {sz:Nat} (h:aG Γ l cs) (hw:∀x∈l,x.width=sz) (hy:aG Γ ys news) (hyw:∀x∈ys,x.width=sz) (off n:Nat) (hn:n≤ys.length) (ho:off+n≤l.length):
  aG Γ (l.take off++ys.take n++l.drop (off+n)) (bU cs (off*sz) (news.take (n*sz))):=by
 have hl:(news.take (n*sz)).length=n*sz:=by
  rw[lJ,hy.length,b8 hyw];exact Nat.min_eq_left (Nat.mul_le_mul_right _ hn)
 simp only[bU,hl]
 rw[show off*sz+n*sz=(off+n)*sz by rw[Nat.add_mul]]
 exact((h.CB hw off (by omega)).append (hy.CB hyw n hn)).append (h.Qa hw (off+n) ho)
theorem xy {cs rest us:List Value} {o:Nat} (h:o+us.length≤cs.length):bU (cs++rest) o us=bU cs o us++rest:=by
 simp only[bU]
 rw[List.take_append_of_le_length (by omega),List.drop_append_of_le_length h,List.append_assoc,List.append_assoc,List.append_assoc]
theorem rQ {z:Array Value} (h0:0<z.size) (h:z.toList.all fN=true) {n:Nat}:∀v∈(Builtin.zeroCells z n).toList,fN v=true:=by
 intro v hv
 simp only[Builtin.zeroCells,Array.toList_map,List.mem_map]at hv
 obtain⟨j,_,rfl⟩:=hv
 have dG:j%z.size<z.size:=Nat.mod_lt _ h0
 rw[getElem!_pos z _ dG]
 exact List.all_eq_true.1 h _ (by simp)
theorem xz {o:Oper} {t u e:TypeId} {d:TypeDesc} {i:TypeInfo} {z:Value} {x y:Operand} {x' y':AX} {str:Bool} {K:St->Prop} (ho:o.op= .call {callee:= .builtin .append,args:= #[x,y],argTypes:= #[t,u]})
  (ht:P.underlying t=some (.slice e)) (hu:P.underlying u=some d) (IU:(∃x,d= .slice x)∨d= .string) (hi:P.info? e=some i) (hz:i.zero=some z) (Sc:z.cells.size=i.size) (gF:0<i.size) (VB:z.cells.toList.all fN=true)
  (hx:iW x=some x') (hy:iW y=some y') (hs:gK nt ds s Γ a) (hw:w.heap=Γ.heap) (hd:∀k,o.dst=some k->k<nt) (he:ex s o.dst (.append i.size i.bytes str x' y') K):kr P nt ds o a w Γ K:=by
 simp only[ex]at he
 obtain⟨p,hp,rM⟩:=cW hx hs rfl he
 obtain⟨q,hq,mQ⟩:=cW hy hs rfl hp
 obtain⟨ys,news,hA,ze,wo,xh⟩:=Be hs hw hq mQ
 have kG:news.length=ys.length*i.size:=by rw[wo.length,b8 xh]
 have uo:=wo.one
 have YF:∀ {n:Nat},∀v∈(Builtin.zeroCells z.cells n).toList,fN v=true:=rQ (by omega) VB
 --a fresh array out of what is there and what comes
 have fresh:∀ {k:Nat} {ad:Option Addr} {l:List PV} {cs:List Value} {bC:Nat},o.dst=some k->a.eval x= .slice ad l.length bC->bC<l.length+ys.length->aG Γ l cs->(∀x∈l,x.width=i.size)->
   (l≠[]->∃b o,ad=some ⟨b,o,none⟩∧∀i c,cs[i]? =some c->cell Γ.heap b (o+i)=some c)->(l.length+ys.length)*i.bytes≤140737488355328->l.length+ys.length≤9223372036854775807->
   ∃
    w' cap,(execOp a.eval o).run P w= .ok (.value (.slice (some ⟨w.heap.size,0,none⟩) (l++ys).length cap)) w'∧(l++ys).length≤cap∧WF w w'∧
    w'.heap=w.heap.push (.cells ((cs++news)++(Builtin.zeroCells z.cells (cap-(l.length+ys.length))).toList).toArray e (0,0))∧cap*i.size=((cs++news)++(Builtin.zeroCells z.cells (cap-(l.length+ys.length))).toList).length:=by
  intro k ad l cs bC hk hv dG hl lx kF hb h63
  have rN:cs.length=l.length*i.size:=by rw[hl.length,b8 lx]
  obtain⟨w',cap,r1,r2,r3,r4⟩:=uE (P:=P) (w:=w) (ty:=o.type) ht hu IU hi hz (ad:=ad) (sLen:=l.length) (sCap:=bC) (n:=ys.length) (y:=a.eval y) (olds:=cs) (news:=news)
   (.inl ⟨ad,bC,rfl,λgF=>by rw[hw];exact kF (by intro h;subst h;simp at gF)⟩) rN ze kG dG h63 hb
  refine⟨w',cap,?_,by simpa using r2,r4,by simpa using r3,?_⟩
  ·rw[←hv]at r1
   rw[List.length_append]
   exact jU ho r1
  ·simp only[List.length_append,Array.length_toList,oI,Sc,rN,kG,←Nat.add_mul]
   congr 1;omega
 unfold ic at hA
 split at hA
 ·exact hA.elim
 ·rename_i k hk
  split at hA
  ·rename_i sz0 l
   obtain⟨⟨h1,h2,h3,h4⟩,hK⟩:=hA
   obtain⟨ad,bC,cs,hv,hl,lx,hc,L1,hb⟩:=rM.sl
   have YG:=L1 rfl
   subst YG
   by_cases Ea:ys=[]
   ·subst Ea
    have xg:l=[]:=by rcases h2 with h2|h2;exact h2;exact absurd rfl h2.2
    subst xg
    have PK:news=[]:=List.eq_nil_of_length_eq_zero (by simpa using kG)
    subst PK
    have:=lG (P:=P) (w:=w) (ty:=o.type) ht hu IU hi (ad:=ad) (sLen:=0) (sCap:=0) ze (Nat.le_refl _)
    rw[show Value.slice ad 0 0=a.eval x from hv.symm]at this
    exact Hr (ad:=ad) hs hw hk (hd k hk) h1 gF (by rw[jU ho this,hv];rfl) hK
   ·have acQ:∀x∈l,x.width=i.size:=by
     rcases h2 with h2|h2
     ·subst h2;simp
     ·rw[←h2.1];exact lx
    have AV:0<ys.length:=List.length_pos_iff.2 Ea
    obtain⟨w',cap,r1,r2,r3,r4,r5⟩:=fresh hk hv (by omega) hl acQ (λbS=>let⟨b,o,g1,_,_,g4⟩:=hb bS;⟨b,o,g1,g4⟩) h3 h4
    exact nz hs hw hk (hd k hk) h1 gF (hl.append wo) (λx hx=>(List.mem_append.1 hx).elim (acQ x) (xh x)) r5 r2 YF r1 r4 r3 (by rw[List.length_append];exact hK)
  ·rename_i k2 len aQ dR
   split at hA
   ·rename_i sz'' l hg
    obtain⟨⟨h1,h2,h3,h4,h5,h6⟩,hK⟩:=hA
    subst h1 h2 h3 h4
    have ko:=hg
    rw[←hs.bx]at ko
    obtain⟨ad,bC,hv,eE⟩:=rM.rs ko rfl
    obtain⟨lx,_,kl⟩:=hs.mem.blk k2 _ ko
    unfold iT at eE
    cases hι:Γ.ι k2 with
    |
     none=>
     rw[hι]at eE
     have xg:l=[]:=List.eq_nil_of_length_eq_zero eE.1
     subst xg
     obtain⟨_,rfl,_⟩:=eE
     by_cases Ea:ys=[]
     ·subst Ea
      have PK:news=[]:=List.eq_nil_of_length_eq_zero (by simpa using kG)
      subst PK
      have:=lG (P:=P) (w:=w) (ty:=o.type) ht hu IU hi (ad:=ad) (sLen:=0) (sCap:=0) ze (Nat.le_refl _)
      rw[show Value.slice ad 0 0=a.eval x from hv.symm]at this
      have ka:=lg ko
      have q1:=hs.le (nA ka) (xx hs.mem ka) (uq:=put s.bx k2 (.arr i.size [])) (by rw[hs.bx])
      have q2:=(rM.mono (nA ka))
      have q3:=q1.put (d:=some k) (λj hj=>by cases hj;exact hd k hk) q2
      exact⟨_,_,w,_,{Γ with bx:=put Γ.bx k2 (.arr i.size [])},jU ho this,.inl rfl,by rw[hk];exact q3,hw,nA ka,WF.refl w,hK⟩
     ·have AV:0<ys.length:=List.length_pos_iff.2 Ea
      obtain⟨w',cap,r1,r2,r3,r4,r5⟩:=fresh (l:=[]) (cs:=[]) hk hv (by simpa using AV) .nil (by simp) (by simp) (by simpa using h5) (by simpa using h6)
      exact z6 (l:=[]++ys) hs hw hk (hd k hk) hg (by simpa[bX.aQ]using AV) gF (aG.nil.append wo) (by simpa using xh) r5 r2 YF r1 r4 r3 (by rw[List.length_append];exact hK)
    |
     some b=>
     rw[hι]at eE kl
     obtain⟨o1,o2,_,o4⟩:=eE
     obtain⟨_,Hb,e0,q1,q2⟩:=o4 rfl
     obtain⟨c,ce,cs,rest,h7,h8,h9,D9⟩:=kl
     rw[q1]at h7
     simp only[sJ,Obj.cells.injEq]at h7
     obtain⟨rfl,rfl,_⟩:=h7
     have rN:cs.length=l.length*i.size:=by rw[h9.length,b8 lx]
     have L7:Hb.size=cs.length+rest.length:=by rw[←Array.length_toList,h8];simp
     simp only[Nat.zero_add]at q2
     by_cases rZ:l.length+ys.length≤bC
     ·by_cases hz0:bC=0
      ·have xg:l=[]:=List.eq_nil_of_length_eq_zero (by omega)
       have hy0:ys=[]:=List.eq_nil_of_length_eq_zero (by omega)
       subst xg hy0 hz0
       have PK:news=[]:=List.eq_nil_of_length_eq_zero (by simpa using kG)
       subst PK
       have:=lG (P:=P) (w:=w) (ty:=o.type) ht hu IU hi (ad:=ad) (sLen:=0) (sCap:=0) ze (Nat.le_refl _)
       rw[show Value.slice ad 0 0=a.eval x from hv.symm]at this
       have ka:=lg ko
       have q1:=hs.le (nA ka) (xx hs.mem ka) (uq:=put s.bx k2 (.arr i.size [])) (by rw[hs.bx])
       have q2:=(rM.mono (nA ka))
       have q3:=q1.put (d:=some k) (λj hj=>by cases hj;exact hd k hk) q2
       exact⟨_,_,w,_,{Γ with bx:=put Γ.bx k2 (.arr i.size [])},jU ho this,.inl rfl,by rw[hk];exact q3,hw,nA ka,WF.refl w,hK⟩
      ·rcases o2 with o2|rfl
       ·exact absurd o2 hz0
       simp only[du,Nat.zero_mul,Nat.add_zero]at hv
       have za:0+l.length*i.size+ys.length*i.size≤Hb.size:=by
        rw[←q2,Nat.zero_add,←Nat.add_mul];exact Nat.mul_le_mul_right _ rZ
       obtain⟨w',r1,r2,r3⟩:=oJ (P:=P) (w:=w) (ty:=o.type) ht hu IU hi (b:=b) (o:=0) (sLen:=l.length) (sCap:=bC) (n:=ys.length) (c:=Hb) (ce:=e0) ze kG uo rZ (by rw[hw];exact q1) za
       rw[←hv]at r1
       have FF:bU Hb.toList (0+l.length*i.size) news=(cs++news)++rest.drop news.length:=by
        rw[h8,Nat.zero_add,←rN]
        simp only[bU]
        rw[List.take_left,←List.drop_drop,List.drop_left]
       have IA:(bU Hb.toList (0+l.length*i.size) news).toArray.size=Hb.size:=by
        have:=fh (cs:=Hb.toList) (us:=news) (o:=0+l.length*i.size) (by rw[kG];simpa using za)
        simpa using this
       have hle:=ld (Γ:=Γ) (cI:= .arr i.size (l++ys)) ko hι q1 IA (by simp[bX.aQ])
       have IB:(bX.arr i.size (l++ys)).vE (Γ.jH b (.cells (bU Hb.toList (0+l.length*i.size) news).toArray e0 (0,0)) k2 (.arr i.size (l++ys))) (some b):=
        ⟨λx hx=>(List.mem_append.1 hx).elim (lx x) (xh x),gF,_,e0,cs++news,rest.drop news.length,by simp only[Cx.jH];rw[uJ (db q1)],by simpa using FF,(h9.append wo).mono hle,λv hv=>D9 v (List.mem_of_mem_drop hv)⟩
       have iV:=mT (Γ:=Γ) (cI:= .arr i.size (l++ys)) hs.mem ko hι q1 IA (by simp[bX.aQ]) IB
       have t1:=hs.le hle iV (uq:=put s.bx k2 (.arr i.size (l++ys))) (by simp[Cx.jH,hs.bx])
       have t2:aO (Γ.jH b (.cells (bU Hb.toList (0+l.length*i.size) news).toArray e0 (0,0)) k2 (.arr i.size (l++ys))) (.rs k2 [] 0 (l.length+ys.length) (l.length+ys.length) i.size .tip) (.slice (some ⟨b,0,none⟩) (l.length+ys.length) bC):=by
        simp only[aO]
        refine .rs k2 [] 0 _ _ i.size _ _ (.arr i.size (l++ys)) ⟨by simp[Cx.jH,dw],by simp[bX.aQ]⟩ rfl (λ_=>⟨_,_,rfl,?_⟩) .nil
        unfold iT
        rw[show(Γ.jH b (.cells (bU Hb.toList (0+l.length*i.size) news).toArray e0 (0,0)) k2 (.arr i.size (l++ys))).ι k2=some b from hι]
        refine⟨rZ,.inr (by simp[du]),trivial,λ_=>⟨rfl,_,e0,by simp only[Cx.jH];rw[uJ (db q1)],by rw[IA,Nat.zero_add];exact q2⟩⟩
       have t3:=t1.put (d:=some k) (λj hj=>by cases hj;exact hd k hk) t2
       exact⟨_,_,w',_,_,jU ho r1,.inl rfl,by rw[hk];exact t3,by rw[r2,hw];rfl,hle,r3,hK⟩
     ·have kF:l≠[]->∃b o,ad=some ⟨b,o,none⟩∧∀i c,cs[i]? =some c->cell Γ.heap b (o+i)=some c:=by
       intro bS
       have:=List.length_pos_iff.2 bS
       rcases o2 with o2|rfl
       ·omega
       exact⟨b,_,rfl,by simpa[du]using kO q1 cs rest h8⟩
      obtain⟨w',cap,r1,r2,r3,r4,r5⟩:=fresh hk hv (by omega) h9 lx kF h5 h6
      have hy0:0<ys.length:=by omega
      exact z6 (l:=l++ys) hs hw hk (hd k hk) hg (by simp[bX.aQ];omega) gF (h9.append wo) (λx hx=>(List.mem_append.1 hx).elim (lx x) (xh x)) r5 r2 YF r1 r4 r3 (by rw[List.length_append];exact hK)
   ·exact hA.elim
  ·rename_i k2 len aQ dR n
   split at hA
   ·rename_i sz'' l hg
    obtain⟨⟨h1,h2,h3,hln,ail,Ea,jn,h5,h6⟩,hK1,lX⟩:=hA
    subst h1 h2 h3
    have ko:=hg
    rw[←hs.bx]at ko
    obtain⟨ad,bC,hv,eE⟩:=rM.rs ko rfl
    obtain⟨lx,_,kl⟩:=hs.mem.blk k2 _ ko
    have AV:0<ys.length:=List.length_pos_iff.2 Ea
    have YH:∀x∈l.take len,x.width=i.size:=λx hx=>lx x (List.mem_of_mem_take hx)
    have DS:(l.take len).length=len:=by rw[lJ];omega
    unfold iT at eE
    cases hι:Γ.ι k2 with
    |
     none=>
     rw[hι]at eE
     obtain⟨rfl,rfl,Ej⟩:=eE
     simp only[mI]at Ej
     subst Ej
     obtain⟨w',cap,r1,r2,r3,r4,r5⟩:=fresh (l:=[]) (cs:=[]) hk hv (by simpa using AV) .nil (by simp) (by simp) (by simpa using h5) (by simpa using h6)
     exact nz (l:=[]++ys) hs hw hk (hd k hk) jn gF (aG.nil.append wo) (by simpa using xh) r5 r2 YF r1 r4 r3 (by
      have:=lX (by omega)
      rw[List.take_zero]at this
      rw[List.length_append];simpa using this)
    |
     some b=>
     rw[hι]at eE kl
     obtain⟨o1,o2,Ej,_⟩:=eE
     simp only[mI]at Ej
     subst Ej
     obtain⟨c,ce,cs,rest,h7,h8,h9,D9⟩:=kl
     have rN:cs.length=l.length*i.size:=by rw[h9.length,b8 lx]
     have L7:c.size=cs.length+rest.length:=by rw[←Array.length_toList,h8];simp
     have h9t:=h9.CB lx len (by omega)
     by_cases rZ:len+ys.length≤bC
     ·have hz0:bC≠0:=by omega
      rcases o2 with o2|rfl
      ·exact absurd o2 hz0
      simp only[du,Nat.zero_mul,Nat.add_zero]at hv
      have za:0+len*i.size+ys.length*i.size≤cs.length:=by
       rw[rN,Nat.zero_add,←Nat.add_mul];exact Nat.mul_le_mul_right _ (by omega)
      obtain⟨w',r1,r2,r3⟩:=oJ (P:=P) (w:=w) (ty:=o.type) ht hu IU hi (b:=b) (o:=0) (sLen:=len) (sCap:=bC) (n:=ys.length) (c:=c) (ce:=ce) ze kG uo rZ (by rw[hw];exact h7) (by omega)
      rw[←hv]at r1
      have hov:=h9.over lx wo xh len ys.length (Nat.le_refl _) (by omega)
      rw[List.take_length]at hov
      have FF:bU c.toList (0+len*i.size) news=bU cs (len*i.size) news++rest:=by
       rw[h8,Nat.zero_add]
       exact xy (by rw[kG];omega)
      have IA:(bU c.toList (0+len*i.size) news).toArray.size=c.size:=by
       have:=fh (cs:=c.toList) (us:=news) (o:=0+len*i.size) (by simp only[Array.length_toList,kG];omega)
       simpa using this
      have VC:(bX.arr i.size l).aQ=(bX.arr i.size (l.take len++ys++l.drop (len+ys.length))).aQ:=by simp[bX.aQ];omega
      have hle:=ld (Γ:=Γ) (cI:= .arr i.size (l.take len++ys++l.drop (len+ys.length))) ko hι h7 IA (by omega)
      have ain:∀x∈l.take len++ys++l.drop (len+ys.length),x.width=i.size:=by
       intro x hx
       rcases List.mem_append.1 hx with hx|hx
       ·rcases List.mem_append.1 hx with hx|hx
        ·exact YH x hx
        ·exact xh x hx
       ·exact lx x (List.mem_of_mem_drop hx)
      rw[show news.take (ys.length*i.size)=news from tJ (by omega)]at hov
      have IB:(bX.arr i.size (l.take len++ys++l.drop (len+ys.length))).vE (Γ.jH b (.cells (bU c.toList (0+len*i.size) news).toArray ce (0,0)) k2 (.arr i.size (l.take len++ys++l.drop (len+ys.length)))) (some b):=
       ⟨ain,gF,_,ce,bU cs (len*i.size) news,rest,by simp only[Cx.jH];rw[uJ (db h7)],by simpa using FF,hov.mono hle,D9⟩
      have iV:=mT (Γ:=Γ) (cI:= .arr i.size (l.take len++ys++l.drop (len+ys.length))) hs.mem ko hι h7 IA (by omega) IB
      have t1:=hs.le hle iV (uq:=put s.bx k2 (.arr i.size (l.take len++ys++l.drop (len+ys.length)))) (by simp[Cx.jH,hs.bx])
      have t2:aO (Γ.jH b (.cells (bU c.toList (0+len*i.size) news).toArray ce (0,0)) k2 (.arr i.size (l.take len++ys++l.drop (len+ys.length)))) (.rs k2 [] 0 (len+ys.length) l.length i.size (.full bC)) (.slice (some ⟨b,0,none⟩) (len+ys.length) bC):=by
       simp only[aO]
       refine .rs k2 [] 0 _ _ i.size _ _ (.arr i.size (l.take len++ys++l.drop (len+ys.length))) ⟨by simp[Cx.jH,dw],by rw[←VC];simp[bX.aQ]⟩ rfl (λ_=>⟨_,_,rfl,?_⟩) .nil
       unfold iT
       rw[show(Γ.jH b (.cells (bU c.toList (0+len*i.size) news).toArray ce (0,0)) k2 (.arr i.size (l.take len++ys++l.drop (len+ys.length)))).ι k2=some b from hι]
       exact⟨rZ,.inr (by simp[du]),rfl,λhc=>by cases hc⟩
      have t3:=t1.put (d:=some k) (λj hj=>by cases hj;exact hd k hk) t2
      exact⟨_,_,w',_,_,jU ho r1,.inl rfl,by rw[hk];exact t3,by rw[r2,hw];rfl,hle,r3,hK1 rZ⟩
     ·have kF:l.take len≠[]->∃b o,ad=some ⟨b,o,none⟩∧∀j x,(cs.take (len*i.size))[j]? =some x->cell Γ.heap b (o+j)=some x:=by
       intro bS
       have:=List.length_pos_iff.2 bS
       rcases o2 with o2|rfl
       ·omega
       refine⟨b,_,rfl,λj x hj=> ?_⟩
       have hb:=kO h7 cs rest h8
       have zQ:cs[j]? =some x:=by
        rw[List.getElem?_take]at hj;split at hj
        ·exact hj
        ·cases hj
       simpa[du]using hb j x zQ
      obtain⟨w',cap,r1,r2,r3,r4,r5⟩:=fresh (l:=l.take len) hk (by rw[DS];exact hv) (by rw[DS];omega) h9t YH kF (by rw[DS];exact h5) (by rw[DS];exact h6)
      exact nz (l:=l.take len++ys) hs hw hk (hd k hk) jn gF (h9t.append wo) (λx hx=>(List.mem_append.1 hx).elim (YH x) (xh x)) r5 r2 YF r1 r4 r3 (by rw[List.length_append,DS];exact lX (by omega))
   ·exact hA.elim
  ·rename_i k2 p off len aQ dR
   obtain⟨sz'',l,cs,ad,bC,⟨⟨h1,rfl,h3,h4,h5⟩,hK⟩,hv,hl,kF,hle,lx⟩:=nV hs hA rM
   have YG:bC=l.length:=by
    have MU:=hA
    simp only[content]at MU
    split at MU
    ·rename_i hb
     rw[←hs.bx]at hb
     obtain⟨ad2,acS,kq,eE⟩:=rM.rs hb (by simpa[bX.aQ]using MU.1.1)
     rw[hv]at kq
     simp only[Value.slice.injEq]at kq
     obtain⟨rfl,Iz,rfl⟩:=kq
     unfold iT at eE
     split at eE
     ·omega
     ·have:=eE.2.2.1.clip rfl;omega
    ·rename_i hb
     split at MU
     ·rw[←hs.bx]at hb
      obtain⟨ad2,acS,kq,eE⟩:=rM.rs hb (by simpa[bX.aQ]using MU.1.1)
      rw[hv]at kq
      simp only[Value.slice.injEq]at kq
      obtain⟨rfl,Iz,rfl⟩:=kq
      unfold iT at eE
      split at eE
      ·omega
      ·have:=eE.2.2.1.clip rfl;omega
     ·exact MU.elim
    ·exact MU.elim
   have AV:0<ys.length:=List.length_pos_iff.2 h3
   obtain⟨w',cap,r1,r2,r3,r4,r5⟩:=fresh hk hv (by omega) hl lx kF h4 h5
   exact nz hs hw hk (hd k hk) h1 gF (hl.append wo) (λx hx=>(List.mem_append.1 hx).elim (lx x) (xh x)) r5 r2 YF r1 r4 r3 (by rw[List.length_append];exact hK)
  ·exact hA.elim
end Go.Ab
namespace Go.Ab
variable [eJ]
variable {P:Program} {nt:Nat} {ds:List Deferred} {s:St} {Γ:Cx} {a:Act} {w:World}
theorem Ji {o:Oper} {t u e:TypeId} {sz:Nat} {x y:Operand} {x' y':AX} {K:St->Prop} (ho:o.op= .call {callee:= .builtin .copy,args:= #[x,y],argTypes:= #[t,u]})
  (ht:P.underlying t=some (.slice e)) (iq:iL P e=some sz) (hx:iW x=some x') (hy:iW y=some y') (hs:gK nt ds s Γ a) (hw:w.heap=Γ.heap) (hd:∀k,o.dst=some k->k<nt) (he:ex s o.dst (.copy sz x' y') K):kr P nt ds o a w Γ K:=by
 simp only[ex]at he
 obtain⟨p,hp,rM⟩:=cW hx hs rfl he
 obtain⟨q,hq,mQ⟩:=cW hy hs rfl hp
 have hA:∃ys news,jT s o.dst sz p ys K∧oG w sz ys.length (a.eval y) news∧aG Γ ys news∧(∀x∈ys,x.width=sz):=by
  split at hq
  ·exact Be hs hw hq mQ
  ·exact Be hs hw hq mQ
 obtain⟨ys,news,hA,ze,wo,xh⟩:=hA
 have kG:news.length=ys.length*sz:=by rw[wo.length,b8 xh]
 have yZ:∀ {r:Value} {w':World},(Builtin.copy_ #[t,u] o.type #[a.eval x,a.eval y]).run P w= .ok r w'->(execOp a.eval o).run P w= .ok (.value r) w':=by
  intro r w' h
  rw[rP ho rfl,bJ,h];rfl
 --nothing copied
 have none:∀ {ad:Option Addr} {len cap:Nat},a.eval x= .slice ad len cap->min ys.length len=0->(execOp a.eval o).run P w= .ok (.value (.int .i64 0)) w:=by
  intro ad len cap hv h0
  refine yZ ?_
  have hlen:=oH (P:=P) ze
  have hf:(Builtin.firstCells sz 0 (a.eval y)).run P w= .ok #[] w:=by
   rcases ze with⟨ad2,rc,kq,h⟩|⟨str,kq,h2,rfl,rfl⟩
   ·rw[kq];cases ad2<;>simp[Builtin.firstCells,loadCells,loadCellsFrom]
   ·rw[kq];simp[Builtin.firstCells]
  have DR:Nat.min ys.length len=0:=h0
  rw[hv]
  cases ad<;>simp[Builtin.copy_,run_underlying ht,run_sizeOf iq,hlen,DR,hf,goInt,storeCells]
 unfold jT at hA
 split at hA
 ·rename_i k pth off len aQ dR ck
  split at hA
  ·rename_i sz'' l hg
   obtain⟨⟨h1,rfl,rfl,rfl,h4⟩,hK⟩:=hA
   have ko:=hg
   rw[←hs.bx]at ko
   obtain⟨ad,bC,hv,eE⟩:=rM.rs ko (by simpa[bX.aQ]using h1)
   obtain⟨lx,gF,kl⟩:=hs.mem.blk k _ ko
   by_cases h0:min ys.length len=0
   ·rw[h0]at hK
    have ka:∀i,get (put Γ.bx k (.arr sz'' (l.take off++ys.take 0++l.drop (off+0)))) i=get Γ.bx i:=lg (by simpa using ko)
    have q1:=hs.le (nA ka) (xx hs.mem ka) (uq:=put s.bx k (.arr sz'' (l.take off++ys.take 0++l.drop (off+0)))) (by rw[hs.bx])
    have q3:=q1.put (p:= .int .i64 0) (v:= .int .i64 0) hd dS
    exact⟨_,_,w,_,_,none hv h0,.inl rfl,q3,hw,nA ka,WF.refl w,hK⟩
   ·unfold iT at eE
    cases hι:Γ.ι k with
    |none=>rw[hι]at eE;omega
    |
     some b=>
     rw[hι]at eE kl
     obtain⟨o1,o2,_,_⟩:=eE
     rcases o2 with o2|rfl
     ·omega
     obtain⟨c,ce,cs,rest,h7,h8,h9,D9⟩:=kl
     have rN:cs.length=l.length*sz'':=by rw[h9.length,b8 lx]
     have L7:c.size=cs.length+rest.length:=by rw[←Array.length_toList,h8];simp
     have za:off*sz''+(min ys.length len)*sz''≤cs.length:=by
      rw[rN,←Nat.add_mul];exact Nat.mul_le_mul_right _ (by omega)
     simp only[du,Nat.zero_add]at hv
     obtain⟨w',r1,r2,r3⟩:=zY (P:=P) (w:=w) (u:=u) (ty:=o.type) ht iq (b:=b) (o:=off*sz'') (dLen:=len) (dCap:=bC) (n:=min ys.length len) (c:=c) (ce:=ce) ze kG rfl wo.one (by rw[hw];exact h7) (by omega)
     rw[←hv]at r1
     have dG:(news.take (min ys.length len*sz'')).length=min ys.length len*sz'':=by rw[lJ,kG];exact Nat.min_eq_left (Nat.mul_le_mul_right _ (by omega))
     have FF:bU c.toList (off*sz'') (news.take (min ys.length len*sz''))=bU cs (off*sz'') (news.take (min ys.length len*sz''))++rest:=by
      rw[h8];exact qz.splice_append (by omega)
     have y5:(bU c.toList (off*sz'') (news.take (min ys.length len*sz''))).toArray.size=c.size:=by
      have:=fh (cs:=c.toList) (us:=news.take (min ys.length len*sz'')) (o:=off*sz'') (by simp only[Array.length_toList];omega)
      simpa using this
     have VC:(bX.arr sz'' (l.take off++ys.take (min ys.length len)++l.drop (off+min ys.length len))).aQ=(bX.arr sz'' l).aQ:=by simp[bX.aQ];omega
     have hle:=ld (Γ:=Γ) (cI:= .arr sz'' (l.take off++ys.take (min ys.length len)++l.drop (off+min ys.length len))) ko hι h7 y5 (by omega)
     have iV:=mT (Γ:=Γ) (cI:= .arr sz'' (l.take off++ys.take (min ys.length len)++l.drop (off+min ys.length len))) hs.mem ko hι h7 y5 (by omega)
      ⟨λx hx=>by
       rcases List.mem_append.1 hx with hx|hx
       ·rcases List.mem_append.1 hx with hx|hx
        ·exact lx x (List.mem_of_mem_take hx)
        ·exact xh x (List.mem_of_mem_take hx)
       ·exact lx x (List.mem_of_mem_drop hx),gF,_,ce,_,rest,by simp only[Cx.jH];rw[uJ (db h7)],by simpa using FF,
       (h9.over lx wo xh off (min ys.length len) (by omega) (by omega)).mono hle,D9⟩
     have t1:=hs.le hle iV (uq:=put s.bx k (.arr sz'' (l.take off++ys.take (min ys.length len)++l.drop (off+min ys.length len)))) (by simp[Cx.jH,hs.bx])
     have t3:=t1.put (p:= .int .i64 (min ys.length len:Nat)) (v:= .int .i64 (min ys.length len:Nat)) hd dS
     exact⟨_,_,w',_,_,yZ r1,.inl rfl,t3,by rw[r2,hw];rfl,hle,r3,hK⟩
  ·rename_i v hg
   split at hA
   ·rename_i sz'' n l FD
    split at hA
    ·rename_i v' wm
     obtain⟨⟨h1,rfl,rfl,h4⟩,hK⟩:=hA
     have ko:=hg
     rw[←hs.bx]at ko
     obtain⟨ad,bC,hv,eE⟩:=rM.rs ko (by simpa[bX.aQ]using h1)
     unfold iT at eE
     obtain⟨b,c,ce,hι,h7,h8⟩:=hs.mem.blk k _ ko
     rw[hι]at eE
     obtain⟨o1,o2,_,_⟩:=eE
     obtain⟨g1,g2⟩:=oD pth h8 FD
     obtain⟨hl,hn,lx⟩:=g2.nv
     have VE:PV.width (.ar sz'' n l)=n*sz'':=rfl
     rw[VE]at g1 g2 hl
     have L8:=hl.over lx wo xh off (min ys.length len) (by omega) (by omega)
     have dG:(news.take (min ys.length len*sz'')).length=min ys.length len*sz'':=by rw[lJ,kG];exact Nat.min_eq_left (Nat.mul_le_mul_right _ (by omega))
     have za:off*sz''+(min ys.length len)*sz''≤n*sz'':=by rw[←Nat.add_mul];exact Nat.mul_le_mul_right _ (by omega)
     have MV:aG Γ [.ar sz'' n (l.take off++ys.take (min ys.length len)++l.drop (off+min ys.length len))] (bU ((c.toList.drop (du pth)).take (n*sz'')) (off*sz'') (news.take (min ys.length len*sz''))):=
      L8.P9 (by simp;omega) (λx hx=>by
       rcases List.mem_append.1 hx with hx|hx
       ·rcases List.mem_append.1 hx with hx|hx
        ·exact lx x (List.mem_of_mem_take hx)
        ·exact xh x (List.mem_of_mem_take hx)
       ·exact lx x (List.mem_of_mem_drop hx))
     obtain⟨c2,e2,k1,k2,k3,k4⟩:=qz (cI:= .box v') (pth:=pth) hs.mem ko hι MV (by simp only[qu,wm])
     rw[h7]at k1
     simp only[sJ,Obj.cells.injEq]at k1
     obtain⟨rfl,rfl,_⟩:=k1
     have PL:=oo (cs:=c.toList) (us:=news.take (min ys.length len*sz'')) (o:=du pth) (m:=n*sz'') (p:=off*sz'') g1 (by omega)
     by_cases h0:min ys.length len=0
     ·rw[h0]at hK
      have VF:news.take (min ys.length len*sz'')=[]:=by rw[h0];simp
      have nN:(bU c.toList (du pth) (bU ((c.toList.drop (du pth)).take (n*sz'')) (off*sz'') (news.take (min ys.length len*sz''))))=c.toList:=by
       rw[PL,VF];simp[bU]
      have hle:=ld (Γ:=Γ) (c':=c) (cI:= .box v') ko hι h7 rfl (Nat.le_refl _)
      have iV:=mT (Γ:=Γ) (c':=c) (cI:= .box v') hs.mem ko hι h7 rfl (Nat.le_refl _) (k4 c nN.symm)
      have t1:=hs.le hle iV (uq:=put s.bx k (.box v')) (by simp[Cx.jH,hs.bx])
      have t3:=t1.put (p:= .int .i64 0) (v:= .int .i64 0) hd dS
      refine⟨_,_,w,_,_,none hv h0,.inl rfl,t3,?_,hle,WF.refl w,hK⟩
      simp only[Cx.jH]
      rw[hw]
      apply Array.ext_getElem?
      intro j
      by_cases hj:b=j
      ·subst hj;rw[uJ (db h7)];exact h7
      ·rw[Array.getElem?_setIfInBounds_ne hj]
     ·rcases o2 with o2|rfl
      ·omega
      obtain⟨w',r1,r2,r3⟩:=zY (P:=P) (w:=w) (u:=u) (ty:=o.type) ht iq (b:=b) (o:=du pth+off*sz'') (dLen:=len) (dCap:=bC) (n:=min ys.length len) (c:=c) (ce:=ce) ze kG rfl wo.one (by rw[hw];exact h7) (by simp only[Array.length_toList]at g1;omega)
      rw[←hv]at r1
      rw[←PL]at r2
      have y5:(bU c.toList (du pth) (bU ((c.toList.drop (du pth)).take (n*sz'')) (off*sz'') (news.take (min ys.length len*sz'')))).toArray.size=c.size:=by
       rw[PL]
       have:=fh (cs:=c.toList) (us:=news.take (min ys.length len*sz'')) (o:=du pth+off*sz'') (by simp only[Array.length_toList]at g1⊢;omega)
       simpa using this
      have hle:=ld (Γ:=Γ) (cI:= .box v') ko hι h7 y5 (Nat.le_refl _)
      have iV:=mT (Γ:=Γ) (cI:= .box v') hs.mem ko hι h7 y5 (Nat.le_refl _) (k4 _ (by simp))
      have t1:=hs.le hle iV (uq:=put s.bx k (.box v')) (by simp[Cx.jH,hs.bx])
      have t3:=t1.put (p:= .int .i64 (min ys.length len:Nat)) (v:= .int .i64 (min ys.length len:Nat)) hd dS
      exact⟨_,_,w',_,_,yZ r1,.inl rfl,t3,by rw[r2,hw];rfl,hle,r3,hK⟩
    ·exact hA.elim
   ·exact hA.elim
  ·exact hA.elim
 ·exact hA.elim
theorem zl {z:PV} {zv:Value} (h:aG Γ [z] zv.cells.toList) (n:Nat):aG Γ (List.replicate n z) (Builtin.zeroCells zv.cells n).toList:=by
 have e:(Builtin.zeroCells zv.cells n).toList=(List.replicate n zv.cells.toList).flatten:=kH zv.cells n
 rw[e];exact ja h n
theorem xA {t e:TypeId} {ty:TypeId} {zv:Value} (ht:P.underlying t=some (.slice e)) (MT:∀w,(zeroValue e).run P w= .ok zv w)
  {b o dLen dCap m:Nat} {news:List Value} {c:Array Value} {ce:TypeId} (hm:news.take m=news) (h0:0<dLen) (hn:news=(Builtin.zeroCells zv.cells dLen).toList) (h1:∀v∈news,fN v=true)
  (hb:w.heap[b]? =some (.cells c ce (0,0))) (za:o+news.length≤c.size):
  ∃
   w',(Builtin.clear_ #[t] ty #[.slice (some ⟨b,o,none⟩) dLen dCap]).run P w= .ok (.tuple #[]) w'∧
   w'.heap=w.heap.setIfInBounds b (.cells (bU c.toList o (news.take m)).toArray ce (0,0))∧WF w w':=by
 rw[hm]
 obtain⟨w',g1,g2,g3⟩:=jR (P:=P) news w b o 0 c ce hb (by omega) h1
 refine⟨w',?_,by simpa using g2,g3⟩
 obtain⟨m,rfl⟩:∃m,dLen=m+1:=⟨dLen-1,by omega⟩
 rw[hn]at g1
 simp[Builtin.clear_,run_underlying ht,MT,g1]
theorem Jj {o:Oper} {t e:TypeId} {sz:Nat} {z:PV} {x:Operand} {x':AX} {K:St->Prop} (ho:o.op= .call {callee:= .builtin .clear,args:= #[x],argTypes:= #[t]})
  (ht:P.underlying t=some (.slice e)) (iq:iL P e=some sz) (hz:zeroOf P e=some z) (hx:iW x=some x') (hs:gK nt ds s Γ a) (hw:w.heap=Γ.heap) (he:ex s o.dst (.fill sz z x') K):kr P nt ds o a w Γ K:=by
 simp only[ex]at he
 obtain⟨p,hp,rM⟩:=cW hx hs rfl he
 obtain⟨hdn,hp⟩:=hp
 split at hp
 case h_2=>exact hp.elim
 rename_i k pth off len aQ dR ck
 obtain⟨zv,MT,Sb,yY,_,Sc⟩:=kK (Γ:=Γ) hz
 have PI:z.width=sz:=by rw[iq]at yY;exact(Option.some.inj yY).symm
 obtain⟨ys,Ea⟩:∃ys,ys=List.replicate len z:=⟨_,rfl⟩
 obtain⟨news,L9⟩:∃news,news=(Builtin.zeroCells zv.cells len).toList:=⟨_,rfl⟩
 have wo:aG Γ ys news:=by rw[Ea,L9];exact zl Sb len
 have xh:∀x∈ys,x.width=sz:=by rw[Ea];intro x hx;rw[List.eq_of_mem_replicate hx];exact PI
 have kG:news.length=ys.length*sz:=by rw[wo.length,b8 xh]
 have PM:ys.length=len:=by rw[Ea];simp
 have hA:jT s none sz (.rs k pth off len aQ dR ck) ys K:=by rw[Ea];exact hp
 have yZ:∀ {r:Value} {w':World},(Builtin.clear_ #[t] o.type #[a.eval x]).run P w= .ok r w'->(execOp a.eval o).run P w= .ok (.value r) w':=by
  intro r w' h
  have e1:execOp a.eval o=(do Pure.pure (Next.value (←Builtin.clear_ #[t] o.type #[a.eval x]))):=by
   have e0:Array.map a.eval #[x]= #[a.eval x]:=by simp
   rw[←e0]
   have hb:builtin .clear #[t] o.type ((#[x]:Array Operand).map λ| .const _=>true|_=>false) (Array.map a.eval #[x])=(do Pure.pure (Next.value (←Builtin.clear_ #[t] o.type (Array.map a.eval #[x])))):=rfl
   rw[←hb]
   unfold execOp
   rw[ho]
   rfl
  rw[e1,bJ,h];rfl
 have none:∀ {ad:Option Addr} {len cap:Nat},a.eval x= .slice ad len cap->len=0->(execOp a.eval o).run P w= .ok (.value (.tuple #[])) w:=by
  intro ad len cap hv h0
  refine yZ ?_
  rw[hv,h0]
  cases ad<;>simp[Builtin.clear_,run_underlying ht]
 unfold kr
 rw[hdn]
 have hyl:min ys.length len=len:=by rw[PM,Nat.min_self]
 have YI:news.take (min ys.length len*sz)=news:=tJ (by rw[kG,hyl,PM];exact Nat.le_refl _)
 unfold jT at hA
 simp only at hA
 ·skip
  split at hA
  ·rename_i sz'' l hg
   obtain⟨⟨h1,rfl,rfl,rfl,h4⟩,hK⟩:=hA
   have ko:=hg
   rw[←hs.bx]at ko
   obtain⟨ad,bC,hv,eE⟩:=rM.rs ko (by simpa[bX.aQ]using h1)
   obtain⟨lx,gF,kl⟩:=hs.mem.blk k _ ko
   by_cases h0:min ys.length len=0
   ·rw[h0]at hK
    have ka:∀i,get (put Γ.bx k (.arr sz'' (l.take off++ys.take 0++l.drop (off+0)))) i=get Γ.bx i:=lg (by simpa using ko)
    have q1:=hs.le (nA ka) (xx hs.mem ka) (uq:=put s.bx k (.arr sz'' (l.take off++ys.take 0++l.drop (off+0)))) (by rw[hs.bx])
    exact⟨_,_,w,_,_,none hv (by omega),.inl rfl,q1,hw,nA ka,WF.refl w,hK⟩
   ·unfold iT at eE
    cases hι:Γ.ι k with
    |none=>rw[hι]at eE;omega
    |
     some b=>
     rw[hι]at eE kl
     obtain⟨o1,o2,_,_⟩:=eE
     rcases o2 with o2|rfl
     ·omega
     obtain⟨c,ce,cs,rest,h7,h8,h9,D9⟩:=kl
     have rN:cs.length=l.length*sz'':=by rw[h9.length,b8 lx]
     have L7:c.size=cs.length+rest.length:=by rw[←Array.length_toList,h8];simp
     have za:off*sz''+(min ys.length len)*sz''≤cs.length:=by
      rw[rN,←Nat.add_mul];exact Nat.mul_le_mul_right _ (by omega)
     simp only[du,Nat.zero_add]at hv
     obtain⟨w',r1,r2,r3⟩:=xA (P:=P) (w:=w) (ty:=o.type) ht MT (b:=b) (o:=off*sz'') (dLen:=len) (dCap:=bC) (m:=min ys.length len*sz'') (c:=c) (ce:=ce) YI (by omega) L9 wo.one (by rw[hw];exact h7) (by rw[kG,PM];rw[hyl]at za;omega)
     rw[←hv]at r1
     have dG:(news.take (min ys.length len*sz'')).length=min ys.length len*sz'':=by rw[lJ,kG];exact Nat.min_eq_left (Nat.mul_le_mul_right _ (by omega))
     have FF:bU c.toList (off*sz'') (news.take (min ys.length len*sz''))=bU cs (off*sz'') (news.take (min ys.length len*sz''))++rest:=by
      rw[h8];exact qz.splice_append (by omega)
     have y5:(bU c.toList (off*sz'') (news.take (min ys.length len*sz''))).toArray.size=c.size:=by
      have:=fh (cs:=c.toList) (us:=news.take (min ys.length len*sz'')) (o:=off*sz'') (by simp only[Array.length_toList];omega)
      simpa using this
     have VC:(bX.arr sz'' (l.take off++ys.take (min ys.length len)++l.drop (off+min ys.length len))).aQ=(bX.arr sz'' l).aQ:=by simp[bX.aQ];omega
     have hle:=ld (Γ:=Γ) (cI:= .arr sz'' (l.take off++ys.take (min ys.length len)++l.drop (off+min ys.length len))) ko hι h7 y5 (by omega)
     have iV:=mT (Γ:=Γ) (cI:= .arr sz'' (l.take off++ys.take (min ys.length len)++l.drop (off+min ys.length len))) hs.mem ko hι h7 y5 (by omega)
      ⟨λx hx=>by
       rcases List.mem_append.1 hx with hx|hx
       ·rcases List.mem_append.1 hx with hx|hx
        ·exact lx x (List.mem_of_mem_take hx)
        ·exact xh x (List.mem_of_mem_take hx)
       ·exact lx x (List.mem_of_mem_drop hx),gF,_,ce,_,rest,by simp only[Cx.jH];rw[uJ (db h7)],by simpa using FF,
       (h9.over lx wo xh off (min ys.length len) (by omega) (by omega)).mono hle,D9⟩
     have t1:=hs.le hle iV (uq:=put s.bx k (.arr sz'' (l.take off++ys.take (min ys.length len)++l.drop (off+min ys.length len)))) (by simp[Cx.jH,hs.bx])
     exact⟨_,_,w',_,_,yZ r1,.inl rfl,t1,by rw[r2,hw];rfl,hle,r3,hK⟩
  ·rename_i v hg
   split at hA
   ·rename_i sz'' n l FD
    split at hA
    ·rename_i v' wm
     obtain⟨⟨h1,rfl,rfl,h4⟩,hK⟩:=hA
     have ko:=hg
     rw[←hs.bx]at ko
     obtain⟨ad,bC,hv,eE⟩:=rM.rs ko (by simpa[bX.aQ]using h1)
     unfold iT at eE
     obtain⟨b,c,ce,hι,h7,h8⟩:=hs.mem.blk k _ ko
     rw[hι]at eE
     obtain⟨o1,o2,_,_⟩:=eE
     obtain⟨g1,g2⟩:=oD pth h8 FD
     obtain⟨hl,hn,lx⟩:=g2.nv
     have VE:PV.width (.ar sz'' n l)=n*sz'':=rfl
     rw[VE]at g1 g2 hl
     have L8:=hl.over lx wo xh off (min ys.length len) (by omega) (by omega)
     have dG:(news.take (min ys.length len*sz'')).length=min ys.length len*sz'':=by rw[lJ,kG];exact Nat.min_eq_left (Nat.mul_le_mul_right _ (by omega))
     have za:off*sz''+(min ys.length len)*sz''≤n*sz'':=by rw[←Nat.add_mul];exact Nat.mul_le_mul_right _ (by omega)
     have MV:aG Γ [.ar sz'' n (l.take off++ys.take (min ys.length len)++l.drop (off+min ys.length len))] (bU ((c.toList.drop (du pth)).take (n*sz'')) (off*sz'') (news.take (min ys.length len*sz''))):=
      L8.P9 (by simp;omega) (λx hx=>by
       rcases List.mem_append.1 hx with hx|hx
       ·rcases List.mem_append.1 hx with hx|hx
        ·exact lx x (List.mem_of_mem_take hx)
        ·exact xh x (List.mem_of_mem_take hx)
       ·exact lx x (List.mem_of_mem_drop hx))
     obtain⟨c2,e2,k1,k2,k3,k4⟩:=qz (cI:= .box v') (pth:=pth) hs.mem ko hι MV (by simp only[qu,wm])
     rw[h7]at k1
     simp only[sJ,Obj.cells.injEq]at k1
     obtain⟨rfl,rfl,_⟩:=k1
     have PL:=oo (cs:=c.toList) (us:=news.take (min ys.length len*sz'')) (o:=du pth) (m:=n*sz'') (p:=off*sz'') g1 (by omega)
     by_cases h0:min ys.length len=0
     ·rw[h0]at hK
      have VF:news.take (min ys.length len*sz'')=[]:=by rw[h0];simp
      have nN:(bU c.toList (du pth) (bU ((c.toList.drop (du pth)).take (n*sz'')) (off*sz'') (news.take (min ys.length len*sz''))))=c.toList:=by
       rw[PL,VF];simp[bU]
      have hle:=ld (Γ:=Γ) (c':=c) (cI:= .box v') ko hι h7 rfl (Nat.le_refl _)
      have iV:=mT (Γ:=Γ) (c':=c) (cI:= .box v') hs.mem ko hι h7 rfl (Nat.le_refl _) (k4 c nN.symm)
      have t1:=hs.le hle iV (uq:=put s.bx k (.box v')) (by simp[Cx.jH,hs.bx])
      refine⟨_,_,w,_,_,none hv (by omega),.inl rfl,t1,?_,hle,WF.refl w,hK⟩
      simp only[Cx.jH]
      rw[hw]
      apply Array.ext_getElem?
      intro j
      by_cases hj:b=j
      ·subst hj;rw[uJ (db h7)];exact h7
      ·rw[Array.getElem?_setIfInBounds_ne hj]
     ·rcases o2 with o2|rfl
      ·omega
      obtain⟨w',r1,r2,r3⟩:=xA (P:=P) (w:=w) (ty:=o.type) ht MT (b:=b) (o:=du pth+off*sz'') (dLen:=len) (dCap:=bC) (m:=min ys.length len*sz'') (c:=c) (ce:=ce) YI (by omega) L9 wo.one (by rw[hw];exact h7) (by simp only[Array.length_toList]at g1;rw[kG,PM];rw[hyl]at za;omega)
      rw[←hv]at r1
      rw[←PL]at r2
      have y5:(bU c.toList (du pth) (bU ((c.toList.drop (du pth)).take (n*sz'')) (off*sz'') (news.take (min ys.length len*sz'')))).toArray.size=c.size:=by
       rw[PL]
       have:=fh (cs:=c.toList) (us:=news.take (min ys.length len*sz'')) (o:=du pth+off*sz'') (by simp only[Array.length_toList]at g1⊢;omega)
       simpa using this
      have hle:=ld (Γ:=Γ) (cI:= .box v') ko hι h7 y5 (Nat.le_refl _)
      have iV:=mT (Γ:=Γ) (cI:= .box v') hs.mem ko hι h7 y5 (Nat.le_refl _) (k4 _ (by simp))
      have t1:=hs.le hle iV (uq:=put s.bx k (.box v')) (by simp[Cx.jH,hs.bx])
      exact⟨_,_,w',_,_,yZ r1,.inl rfl,t1,by rw[r2,hw];rfl,hle,r3,hK⟩
    ·exact hA.elim
   ·exact hA.elim
  ·exact hA.elim
end Go.Ab
namespace Go.Ab
variable [eJ]
variable {P:Program} {nt:Nat} {ds:List Deferred} {s:St} {Γ:Cx} {a:Act} {w:World}
theorem Hv {own ng:Bool} {op:BinOp} {t yt:TypeId} {x y:Operand} {p:AX} (hk:kc P own (.binOp op t x y yt)=some (.isNil ng p)):
  (op= .eql∨op= .neq)∧(∃e,P.underlying t=some (.slice e))∧y= .const (.slice none 0 0)∧ng=decide (op= .neq)∧iW x=some p:=by
 simp only[kc]at hk
 split at hk
 ·rename_i q r hx hy
  split at hk
  ·rename_i ho
   split at hk
   ·simp at hk
   ·simp at hk
   ·simp at hk
   ·simp at hk
   ·rename_i e hu
    split at hk
    ·simp only[sJ,AK.isNil.injEq]at hk
     exact⟨ho,⟨e,hu⟩,rfl,hk.1.symm,by rw[hx,hk.2]⟩
    ·simp at hk
   ·split at hk
    ·split at hk<;>simp at hk
    ·simp at hk
   ·split at hk
    ·split at hk<;>simp at hk
    ·simp at hk
   ·simp at hk
  ·simp at hk
 ·simp at hk
theorem aO.slnil {sz:Nat} {l:List PV} {c:Bool} {v:Value} (h:aO Γ (.sl sz l c) v):∃ad n rc,v= .slice ad n rc∧(ad.isNone=true->l=[]):=by
 simp only[aO]at h
 cases h with
 |
  sl _ _ _ ad bC h1 h2 h3 h4 h5 _=>
  refine⟨ad,_,bC,rfl,λhn=> ?_⟩
  by_cases hl:l=[]
  ·exact hl
  ·obtain⟨b,o,e,_⟩:=h5 hl
   rw[e]at hn;simp at hn
theorem aO.Y6 {k off len aQ sz:Nat} {p:List Step} {c:kY} {v:Value} {blk:bX} (h:aO Γ (.rs k p off len aQ sz c) v) (hb:get Γ.bx k=some blk) (ht:aQ=blk.aQ):∃ad n rc,v= .slice ad n rc∧(ad.isNone=true->len=0):=by
 simp only[aO]at h
 cases h with
 |
  rs _ _ _ _ _ _ _ _ cI h1 h2 h3 _=>
  rw[hb]at h1
  obtain⟨h1,_⟩:=h1
  cases h1
  obtain⟨ad,rc,rfl,hr⟩:=h3 ht
  refine⟨ad,_,rc,rfl,λhn=> ?_⟩
  unfold iT at hr
  split at hr
  ·exact hr.1
  ·obtain⟨h4,h5,_⟩:=hr
   rcases h5 with h5|h5
   ·omega
   ·rw[h5]at hn;simp at hn
theorem En {t e:TypeId} {ad:Option Addr} {n c:Nat} (h:P.underlying t=some (.slice e)):(Op.equalIn 10000 t (.slice ad n c) (.slice none 0 0)).run P w= .ok ad.isNone w:=by
 have:∀d,(Op.equalIn (d+1) t (.slice ad n c) (.slice none 0 0)).run P w= .ok ad.isNone w:=by
  intro d
  cases ad with
  |none=>simp only[Op.equalIn,bJ,run_underlying h,rJ];rfl
  |some ad=>simp only[Op.equalIn,bJ,run_underlying h,rJ];rfl
 exact this 9999
theorem Hw {o:Oper} {own ng:Bool} {op:BinOp} {t yt:TypeId} {x y:Operand} {p:AX} {K:St->Prop} (ho:o.op= .binOp op t x y yt) (hk:kc P own (.binOp op t x y yt)=some (.isNil ng p)) (hs:gK nt ds s Γ a) (hw:w.heap=Γ.heap)
  (hd:∀k,o.dst=some k->k<nt) (he:ex s o.dst (.isNil ng p) K):kr P nt ds o a w Γ K:=by
 obtain⟨mH,⟨e,hu⟩,rfl,rfl,hx⟩:=Hv hk
 simp only[ex]at he
 obtain⟨q,hq,hr⟩:=cW hx hs rfl he
 have fin:∀ {ad:Option Addr} {n c:Nat},a.eval x= .slice ad n c->K (s.put o.dst (.bl (ad.isNone !=decide (op= .neq))))->kr P nt ds o a w Γ K:=by
  intro ad n c hv hK
  have iO:=tl (P:=P) (w:=w) (En (ad:=ad) (n:=n) (c:=c) hu) rfl rfl op mH
  refine py hs hd (Le.refl Γ) hs.mem rfl (v:= .bool (ad.isNone !=decide (op= .neq))) ?_ hw (WF.refl w) ?_ hK
  ·unfold execOp
   rw[ho]
   have hg:(eqGuard op t x (.const (.slice none 0 0)) (.slice ad n c) (.slice none 0 0)).run P w= .ok () w:=by
    unfold eqGuard
    rcases mH with rfl|rfl<;>rfl
   have e2:a.eval (.const (.slice none 0 0))= .slice none 0 0:=rfl
   simp only[hv,e2,bJ,hg,rJ,iO]
   rcases mH with rfl|rfl<;>cases ad<;>rfl
  ·simp only[aO];exact .bl _ .nil
 split at hq
 ·obtain⟨ad,n,c,hv,hn⟩:=hr.slnil
  exact fin hv (hq _ hn)
 ·split at hq
  ·rename_i blk hb
   rw[←hs.bx]at hb
   obtain⟨ad,n,c,hv,hn⟩:=hr.Y6 hb hq.1
   exact fin hv (hq.2 _ hn)
  ·exact hq.elim
 ·exact hq.elim
end Go.Ab
namespace Go.Ab
variable [eJ]
variable {P:Program} {nt:Nat} {ds:List Deferred} {s:St} {Γ:Cx} {a:Act} {w:World}
mutual
def ae (f:Nat->Bool):PV->Bool
 | .rs k _ _ _ _ _ _=>f k
 | .pt k _ _=>f k
 | .st _ l=>ab f l
 | .ar _ _ l=>ab f l
 | .tup l=>ab f l
 | .sl _ l _=>ab f l
 | .fp _ l _=>ab f l
 | .fn _ x y=>ab f x&&ab f y
 | .gd _ p=>ae f p
 | .ifc _ p=>ae f p
 |_=>true
def ab (f:Nat->Bool):List PV->Bool
 |[]=>true
 |p::l=>ae f p&&ab f l
end
mutual
def aB (ρ:Nat->Nat):PV->PV
 | .rs k p o l t z c=> .rs (ρ k) p o l t z c
 | .pt k p t=> .pt (ρ k) p t
 | .st w l=> .st w (aD ρ l)
 | .ar z n l=> .ar z n (aD ρ l)
 | .tup l=> .tup (aD ρ l)
 | .sl z l c=> .sl z (aD ρ l) c
 | .fp z l p=> .fp z (aD ρ l) p
 | .fn f x y=> .fn f (aD ρ x) (aD ρ y)
 | .gd b p=> .gd b (aB ρ p)
 | .ifc t p=> .ifc t (aB ρ p)
 |p=>p
def aD (ρ:Nat->Nat):List PV->List PV
 |[]=>[]
 |p::l=>aB ρ p::aD ρ l
end
theorem nc (ρ:Nat->Nat) (p:PV):(aB ρ p).width=p.width:=by cases p<;>simp[aB,PV.width]
theorem uG (ρ:Nat->Nat) (p:PV):(aB ρ p).isAgg=p.isAgg:=by cases p<;>simp[aB,PV.isAgg]
theorem kP (ρ:Nat->Nat) (l:List PV):(aD ρ l).length=l.length:=by induction l<;>simp[aD, *]
theorem oK {ρ:Nat->Nat} {l:List PV} {q:PV} (h:q∈aD ρ l):∃p∈l,q=aB ρ p:=by
 induction l with
 |nil=>simp[aD]at h
 |
  cons x l ih=>
  simp only[aD,cJ]at h
  rcases h with h|h
  ·exact⟨x,by simp,h⟩
  ·obtain⟨p,hp,e⟩:=ih h;exact⟨p,by simp[hp],e⟩
mutual
theorem xB {ρ:Nat->Nat} {f:Nat->Bool} (h:∀k,f k=true->ρ k=k):∀p,ae f p=true->aB ρ p=p
 | .rs k _ _ _ _ _ _,hp=>by simp only[ae]at hp;simp[aB,h k hp]
 | .pt k _ _,hp=>by simp only[ae]at hp;simp[aB,h k hp]
 | .st _ l,hp=>by simp only[ae]at hp;simp[aB,lS h l hp]
 | .ar _ _ l,hp=>by simp only[ae]at hp;simp[aB,lS h l hp]
 | .tup l,hp=>by simp only[ae]at hp;simp[aB,lS h l hp]
 | .sl _ l _,hp=>by simp only[ae]at hp;simp[aB,lS h l hp]
 | .fp _ l _,hp=>by simp only[ae]at hp;simp[aB,lS h l hp]
 | .fn _ x y,hp=>by simp only[ae,aJ]at hp;simp[aB,lS h x hp.1,lS h y hp.2]
 | .gd _ p,hp=>by simp only[ae]at hp;simp[aB,xB h p hp]
 | .ifc _ p,hp=>by simp only[ae]at hp;simp[aB,xB h p hp]
 | .un,_=>by simp[aB]
 | .bl _,_=>by simp[aB]
 | .int _ _,_=>by simp[aB]
 | .str _,_=>by simp[aB]
 | .np,_=>by simp[aB]
 | .nf,_=>by simp[aB]
 | .ni,_=>by simp[aB]
 | .mp ..,_=>by simp[aB]
theorem lS {ρ:Nat->Nat} {f:Nat->Bool} (h:∀k,f k=true->ρ k=k):∀l,ab f l=true->aD ρ l=l
 |[],_=>rfl
 |p::l,hp=>by simp only[ab,aJ]at hp;simp[aD,xB h p hp.1,lS h l hp.2]
end
structure uH (f:Nat->Bool) (ρ:Nat->Nat) (Γ Δ:Cx):Prop where
 heap:Δ.heap=Γ.heap
 own:∀b,b<Γ.heap.size->¬Γ.own b->¬Δ.own b
 ref:∀k blk,f k=true->get Γ.bx k=some blk->∃cI,get Δ.bx (ρ k)=some cI∧cI.aQ=blk.aQ∧Δ.ι (ρ k)=Γ.ι k
theorem iT.aB {Δ:Cx} {k k' off len sz:Nat} {p:List Step} {c:kY} {ad:Option Addr} {bC:Nat} (h:iT Γ k p off len sz c ad bC) (hι:Δ.ι k'=Γ.ι k) (hh:Δ.heap=Γ.heap):iT Δ k' p off len sz c ad bC:=by
 unfold iT at*
 rw[hι,hh];exact h
theorem aG.aB {f:Nat->Bool} {ρ:Nat->Nat} {Δ:Cx} (hs:uH f ρ Γ Δ) {l:List PV} {cs:List Value} (h:aG Γ l cs):ab f l=true->aG Δ (aD ρ l) cs:=by
 induction h with
 |nil=>intro _;exact .nil
 |un h hr ih=>intro hf;simp only[ab,aJ]at hf;exact .un h (ih hf.2)
 |bl x hr ih=>intro hf;simp only[ab,aJ]at hf;exact .bl x (ih hf.2)
 |int k n hr ih=>intro hf;simp only[ab,aJ]at hf;exact .int k n (ih hf.2)
 |str l s h hr ih=>intro hf;simp only[ab,aJ]at hf;exact .str l s h (ih hf.2)
 |st w l hl hw hr ihl ih=>intro hf;simp only[ab,ae,aJ]at hf;exact .st w _ (ihl hf.1) hw (ih hf.2)
 |
  ar sz n l hl hn hw hr ihl ih=>
  intro hf;simp only[ab,ae,aJ]at hf
  refine .ar sz n _ (ihl hf.1) (by rw[kP];exact hn) (λx hx=> ?_) (ih hf.2)
  obtain⟨p,hp,rfl⟩:=oK hx
  rw[nc];exact hw p hp
 |
  sl sz l clip ad bC hl hw hc hk hb hr ihl ih=>
  intro hf;simp only[ab,ae,aJ]at hf
  have:=aG.sl (Γ:=Δ) sz (aD ρ l) clip ad bC (ihl hf.1) (λx hx=>by obtain⟨p,hp,rfl⟩:=oK hx;rw[nc];exact hw p hp) (by rw[kP];exact hc) (by rw[kP];exact hk)
   (λbS=>by
    obtain⟨b,o,h1,h2,h3,h4⟩:=hb (by intro h;subst h;simp[aD]at bS)
    exact⟨b,o,h1,by rw[hs.heap];exact h2,hs.own b h2 h3,by rw[hs.heap];exact h4⟩) (ih hf.2)
  rw[kP]at this
  exact this
 |
  rs k p off len aQ sz c v blk hg h1 hv hr ih=>
  intro hf;simp only[ab,ae,aJ]at hf
  obtain⟨cI,g1,g2,g3⟩:=hs.ref k blk hf.1 hg.1
  refine .rs (ρ k) p off len aQ sz c v cI ⟨g1,by rw[g2];exact hg.2⟩ h1 (λht=> ?_) (ih hf.2)
  obtain⟨ad,bC,e1,e2⟩:=hv (by rw[ht,g2])
  exact⟨ad,bC,e1,e2.aB g3 hs.heap⟩
 |np hr ih=>intro hf;simp only[ab,aJ]at hf;exact .np (ih hf.2)
 |
  pt k p aQ v blk hg h1 hv hr ih=>
  intro hf;simp only[ab,ae,aJ]at hf
  obtain⟨cI,g1,g2,g3⟩:=hs.ref k blk hf.1 hg.1
  refine .pt (ρ k) p aQ v cI ⟨g1,by rw[g2];exact hg.2⟩ h1 (λht=> ?_) (ih hf.2)
  obtain⟨b,e1,e2⟩:=hv (by rw[ht,g2])
  exact⟨b,by rw[g3,e1],e2⟩
 |
  fp sz l p b o hl hw hm hc hr ihl ih=>
  intro hf;simp only[ab,ae,aJ]at hf
  exact .fp sz _ p b o (ihl hf.1) (λx hx=>by obtain⟨p,hp,rfl⟩:=oK hx;rw[nc];exact hw p hp) ⟨by rw[hs.heap];exact hm.1,hs.own b hm.1 hm.2⟩ (by rw[hs.heap];exact hc) (ih hf.2)
 |
  fn g first cap h1 h2 h3 h4 hr i1 i2 ih=>
  intro hf;simp only[ab,ae,aJ]at hf
  exact .fn g _ _ (i1 hf.1.1) (i2 hf.1.2) (λx hx=>by obtain⟨p,hp,rfl⟩:=oK hx;rw[uG];exact h3 p hp) (λx hx=>by obtain⟨p,hp,rfl⟩:=oK hx;rw[uG];exact h4 p hp) (ih hf.2)
 |nf hr ih=>intro hf;simp only[ab,aJ]at hf;exact .nf (ih hf.2)
 |
  ifc t v h1 h2 hr i1 ih=>
  intro hf;simp only[ab,ae,aJ]at hf
  have:=i1 (by simp[ab,hf.1])
  simp only[aD]at this
  exact .ifc t _ this (by rw[uG];exact h2) (ih hf.2)
 |ni hr ih=>intro hf;simp only[ab,aJ]at hf;exact .ni (ih hf.2)
 |mp k b hr ih=>intro hf;simp only[ab,aJ]at hf;exact .mp k b (ih hf.2)
theorem aG.bp {f:Nat->Bool} {ρ:Nat->Nat} {Δ:Cx} (hs:uH f ρ Γ Δ) {p:PV} {cs:List Value} (h:aG Γ [p] cs) (hf:ae f p=true):aG Δ [Ab.aB ρ p] cs:=by
 have:=h.aB hs (by simp[ab,hf])
 simpa only[aD]using this
theorem jF.aB {f:Nat->Bool} {ρ:Nat->Nat} {Δ:Cx} (hs:uH f ρ Γ Δ) {p:PV} {v:Value} (h:jF Γ p v) (hf:ae f p=true):jF Δ (Ab.aB ρ p) v:=by
 cases p
 case un=>trivial
 case st w l=>obtain⟨cs,h1,h2⟩:=h;exact⟨cs,h1,h2.bp hs hf⟩
 case ar sz n l=>obtain⟨cs,h1,h2⟩:=h;exact⟨cs,h1,h2.bp hs hf⟩
 all_goals exact aG.bp hs h hf
theorem aO.aB {f:Nat->Bool} {ρ:Nat->Nat} {Δ:Cx} (hs:uH f ρ Γ Δ):∀ {p:PV} {v:Value},aO Γ p v->ae f p=true->aO Δ (Ab.aB ρ p) v:=by
 have h2:∀ {l:List PV} {vs:List Value},j3 Γ l vs->ab f l=true->j3 Δ (aD ρ l) vs:=by
  intro l
  induction l with
  |nil=>intro vs h hf;cases vs<;>simp_all [j3,aD]
  |
   cons p l ih=>
   intro vs h hf
   simp only[ab,aJ]at hf
   cases vs with
   |nil=>simp[j3]at h
   |cons v vs=>simp only[j3,aD]at h⊢;exact⟨h.1.aB hs hf.1,ih h.2 hf.2⟩
 intro p
 induction p using PV.rec (motive_2:=λ_=>True)with
 |gd b p ih=>intro v h hf;simp only[Ab.aB,ae]at hf⊢;rw[aO]at h⊢;exact⟨λhb=>ih (h.1 hb) hf,h.2⟩
 |tup l=>intro v h hf;simp only[aO,Ab.aB,ae]at h hf⊢;obtain⟨vs,e,h⟩:=h;exact⟨vs,e,h2 h hf⟩
 |un=>intro v h hf;simp[aO,Ab.aB]
 |st w l=>intro v h hf;obtain⟨cs,e,h⟩:=h;exact⟨cs,e,h.bp hs hf⟩
 |ar sz n l=>intro v h hf;obtain⟨cs,e,h⟩:=h;exact⟨cs,e,h.bp hs hf⟩
 |nil=>trivial
 |cons=>trivial
 |_=>intro v h hf;exact aG.bp hs h hf
def aE (ρ:Nat->Nat):bX->bX
 | .box v=> .box (Ab.aB ρ v)
 | .arr sz l=> .arr sz (aD ρ l)
 | .map b ks vs l=> .map b ks vs l
def af (f:Nat->Bool):bX->Bool
 | .box v=>ae f v
 | .arr _ l=>ab f l
 | .map .. =>true
theorem js (ρ:Nat->Nat) (b:bX):(aE ρ b).aQ=b.aQ:=by cases b<;>simp[aE,bX.aQ,kP]
theorem bX.vE.aB {f:Nat->Bool} {ρ:Nat->Nat} {Δ:Cx} (hs:uH f ρ Γ Δ) {blk:bX} {ob:Option Nat} (h:blk.vE Γ ob) (hf:af f blk=true):(aE ρ blk).vE Δ ob:=by
 cases blk with
 |
  box v=>
  obtain⟨b,c,e,h1,h2,h3⟩:=h
  exact⟨b,c,e,h1,by rw[hs.heap];exact h2,h3.bp hs hf⟩
 |
  arr sz l=>
  obtain⟨h1,h2,h3⟩:=h
  refine⟨λx hx=>by obtain⟨p,hp,rfl⟩:=oK hx;rw[nc];exact h1 p hp,h2,?_⟩
  cases ob with
  |none=>trivial
  |
   some b=>
   obtain⟨c,e,cs,rest,h4,h5,h6,h7⟩:=h3
   exact⟨c,e,cs,rest,by rw[hs.heap];exact h4,h5,h6.aB hs hf,h7⟩
 |
  map b ks vs l=>
  obtain⟨h1,h2⟩:=h
  exact⟨h1,by rw[hs.heap];exact h2⟩
end Go.Ab
namespace Go.Ab
variable [eJ]
variable {P:Program} {nt:Nat} {ds:List Deferred} {s:St} {Γ:Cx} {a:Act} {w:World}
def KB:Nat:=9000
def aF:Nat->List bX->List (Nat×bX)
 |_,[]=>[]
 |i,b::r=>(KB+i,b)::aF (i+1) r
theorem z7 (B:Nat):∀(l:List bX) (i k:Nat),get ((l.zipIdx i).map λx=>(B+x.2,x.1)) k=if B+i≤k then l[k-B-i]?else none
 |[],i,k=>by simp[get]
 |
  b::l,i,k=>by
  have ih:=z7 B l (i+1) k
  rw[List.zipIdx_cons,List.map_cons]
  unfold get
  rw[ih]
  by_cases h:B+i=k
  ·rw[if_pos h,if_pos (by omega),show k-B-i=0 by omega];rfl
  ·rw[if_neg h]
   by_cases h2:B+i≤k
   ·rw[if_pos h2,if_pos (by omega),show k-B-i=(k-B-(i+1))+1 by omega,List.getElem?_cons_succ]
   ·rw[if_neg h2,if_neg (by omega)]
theorem FX:∀(l:List bX) (i:Nat),aF i l=(l.zipIdx i).map λx=>(KB+x.2,x.1)
 |[],i=>rfl
 |b::l,i=>by rw[aF,FX l (i+1),List.zipIdx_cons,List.map_cons]
theorem fY (l:List bX) (i k:Nat):get (aF i l) k=if KB+i≤k then l[k-KB-i]?else none:=by
 rw[FX];exact z7 KB l i k
def gq (Γ:Cx):List PV->List Value->Prop
 |[],[]=>True
 |p::ps,v::vs=>aO Γ p v∧gq Γ ps vs
 |_,_=>False
def Aa (P:Program) (f:FuncId) (vs:Array Value) (w:World) (Q:Ending->World->Prop):Prop:=
 ((callFunc f vs).run P w= .ok (.enter f vs) w∧Calls P f vs w Q)∨∃v w',(callFunc f vs).run P w= .ok (.value v) w'∧Q (.returned v) w'
theorem Aa.mono {f:FuncId} {vs:Array Value} {w:World} {Q Q':Ending->World->Prop} (h:Aa P f vs w Q) (hq:∀e w',Q e w'->Q' e w'):Aa P f vs w Q':=by
 rcases h with⟨h1,h2⟩|⟨v,w',h1,h2⟩
 ·exact .inl ⟨h1,h2.mono hq⟩
 ·exact .inr ⟨v,w',h1,hq _ _ h2⟩
theorem Aa.calls {f:FuncId} {vs:Array Value} {w:World} {Q:Ending->World->Prop} (h:Aa P f vs w Q) (he:(callFunc f vs).run P w= .ok (.enter f vs) w):Calls P f vs w Q:=by
 rcases h with⟨h1,h2⟩|⟨v,w',h1,h2⟩
 ·exact h2
 ·rw[he]at h1;simp at h1
def ai (P:Program) (f:FuncId) (args:List PV) (fp:List bX) (R:PV->List bX->Prop):Prop:=
 ∀
  (Γ:Cx) (w:World) (vs:List Value),w.heap=Γ.heap->Mem Γ->Γ.bx=aF 0 fp->gq Γ args vs->
  Aa P f vs.toArray w (λe w'=>∃v r pV Γ',e= .returned v∧R r pV∧w'.heap=Γ'.heap∧Mem Γ'∧Γ'.bx=aF 0 pV∧aO Γ' r v∧Le Γ Γ'∧WF w w')
theorem ai.mono {f:FuncId} {args:List PV} {fp:List bX} {R R':PV->List bX->Prop} (h:ai P f args fp R) (hr:∀r pV,R r pV->R' r pV):ai P f args fp R':=by
 intro Γ w vs h1 h2 h3 h4
 refine(h Γ w vs h1 h2 h3 h4).mono ?_
 rintro e w' ⟨v,r,pV,Γ',e1,e2,e3⟩
 exact⟨v,r,pV,Γ',e1,hr _ _ e2,e3⟩
def idx:List Nat->Nat->Option Nat
 |[],_=>none
 |x::r,k=>if x=k then some 0 else match idx r k with|some i=>some (i+1)|none=>none
theorem lT:∀ {l:List Nat} {k i:Nat},idx l k=some i->l[i]? =some k
 |[],k,i,h=>by simp[idx]at h
 |
  x::r,k,i,h=>by
  simp only[idx]at h
  split at h
  ·simp at h;subst_vars;rfl
  ·split at h
   ·rename_i j hj
    simp at h;subst h
    simpa using lT hj
   ·simp at h
theorem xC:∀ {l:List Nat} {k i:Nat},l.Nodup->l[i]? =some k->idx l k=some i
 |[],k,i,_,h=>by simp at h
 |
  x::r,k,i,hn,h=>by
  rw[List.nodup_cons]at hn
  cases i with
  |zero=>simp at h;subst h;simp[idx]
  |
   succ i=>
   simp at h
   have bS:x≠k:=by intro e;subst e;exact hn.1 (List.mem_of_getElem? h)
   simp[idx,bS,xC hn.2 h]
theorem CC {l:List Nat} {k:Nat} (h:idx l k=none):k∉l:=by
 induction l with
 |nil=>simp
 |
  cons x r ih=>
  simp only[idx]at h
  split at h
  ·simp at h
  ·split at h
   ·simp at h
   ·rename_i bS _ hr
    simp only[cJ,not_or]
    exact⟨λe=>bS e.symm,ih hr⟩
def getAll (bx:List (Nat×bX)):List Nat->Option (List bX)
 |[]=>some []
 |k::r=>match get bx k,getAll bx r with|some b,some l=>some (b::l)|_,_=>none
theorem fA:∀ {ks:List Nat} {bx:List (Nat×bX)} {l:List bX},getAll bx ks=some l->l.length=ks.length∧∀(i:Nat) k,ks[i]? =some k->∃b,get bx k=some b∧l[i]? =some b
 |[],bx,l,h=>by simp[getAll]at h;subst h;simp
 |
  k::r,bx,l,h=>by
  simp only[getAll]at h
  split at h
  ·rename_i b l' hb hl
   simp only[sJ]at h;subst h
   obtain⟨h1,h2⟩:=fA hl
   refine⟨by simp[h1],λi j hj=> ?_⟩
   cases i with
   |zero=>simp at hj;subst hj;exact⟨b,hb,rfl⟩
   |succ i=>simp at hj;simpa using h2 i j hj
  ·simp at h
def bb (bx:List (Nat×bX)):List Nat->List bX->List (Nat×bX)
 |k::ks,b::bs=>bb (put bx k b) ks bs
 |_,_=>bx
theorem se:∀ {ks:List Nat} {bs:List bX} {bx:List (Nat×bX)} (k:Nat),ks.Nodup->bs.length=ks.length->get (bb bx ks bs) k=match idx ks k with|some i=>bs[i]? |none=>get bx k
 |[],bs,bx,k,_,hl=>by cases bs<;>simp_all [bb,idx]
 |
  x::r,bs,bx,k,hn,hl=>by
  cases bs with
  |nil=>simp at hl
  |
   cons b bs=>
   rw[List.nodup_cons]at hn
   simp only[bb,se k hn.2 (by simpa using hl),idx]
   by_cases hx:x=k
   ·subst hx
    have:idx r x=none:=by
     cases hi:idx r x with
     |none=>rfl
     |some i=>exact absurd (List.mem_of_getElem? (lT hi)) hn.1
    simp[this,dw]
   ·rw[if_neg hx]
    cases idx r k with
    |none=>simp[cP _ _ _ _ hx]
    |some i=>simp
def bp (ks:List Nat) (k:Nat):Nat:=match idx ks k with|some i=>KB+i|none=>k
def dv (ks:List Nat) (k:Nat):Nat:=if KB≤k then(ks[k-KB]?).getD k else k
def bM (ks:List Nat) (k:Nat):Bool:=(idx ks k).isSome
def fj (n:Nat) (k:Nat):Bool:=decide (KB≤k∧k<KB+n)
def tm (P:Program) (s:St) (d:Option Nat) (f:FuncId) (args:List PV) (ks os:List Nat) (K:St->Prop):Prop:=
 ∃
  cY R,getAll s.bx ks=some cY∧(ks++os).Nodup∧(∀o∈os,get s.bx o=none)∧ab (bM ks) args=true∧cY.all (af (bM ks))=true∧
  ai P f (aD (bp ks) args) (cY.map (aE (bp ks))) R∧
  ∀
   r fp,R r fp->(fp.length=(ks++os).length∧ae (fj fp.length) r=true∧fp.all (af (fj fp.length))=true)∧
   K ({s with bx:=bb s.bx (ks++os) (fp.map (aE (dv (ks++os))))}.put d (aB (dv (ks++os)) r))
def Cx.call (Γ:Cx) (ks:List Nat) (cY:List bX):Cx:=
 {
  heap:=Γ.heap,ι:=λk=>if KB≤k then(match ks[k-KB]?with|some j=>Γ.ι j|none=>none)else none,
  bx:=aF 0 (cY.map (aE (bp ks))),ed:=λb=>Γ.own b∧¬∃(i:Nat) (k:Nat),ks[i]? =some k∧Γ.ι k=some b}
def Cx.back (Γ Γ':Cx) (all:List Nat) (fp:List bX):Cx:=
 {
  heap:=Γ'.heap,ι:=λk=>match idx all k with|some i=>Γ'.ι (KB+i)|none=>Γ.ι k,
  bx:=bb Γ.bx all (fp.map (aE (dv all))),ed:=Γ.ed}
theorem Cx.nj {ks:List Nat} {cY:List bX} (hg:getAll Γ.bx ks=some cY):uH (bM ks) (bp ks) Γ (Γ.call ks cY) where
 heap:=rfl
 own b _ hn:=by
  rintro(⟨k,blk,h1,h2⟩|⟨h,_⟩)
  ·simp only[Cx.call]at h2
   split at h2
   ·split at h2
    ·rename_i j hj
     obtain⟨_,da⟩:=fA hg
     obtain⟨b',g1,_⟩:=da _ _ hj
     exact hn (.inl ⟨j,b',g1,h2⟩)
    ·simp at h2
   ·simp at h2
  ·exact hn h
 ref k blk hk hb:=by
  obtain⟨i,hi⟩:=Option.isSome_iff_exists.1 hk
  obtain⟨hl,da⟩:=fA hg
  obtain⟨b',g1,g2⟩:=da i k (lT hi)
  rw[hb]at g1;cases g1
  refine⟨aE (bp ks) blk,?_,js _ _,?_⟩
  ·simp only[Cx.call,bp,hi,fY]
   rw[if_pos (by omega)]
   simp[g2]
  ·simp only[Cx.call,bp,hi]
   rw[if_pos (by omega)]
   simp[lT hi]
theorem Cx.kQ {ks:List Nat} {cY:List bX} (hg:getAll Γ.bx ks=some cY) {b:Nat}:(Γ.call ks cY).hO b↔∃(i:Nat) (k:Nat),ks[i]? =some k∧Γ.ι k=some b:=by
 obtain⟨hl,da⟩:=fA hg
 constructor
 ·rintro⟨k,blk,h1,h2⟩
  simp only[Cx.call]at h2
  split at h2
  ·split at h2
   ·rename_i j hj;exact⟨_,j,hj,h2⟩
   ·simp at h2
  ·simp at h2
 ·rintro⟨i,k,h1,h2⟩
  obtain⟨b',g1,g2⟩:=da i k h1
  refine⟨KB+i,aE (bp ks) b',?_,?_⟩
  ·simp only[Cx.call,fY]
   rw[if_pos (by omega)]
   simp[g2]
  ·simp only[Cx.call]
   rw[if_pos (by omega)]
   simp[h1,h2]
theorem Cx.tn (hm:Mem Γ) {ks:List Nat} {cY:List bX} (hg:getAll Γ.bx ks=some cY) (hn:ks.Nodup) (eE:cY.all (af (bM ks))=true):Mem (Γ.call ks cY) where
 blk k blk hk:=by
  obtain⟨hl,da⟩:=fA hg
  simp only[Cx.call,fY]at hk
  split at hk
  ·rename_i hle
   rw[List.getElem?_map,mJ]at hk
   obtain⟨b0,Eb,rfl⟩:=hk
   have hi:=(List.getElem?_eq_some_iff.1 Eb).1
   obtain⟨j,hj⟩:∃j,ks[k-KB]? =some j:=⟨_,gJ (by omega)⟩
   obtain⟨b1,g1,g2⟩:=da _ _ hj
   simp only[Nat.sub_zero]at Eb
   rw[Eb]at g2;cases g2
   have:=(hm.blk j b0 g1).aB (Cx.nj hg) (List.all_eq_true.1 eE b0 (List.mem_of_getElem? Eb))
   have e:(Γ.call ks cY).ι k=Γ.ι j:=by simp only[Cx.call];rw[if_pos (by omega),hj]
   rw[e];exact this
  ·simp at hk
 inj i j b hi hj h1 h2:=by
  obtain⟨hl,da⟩:=fA hg
  simp only[Cx.call]at h1 h2
  split at h1
  ·split at h2
   ·split at h1
    ·rename_i x hx
     split at h2
     ·rename_i y hy
      obtain⟨b1,g1,_⟩:=da _ _ hx
      obtain⟨b2,g2,_⟩:=da _ _ hy
      have:=hm.inj x y b (by simp[g1]) (by simp[g2]) h1 h2
      subst this
      have e1:=xC hn hx
      have e2:=xC hn hy
      rw[e1]at e2;simp at e2;omega
     ·simp at h2
    ·simp at h1
   ·simp at h2
  ·simp at h1
 ed b h:=by
  rcases h.1 with h|h
  ·exact hm.lt h
  ·exact hm.ed b h
 apart b h hp:=hp.2 ((Cx.kQ hg).1 h)
 te b cs h:=by
  obtain⟨h1,h2⟩:=hm.te b cs h
  refine⟨λhb=>h1 ?_,h2⟩
  obtain⟨i,k,g1,g2⟩:=(Cx.kQ hg).1 hb
  obtain⟨b',g3,_⟩:=(fA hg).2 i k g1
  exact⟨k,b',g3,g2⟩
theorem sf (hm:Mem Γ) {Γ':Cx} {ks os:List Nat} {cY fp:List bX} (hg:getAll Γ.bx ks=some cY) (hn:(ks++os).Nodup) (Sf:∀o∈os,get Γ.bx o=none)
  (mO:Mem Γ') (lA:Γ'.bx=aF 0 fp) (hle:Le (Γ.call ks cY) Γ') (hlen:fp.length=(ks++os).length) (eE:fp.all (af (fj fp.length))=true):
  uH (fj fp.length) (dv (ks++os)) Γ' (Γ.back Γ' (ks++os) fp)∧Le Γ (Γ.back Γ' (ks++os) fp)∧Mem (Γ.back Γ' (ks++os) fp):=by
 obtain⟨hl,da⟩:=fA hg
 have hnk:ks.Nodup:=(List.nodup_append.1 hn).1
 have FD:∀k,get (Γ.back Γ' (ks++os) fp).bx k=match idx (ks++os) k with|some i=>(fp.map (aE (dv (ks++os))))[i]? |none=>get Γ.bx k:=λk=>se k hn (by simpa using hlen)
 have iq:Γ.heap.size≤Γ'.heap.size:=hle.size
 --a block of a key that is handed over or comes back
 have FG:∀ {k i:Nat},idx (ks++os) k=some i->∃b0,fp[i]? =some b0∧get Γ'.bx (KB+i)=some b0:=by
  intro k i hi
  have dG:=(List.getElem?_eq_some_iff.1 (lT hi)).1
  have:fp[i]? =some (fp[i]'(by omega)):=gJ (by omega)
  exact⟨_,this,by rw[lA,fY,if_pos (by omega)];simpa using this⟩
 have Hc:Γ'.ed=(Γ.call ks cY).ed:=hle.ed
 have y6:∀ {k b:Nat} {blk:bX},idx (ks++os) k=none->get Γ.bx k=some blk->Γ.ι k=some b->(Γ.call ks cY).ed b:=by
  intro k b blk hi hb hι
  refine⟨.inl ⟨k,blk,hb,hι⟩,?_⟩
  rintro⟨i,k',h1,h2⟩
  obtain⟨b',g1,_⟩:=da i k' h1
  have:=hm.inj k k' b (by simp[hb]) (by simp[g1]) hι h2
  subst this
  exact CC hi (List.mem_append.2 (.inl (List.mem_of_getElem? h1)))
 have same:uH (fj fp.length) (dv (ks++os)) Γ' (Γ.back Γ' (ks++os) fp):=by
  refine⟨rfl,λb hb jP=> ?_,λk blk hk hb=> ?_⟩
  ·rintro(⟨k,blk,h1,h2⟩|h)
   ·rw[FD]at h1
    simp only[Cx.back]at h2
    cases hi:idx (ks++os) k with
    |
     some i=>
     rw[hi]at h2
     obtain⟨b0,_,g2⟩:=FG hi
     exact jP (.inl ⟨_,b0,g2,h2⟩)
    |
     none=>
     rw[hi]at h1 h2
     exact jP (.inr (by rw[Hc];exact y6 hi h1 h2))
   ·have h':Γ.ed b:=h
    have hpc:(Γ.call ks cY).ed b:=by
     refine⟨.inr h',?_⟩
     rintro⟨i,k',h1,h2⟩
     obtain⟨b',g1,_⟩:=da i k' h1
     exact hm.apart b ⟨k',b',g1,h2⟩ h'
    exact jP (.inr (by rw[Hc];exact hpc))
  ·simp only[fj,decide_eq_true_eq]at hk
   obtain⟨i,rfl⟩:∃i,k=KB+i:=⟨k-KB,by omega⟩
   have ir:(ks++os)[i]? =some ((ks++os)[i]'(by omega)):=gJ (by omega)
   have hr:dv (ks++os) (KB+i)=(ks++os)[i]'(by omega):=by
    simp only[dv];rw[if_pos (by omega)];simp[ir]
   have acT:=xC hn ir
   rw[lA,fY,if_pos (by omega)]at hb
   simp only[Nat.add_sub_cancel_left,Nat.sub_zero]at hb
   refine⟨aE (dv (ks++os)) blk,?_,js _ _,?_⟩
   ·rw[FD,hr,acT];simp[hb]
   ·simp only[Cx.back];rw[hr,acT]
 have le:Le Γ (Γ.back Γ' (ks++os) fp):=by
  refine⟨λb hb jP=> ?_,λb hb h=> ?_,rfl,iq,λk blk hk=> ?_⟩
  ·refine hle.heap b hb (λh=>jP ?_)
   obtain⟨i,k,h1,h2⟩:=(Cx.kQ hg).1 h
   obtain⟨b',g1,_⟩:=da i k h1
   exact⟨k,b',g1,h2⟩
  ·obtain⟨k,blk,h1,h2⟩:=h
   rw[FD]at h1
   simp only[Cx.back]at h2
   cases hi:idx (ks++os) k with
   |
    some i=>
    rw[hi]at h2
    obtain⟨b0,_,g2⟩:=FG hi
    obtain⟨i',k',g3,g4⟩:=(Cx.kQ hg).1 (hle.hO b hb ⟨_,b0,g2,h2⟩)
    obtain⟨b',g1,_⟩:=da i' k' g3
    exact⟨k',b',g1,g4⟩
   |
    none=>
    rw[hi]at h1 h2
    exact⟨k,blk,h1,h2⟩
  ·cases hi:idx (ks++os) k with
   |
    some i=>
    obtain⟨b0,g1,g2⟩:=FG hi
    have Cp:=lT hi
    have ir:ks[i]? =some k:=by
     rw[List.getElem?_append]at Cp
     split at Cp
     ·exact Cp
     ·rw[Sf k (List.mem_of_getElem? Cp)]at hk;simp at hk
    obtain⟨b1,g3,g4⟩:=da i k ir
    rw[hk]at g3;cases g3
    have hce:get (Γ.call ks cY).bx (KB+i)=some (aE (bp ks) blk):=by
     simp only[Cx.call,fY];rw[if_pos (by omega)];simp[g4]
    have hcι:(Γ.call ks cY).ι (KB+i)=Γ.ι k:=by
     simp only[Cx.call];rw[if_pos (by omega)];simp[ir]
    obtain⟨b2,g5,g6,g7⟩:=hle.ref _ _ hce
    rw[g2]at g5;cases g5
    refine⟨aE (dv (ks++os)) b0,by rw[FD,hi];simp[g1],by rw[js];rw[js]at g6;exact g6,λht=> ?_⟩
    rw[js]at ht g7
    obtain⟨g8,g9⟩:=g7 ht
    rw[hcι]at g8 g9
    refine⟨by simp only[Cx.back];rw[hi];exact g8,g9⟩
   |
    none=>
    refine⟨blk,by rw[FD,hi];exact hk,Nat.le_refl _,λ_=>⟨by simp only[Cx.back];rw[hi],λb hb cs e hc=>⟨cs,?_,rfl⟩⟩⟩
    have hp:=y6 hi hk hb
    rw[←hc]
    refine hle.heap b (db hc) (λh=>hp.2 ((Cx.kQ hg).1 h))
 refine⟨same,le,⟨λk blk hk=> ?_,λi j b hi hj h1 h2=> ?_,λb h=>Nat.lt_of_lt_of_le (hm.ed b h) iq,λb h hp=>hm.apart b (le.hO b (hm.ed b hp) h) hp,hm.lF le⟩⟩
 ·rw[FD]at hk
  cases hi:idx (ks++os) k with
  |
   some i=>
   rw[hi]at hk
   obtain⟨b0,g1,g2⟩:=FG hi
   simp only[List.getElem?_map,g1,Option.map_some,sJ]at hk
   subst hk
   have:=(mO.blk _ _ g2).aB same (List.all_eq_true.1 eE b0 (List.mem_of_getElem? g1))
   have e:(Γ.back Γ' (ks++os) fp).ι k=Γ'.ι (KB+i):=by simp only[Cx.back];rw[hi]
   rw[e];exact this
  |
   none=>
   rw[hi]at hk
   have e:(Γ.back Γ' (ks++os) fp).ι k=Γ.ι k:=by simp only[Cx.back];rw[hi]
   rw[e]
   have hb:=hm.blk k blk hk
   refine hb.mono le (λb pg=> ?_)
   have hp:=y6 hi hk pg
   rw[pg]at hb
   exact hle.heap b hb.lt (λh=>hp.2 ((Cx.kQ hg).1 h))
 ·rw[FD]at hi hj
  simp only[Cx.back]at h1 h2
  cases e1:idx (ks++os) i with
  |
   some x=>
   rw[e1]at h1
   obtain⟨b0,_,g2⟩:=FG e1
   cases e2:idx (ks++os) j with
   |
    some y=>
    rw[e2]at h2
    obtain⟨b1,_,g3⟩:=FG e2
    have:=mO.inj _ _ b (by simp[g2]) (by simp[g3]) h1 h2
    have VG:x=y:=by omega
    subst VG
    have:=lT e1
    rw[lT e2]at this
    exact(Option.some.inj this).symm
   |
    none=>
    rw[e2]at hj h2
    obtain⟨b1,oA⟩:=Option.isSome_iff_exists.1 hj
    have hp:=y6 e2 oA h2
    rw[←Hc]at hp
    exact absurd hp (mO.apart b ⟨_,b0,g2,h1⟩)
  |
   none=>
   rw[e1]at hi h1
   obtain⟨b0,Eb⟩:=Option.isSome_iff_exists.1 hi
   cases e2:idx (ks++os) j with
   |
    some y=>
    rw[e2]at h2
    obtain⟨b1,_,g3⟩:=FG e2
    have hp:=y6 e1 Eb h1
    rw[←Hc]at hp
    exact absurd hp (mO.apart b ⟨_,b1,g3,h2⟩)
   |
    none=>
    rw[e2]at hj h2
    exact hm.inj i j b (by simpa[Eb]using hi) hj h1 h2
end Go.Ab
namespace Go.Ab
variable [eJ]
variable {P:Program} {nt:Nat} {ds:List Deferred} {s:St} {Γ:Cx} {a:Act} {w:World} {l:Nat} {o:Obj}
abbrev FW (ro:Option Nat):Fence:= {Fence.wide with round:=ro}
theorem Jk {ro:Option Nat} {f:FuncId} {args:Array Value} {R:Ending->World->Prop} (h:Calls P f args w R):CallsIn (FW ro) 0 P f args w R:=
 (callsIn_wide (n:=0)).2 h
theorem Hx {ro:Option Nat} {f:FuncId} {args:Array Value} {R:Ending->World->Prop} (h:CallsIn (FW ro) 0 P f args w R):Calls P f args w R:=
 (callsIn_wide (n:=0)).1 h
def Qb:Obj->Bool
 | .cells .. | .map .. =>true
 |_=>false
def Cx.obj (Γ:Cx) (l:Nat) (o:Obj):Cx:= {Γ with heap:=Γ.heap.setIfInBounds l o}
def Cx.ik (Γ:Cx) (l:Nat):Prop:=∃x,Γ.heap[l]? =some x∧Qb x=false
theorem jb {b:Nat} (h:b≠l):(Γ.obj l o).heap[b]? =Γ.heap[b]? :=by simp[Cx.obj,Array.getElem?_setIfInBounds_ne (Ne.symm h)]
theorem tp (h:l<Γ.heap.size):(Γ.obj l o).heap[l]? =some o:=by simp[Cx.obj,h]
theorem mb:(Γ.obj l o).heap.size=Γ.heap.size:=by simp[Cx.obj]
theorem Cx.ik.lt (h:Γ.ik l):l<Γ.heap.size:=by obtain⟨x,hx,_⟩:=h;exact db hx
theorem Cx.ik.ne' (h:Γ.ik l) {b:Nat} {x:Obj} (hb:Γ.heap[b]? =some x) (hx:Qb x=true):b≠l:=by
 rintro rfl
 obtain⟨y,hy,hc⟩:=h
 rw[hb]at hy;cases hy;rw[hx]at hc;simp at hc
theorem Cx.ik.ne (h:Γ.ik l) {b:Nat} {c:Array Value} {e:TypeId} {z:Nat×Nat} (hb:Γ.heap[b]? =some (.cells c e z)):b≠l:=h.ne' hb rfl
theorem xD (hm:Mem Γ) {b:Nat} (h:Γ.hO b):∃x,Γ.heap[b]? =some x∧Qb x=true:=by
 obtain⟨k,blk,h1,h2⟩:=h
 have:=hm.blk k blk h1
 rw[h2]at this
 cases blk with
 |box v=>obtain⟨b',c,e,e1,e2,_⟩:=this;cases e1;exact⟨_,e2,rfl⟩
 |arr sz l=>obtain⟨_,_,c,e,cs,rest,e2,_⟩:=this;exact⟨_,e2,rfl⟩
 |map b0 ks vs l=>obtain⟨e1,es,clock,e2,_⟩:=this;cases e1;exact⟨_,e2,rfl⟩
theorem xE (hm:Mem Γ) (h:Γ.ik l):¬Γ.hO l:=by
 intro hb
 obtain⟨x,hx,hc⟩:=xD hm hb
 exact h.ne' hx hc rfl
theorem FY (h:Γ.ik l):I2 Γ (Γ.obj l o) where
 cell b i c _ _ hc:=by
  have hb:b≠l:=by
   rintro rfl
   obtain⟨x,hx,hp⟩:=h
   unfold Ab.cell at hc
   rw[hx]at hc
   cases x<;>simp_all [Qb]
  unfold Ab.cell at hc⊢
  rw[jb hb];exact hc
 own b _ ho:=ho
 size:=by rw[mb];exact Nat.le_refl _
 ref k blk hk:=⟨blk,hk,Nat.le_refl _,λ_=>⟨rfl,λb _ cs e hc=>⟨cs,by rw[jb (h.ne hc)];exact hc,rfl⟩⟩⟩
theorem wT (hm:Mem Γ) (h:Γ.ik l):Mem (Γ.obj l o) where
 blk k blk hk:=(hm.blk k blk hk).mK (FY h) λb hb=>by
  obtain⟨x,hx,hc⟩:=xD hm ⟨k,blk,hk,hb⟩
  exact jb (h.ne' hx hc)
 inj:=hm.inj
 ed b hb:=by rw[mb];exact hm.ed b hb
 apart:=hm.apart
 te b cs hb:=by
  obtain⟨h1,e,x,h2⟩:=hm.te b cs hb
  exact⟨h1,e,x,by rw[jb (h.ne h2)];exact h2⟩
theorem Ac (h:Γ.ik l) (ho:Qb o=false):(Γ.obj l o).ik l:=⟨o,tp h.lt,ho⟩
theorem Le.plain {A B:Cx} (h:Le A B) (hm:Mem A) {x:Obj} (hx:A.heap[l]? =some x) (hc:Qb x=false):B.heap[l]? =some x:=by
 rw[h.heap l (db hx) (xE hm ⟨x,hx,hc⟩)];exact hx
theorem vI {A B:Cx} (h:Le A B) (hm:Mem A) (ha:A.ik l) (ho:Qb o=false):Le (A.obj l o) (B.obj l o) where
 heap b hb hn:=by
  rw[mb]at hb
  by_cases e:b=l
  ·subst e;rw[tp hb,tp (Nat.lt_of_lt_of_le hb h.size)]
  ·rw[jb e,jb e];exact h.heap b hb hn
 hO b hb hn:=by rw[mb]at hb;exact h.hO b hb hn
 ed:=h.ed
 size:=by rw[mb,mb];exact h.size
 ref k blk hk:=by
  obtain⟨cI,h1,h2,h3⟩:=h.ref k blk hk
  refine⟨cI,h1,h2,λht=>⟨(h3 ht).1,λb hb cs e hc=> ?_⟩⟩
  have bS:b≠l:=(Ac ha ho).ne hc
  rw[jb bS]at hc⊢
  exact(h3 ht).2 b hb cs e hc
theorem tq {A B:Cx} (h:Le A B) (hl:A.heap.size≤l) (hb:B.ik l):Le A (B.obj l o) where
 heap b dG hn:=by rw[jb (by omega)];exact h.heap b dG hn
 hO b dG hn:=h.hO b dG hn
 ed:=h.ed
 size:=by rw[mb];exact h.size
 ref k blk hk:=by
  obtain⟨cI,h1,h2,h3⟩:=h.ref k blk hk
  refine⟨cI,h1,h2,λht=>⟨(h3 ht).1,λb yX cs e hc=> ?_⟩⟩
  obtain⟨AR,h4,h5⟩:=(h3 ht).2 b yX cs e hc
  exact⟨AR,by rw[jb (hb.ne h4)];exact h4,h5⟩
theorem Jl {o':Obj} (h:Γ.heap[l]? =some o):(Γ.obj l o').obj l o=Γ:=by
 have dG:=db h
 have:(Γ.heap.setIfInBounds l o').setIfInBounds l o=Γ.heap:=by
  apply Array.ext
  ·simp
  ·intro i h1 h2
   rw[Array.getElem_setIfInBounds (by simpa using h2)]
   split
   ·subst_vars;exact((Array.getElem?_eq_some_iff.1 h).2).symm
   ·rename_i bS
    rw[Array.getElem_setIfInBounds h2,if_neg bS]
 simp only[Cx.obj,this]
theorem gK.obj (hs:gK nt ds s Γ a) (h:Γ.ik l):gK nt ds s (Γ.obj l o) a:=
 ⟨hs.bx,hs.size,hs.defers,λk p hk=>(hs.env k p hk).mK (FY h),wT hs.mem h⟩
theorem tt (h:w.heap=Γ.heap):(w.putObj l o).heap=(Γ.obj l o).heap:=by simp[World.putObj,Cx.obj,h]
theorem WF.obj (w:World) (l:Nat) (o:Obj):WF w (w.putObj l o):=⟨rfl,rfl,rfl⟩
theorem WF.alloc (w:World) (o:Obj):WF w (w.alloc o):=⟨rfl,rfl,rfl⟩
def kR (B:Nat) (Γ:Cx) (ds:List Deferred):Prop:=
 ∃Ds:List Nat,ds=Ds.map (λD=> {target:= .collected D,args:= #[]})∧Ds.Nodup∧∀D∈Ds,B≤D∧Γ.heap[D]? =some (.deferred (some []))
theorem kR.nil {B:Nat}:kR B Γ []:=⟨[],rfl,.nil,by simp⟩
theorem kR.le {B:Nat} {Γ':Cx} (h:kR B Γ ds) (hm:Mem Γ) (hle:Le Γ Γ'):kR B Γ' ds:=by
 obtain⟨Ds,h1,h2,h3⟩:=h
 exact⟨Ds,h1,h2,λD hD=>⟨(h3 D hD).1,hle.plain hm (h3 D hD).2 rfl⟩⟩
theorem kR.heap {B:Nat} {Γ':Cx} (h:kR B Γ ds) (he:Γ'.heap=Γ.heap):kR B Γ' ds:=by
 obtain⟨Ds,h1,h2,h3⟩:=h
 exact⟨Ds,h1,h2,λD hD=>⟨(h3 D hD).1,by rw[he];exact(h3 D hD).2⟩⟩
def eC (n:Nat):List Nat:=(List.range n).map (KB+·)
def Jm (P:Program) (l:Nat) (Γc:Cx) (args:List PV) (fp:List bX) (R:List bX->Prop):Prop:=
 ∀
  (Γ:Cx) (w:World) (vs:List Value),w.heap=Γ.heap->Mem Γ->Γ.bx=aF 0 fp->gq Γ args vs->I2 Γc Γ->Γ.heap[l]? =Γc.heap[l]? ->
  YieldAt (FW none) 0 P l vs.toArray w (λe w'=>∃pV Γ',e= .returned (.bool true)∧R pV∧w'.heap=Γ'.heap∧Mem Γ'∧Γ'.bx=aF 0 pV∧Le Γ Γ'∧WF w w')
class ji where
 n:Nat
 spec:Nat->List PV->List bX->(List bX->Prop)->Prop
instance noY:ji:=⟨0,λ_ _ _ _=>False⟩
def xF [Y:ji] (P:Program) (Γ:Cx):Prop:=∀l args fp R,Y.spec l args fp R->
 ∃Γ0 rec,Le Γ0 Γ∧(∀k blk,get Γ0.bx k=some blk->KB≤k∧k<KB+Y.n)∧Γ0.heap[l]? =some (.loop rec)∧Mem Γ0∧Jm P l Γ0 args fp R
theorem xF.le [ji] {Γ':Cx} (h:xF P Γ) (hle:Le Γ Γ'):xF P Γ':=λl args fp R hs=>by
 obtain⟨Γ0,rec,h1,h2⟩:=h l args fp R hs
 exact⟨Γ0,rec,h1.trans hle,h2⟩
theorem xF.no: @xF _ noY P Γ:=λ_ _ _ _ h=>h.elim
def Eo [Y:ji] (s:St) (d:Option Nat) (l:Nat) (args:List PV) (K:St->Prop):Prop:=
 ∃
  cY R,getAll s.bx (eC Y.n)=some cY∧ab (fj Y.n) args=true∧cY.all (af (fj Y.n))=true∧Y.spec l args cY R∧
  ∀fp,R fp->(fp.length=Y.n∧fp.all (af (fj Y.n))=true)∧K ({s with bx:=bb s.bx (eC Y.n) fp}.put d (.bl true))
theorem mU (n:Nat):(eC n).Nodup:=by
 unfold eC
 exact List.Pairwise.map _ (λa b h=>by simp only[ne_eq];omega) List.nodup_range
theorem uI {n i k:Nat}:(eC n)[i]? =some k↔i<n∧k=KB+i:=by
 unfold eC
 simp only[List.getElem?_map,mJ]
 constructor
 ·rintro⟨x,h1,h2⟩
  obtain⟨h3,h4⟩:=List.getElem?_eq_some_iff.1 h1
  simp at h3 h4;subst h4
  exact⟨h3,h2.symm⟩
 ·rintro⟨h1,rfl⟩
  exact⟨i,by simp[h1],rfl⟩
theorem xG {n k:Nat}:idx (eC n) k=if KB≤k∧k<KB+n then some (k-KB)else none:=by
 split
 ·rename_i h
  exact xC (mU n) (uI.2 ⟨by omega,by omega⟩)
 ·rename_i h
  cases hi:idx (eC n) k with
  |none=>rfl
  |some i=>exact absurd (uI.1 (lT hi)) (by omega)
theorem nW (n:Nat):bM (eC n)=fj n:=by
 funext k
 simp only[bM,xG,fj]
 split<;>simp_all
theorem nX {n k:Nat}:bp (eC n) k=k:=by
 unfold bp
 rw[xG]
 split
 ·rename_i i h
  split at h<;>simp at h
  omega
 ·rfl
mutual
theorem tu {ρ:Nat->Nat} (h:∀k,ρ k=k):∀p,aB ρ p=p
 | .rs k _ _ _ _ _ _=>by simp[aB,h]
 | .pt k _ _=>by simp[aB,h]
 | .st _ l=>by simp[aB,jy h l]
 | .ar _ _ l=>by simp[aB,jy h l]
 | .tup l=>by simp[aB,jy h l]
 | .sl _ l _=>by simp[aB,jy h l]
 | .fp _ l _=>by simp[aB,jy h l]
 | .fn _ x y=>by simp[aB,jy h x,jy h y]
 | .gd _ p=>by simp[aB,tu h p]
 | .ifc _ p=>by simp[aB,tu h p]
 | .un| .bl _| .int .. | .str _| .np| .nf| .ni| .mp .. =>by simp[aB]
theorem jy {ρ:Nat->Nat} (h:∀k,ρ k=k):∀l,aD ρ l=l
 |[]=>rfl
 |p::l=>by simp[aD,tu h p,jy h l]
end
theorem Hy {ρ:Nat->Nat} (h:∀k,ρ k=k) (b:bX):aE ρ b=b:=by
 cases b<;>simp[aE,tu h,jy h]
theorem sg {ρ:Nat->Nat} (h:∀k,ρ k=k) (l:List bX):l.map (aE ρ)=l:=by
 induction l<;>simp[Hy h, *]
theorem Jn {Γ0:Cx} {n:Nat} {cY:List bX} (h0:∀k blk,get Γ0.bx k=some blk->KB≤k∧k<KB+n) (hle:Le Γ0 Γ) (hg:getAll Γ.bx (eC n)=some cY):I2 Γ0 (Γ.call (eC n) cY) where
 cell b i c hb hn hc:=by
  have:=hle.heap b hb λh=>hn (.inl h)
  rw[show(Γ.call (eC n) cY).heap=Γ.heap from rfl,cell_of_heap this];exact hc
 own b hb ho:=by
  have hG:Γ.own b:=by
   rcases ho with ho|ho
   ·obtain⟨i,k,h1,h2⟩:=(Cx.kQ hg).1 ho
    obtain⟨_,da⟩:=fA hg
    obtain⟨b',g1,_⟩:=da i k h1
    exact .inl ⟨k,b',g1,h2⟩
   ·exact ho.1
  exact hle.own b hb hG
 size:=hle.size
 ref k blk hk:=by
  obtain⟨h1,h2⟩:=h0 k blk hk
  obtain⟨cI,g1,g2,g3⟩:=hle.ref k blk hk
  have hs:=Cx.nj (Γ:=Γ) hg
  obtain⟨aiq,e1,e2,e3⟩:=hs.ref k cI (by rw[nW];simp[fj,h1,h2]) g1
  rw[nX]at e1 e3
  refine⟨aiq,e1,by omega,λht=> ?_⟩
  obtain⟨g4,g5⟩:=g3 (by omega)
  exact⟨by rw[e3,g4],g5⟩
end Go.Ab
namespace Go.Ab
variable [eJ]
variable {P:Program} {nt:Nat} {ds:List Deferred} {s:St} {Γ:Cx} {a:Act} {w:World}
theorem aG.Y7 {Δ:Cx}:∀ {l:List PV} {cs:List Value},aG Γ l cs->l.all PV.isNum=true->aG Δ l cs
 |_,_,.nil,_=> .nil
 |_,_,.int k n h,hn=> .int k n (aG.Y7 h (by simpa[PV.isNum]using hn))
 |_,_,.un _ _,hn=>by simp[PV.isNum]at hn
 |_,_,.bl _ _,hn=>by simp[PV.isNum]at hn
 |_,_,.str _ _ _ _,hn=>by simp[PV.isNum]at hn
 |_,_,.st _ _ _ _ _,hn=>by simp[PV.isNum]at hn
 |_,_,.ar _ _ _ _ _ _ _,hn=>by simp[PV.isNum]at hn
 |_,_,.sl _ _ _ _ _ _ _ _ _ _ _,hn=>by simp[PV.isNum]at hn
 |_,_,.rs _ _ _ _ _ _ _ _ _ _ _ _ _,hn=>by simp[PV.isNum]at hn
 |_,_,.np _,hn=>by simp[PV.isNum]at hn
 |_,_,.pt _ _ _ _ _ _ _ _ _,hn=>by simp[PV.isNum]at hn
 |_,_,.fp _ _ _ _ _ _ _ _ _ _,hn=>by simp[PV.isNum]at hn
 |_,_,.fn _ _ _ _ _ _ _ _,hn=>by simp[PV.isNum]at hn
 |_,_,.nf _,hn=>by simp[PV.isNum]at hn
 |_,_,.ifc _ _ _ _ _,hn=>by simp[PV.isNum]at hn
 |_,_,.ni _,hn=>by simp[PV.isNum]at hn
 |_,_,.mp _ _ _,hn=>by simp[PV.isNum]at hn
def Cx.lit (Γ:Cx) (b:Nat) (o:Obj) (k:Nat) (blk:bX):Cx:=
 {heap:=Γ.heap.setIfInBounds b o,ι:=λi=>if i=k then none else Γ.ι i,bx:=put Γ.bx k blk,ed:=Γ.ed}
theorem Bf (hm:Mem Γ) {k b:Nat} {blk cI:bX} {o o':Obj} (hg:get Γ.bx k=some blk) (hb:Γ.ι k=some b) (ho:Γ.heap[b]? =some o) (ht:blk.aQ<cI.aQ):Le Γ (Γ.lit b o' k cI) where
 heap b' yX bS:=by
  have:b≠b':=by intro h;subst h;exact bS ⟨k,blk,hg,hb⟩
  simp only[Cx.lit]
  rw[Array.getElem?_setIfInBounds_ne this]
 hO b' yX h:=by
  obtain⟨i,bl,Vy,hi⟩:=h
  simp only[Cx.lit,gL]at Vy hi
  by_cases ir:k=i
  ·subst ir;simp at hi
  ·rw[if_neg ir]at Vy
   rw[if_neg (λe=>ir e.symm)]at hi
   exact⟨i,bl,Vy,hi⟩
 ed:=rfl
 size:=by simp[Cx.lit]
 ref i bl h:=by
  by_cases ir:k=i
  ·subst ir
   rw[hg]at h;cases h
   exact⟨cI,by simp[Cx.lit,dw],by omega,λe=>by omega⟩
  ·refine⟨bl,by simp only[Cx.lit];rw[cP _ _ _ _ ir];exact h,Nat.le_refl _,λ_=>⟨by simp only[Cx.lit];rw[if_neg (λe=>ir e.symm)],λb2 pg cs e hc=>⟨cs,?_,rfl⟩⟩⟩
   have bS:b≠b2:=by
    intro h';subst h'
    exact ir (hm.inj k i b (by rw[hg];rfl) (by rw[h];rfl) hb pg)
   simp only[Cx.lit]
   rw[Array.getElem?_setIfInBounds_ne bS];exact hc
theorem Na (hm:Mem Γ) {k b:Nat} {blk cI:bX} {o o':Obj} (hg:get Γ.bx k=some blk) (hb:Γ.ι k=some b) (ho:Γ.heap[b]? =some o) (ht:blk.aQ<cI.aQ) (hr:cI.vE (Γ.lit b o' k cI) none):Mem (Γ.lit b o' k cI) where
 blk i bl h:=by
  by_cases ir:k=i
  ·subst ir
   simp only[Cx.lit,dw,sJ]at h
   subst h
   have:(Γ.lit b o' k cI).ι k=none:=by simp[Cx.lit]
   rw[this];exact hr
  ·simp only[Cx.lit]at h
   rw[cP _ _ _ _ ir]at h
   have h2:=hm.blk i bl h
   have hi:(Γ.lit b o' k cI).ι i=Γ.ι i:=by simp only[Cx.lit];rw[if_neg (λe=>ir e.symm)]
   rw[hi]
   exact h2.mono (Bf hm hg hb ho ht) (λb2 pg=>by
    have bS:b≠b2:=by
     intro h';subst h'
     exact ir (hm.inj k i b (by simp[hg]) (by simp[h]) hb pg)
    simp only[Cx.lit];rw[Array.getElem?_setIfInBounds_ne bS])
 inj i j b2 hi hj h1 h2:=by
  simp only[Cx.lit]at h1 h2
  have Cp:¬i=k:=by intro e;rw[if_pos e]at h1;cases h1
  have hkj:¬j=k:=by intro e;rw[if_pos e]at h2;cases h2
  rw[if_neg Cp]at h1
  rw[if_neg hkj]at h2
  refine hm.inj i j b2 ?_ ?_ h1 h2
  ·simp only[Cx.lit]at hi;rwa [cP _ _ _ _ (λe=>Cp e.symm)]at hi
  ·simp only[Cx.lit]at hj;rwa [cP _ _ _ _ (λe=>hkj e.symm)]at hj
 ed b2 h:=by have:=hm.ed b2 h;simpa[Cx.lit]using this
 apart b2 h hp:=hm.apart b2 ((Bf hm (o':=o') hg hb ho ht).hO b2 (hm.ed b2 hp) h) hp
 te:=hm.lF (Bf hm hg hb ho ht)
theorem wz (w:World) (t e e':TypeId) (C:Array Value) (b n c:Nat) (ht:P.underlying t=some (.slice e)) (he:P.underlying e=some (.int .u8)) (hb:w.heap[b]? =some (.cells C e' (0,0))):
  (convert t t (.slice (some ⟨b,0,none⟩) n c)).run P w= .ok (.slice (some ⟨b,0,none⟩) n c) {w with heap:=w.heap.setIfInBounds b (.cells C e' (C.size,C.size+1))}:=by
 have ze:w.shape? b=some (e',C.size):=by unfold World.shape?;rw[hb]
 have nP:w.freeze ⟨b,C.size,none⟩ 1= {w with heap:=w.heap.setIfInBounds b (.cells C e' (C.size,C.size+1))}:=by
  unfold World.freeze
  rw[if_neg (by decide)]
  have:∀f:Obj->Obj,w.heap.modify b f=w.heap.setIfInBounds b (f (.cells C e' (0,0))):=by
   intro f
   apply Array.ext_getElem?
   intro i
   rw[Array.getElem?_modify,Array.getElem?_setIfInBounds]
   by_cases h:b=i
   ·subst h
    rw[hb];simp[db hb]
   ·simp[h]
  rw[this]
  rfl
 simp[convert,run_underlying ht,run_underlying he,markStringish,ze,nP]
theorem Hz {o:Oper} {t e:TypeId} {x:Operand} {x':AX} {K:St->Prop} (ho:o.op= .convert t t x) (h1:P.underlying t=some (.slice e)) (h3:P.underlying e=some (.int .u8))
  (hx:iW x=some x') (hs:gK nt ds s Γ a) (hw:w.heap=Γ.heap) (hd:∀k,o.dst=some k->k<nt) (he:ex s o.dst (.convL x') K):kr P nt ds o a w Γ K:=by
 simp only[ex]at he
 obtain⟨p,hp,hr⟩:=cW hx hs rfl he
 cases p<;>simp only at hp<;>first|exact hp.elim|skip
 rename_i k pth off len aQ sz c
 split at hp
 ·rename_i dR l hg
  obtain⟨⟨rfl,rfl,rfl,rfl,rfl,rfl,rfl,bS,FH⟩,hK⟩:=hp
  rw[←hs.bx]at hg
  obtain⟨ad,bC,hv,eE⟩:=hr.rs hg rfl
  have IB:=hs.mem.blk _ _ hg
  unfold iT at eE
  have hlen:0<l.length:=by cases l<;>simp at bS⊢
  cases hι:Γ.ι k with
  |none=>rw[hι]at eE;simp only at eE;omega
  |
   some b=>
   rw[hι]at eE
   simp only at eE
   obtain⟨PN,had,_,air⟩:=eE
   obtain⟨_,Hb,e0,alG,Cc⟩:=air trivial
   have ais:ad=some ⟨b,0,none⟩:=by
    rcases had with h|h
    ·omega
    ·simpa[du]using h
   subst ais
   simp only[bX.vE,hι]at IB
   obtain⟨acV,_,C,e1,cs,rest,hC,vB,FI,_⟩:=IB
   have Cq:w.heap[b]? =some (.cells C e1 (0,0)):=by rw[hw];exact hC
   have ht:(bX.arr 1 l).aQ<(bX.arr 1 (l++[.int .u8 0])).aQ:=by simp[bX.aQ]
   have iO:(execOp a.eval o).run P w= .ok (.value (.slice (some ⟨b,0,none⟩) l.length bC)) {w with heap:=w.heap.setIfInBounds b (.cells C e1 (C.size,C.size+1))}:=by
    have e2:execOp a.eval o=(do Pure.pure (Next.value (←convert t t (a.eval x)))):=by unfold execOp;rw[ho]
    rw[e2,bJ,hv,wz w t e e1 C b l.length bC h1 h3 Cq];rfl
   have hle:=Bf hs.mem (o':= .cells C e1 (C.size,C.size+1)) hg hι hC ht
   have iV:=Na hs.mem (o':= .cells C e1 (C.size,C.size+1)) hg hι hC ht ⟨by
    intro y hy
    rcases List.mem_append.1 hy with h|h
    ·exact acV y h
    ·simp at h;subst h;rfl,by omega,trivial⟩
   have g1:=hs.le hle iV (uq:=put s.bx k (.arr 1 (l++[.int .u8 0]))) (by simp[Cx.lit,hs.bx])
   have acW:¬(Γ.lit b (.cells C e1 (C.size,C.size+1)) k (.arr 1 (l++[.int .u8 0]))).own b:=by
    rintro(⟨i,bl,q1,q2⟩|q)
    ·simp only[Cx.lit]at q1 q2
     by_cases ir:i=k
     ·rw[if_pos ir]at q2;cases q2
     ·rw[if_neg ir]at q2
      rw[cP _ _ _ _ (λe=>ir e.symm)]at q1
      exact ir (hs.mem.inj i k b (by simp[q1]) (by simp[hg]) q2 hι)
    ·exact hs.mem.apart b ⟨k,_,hg,hι⟩ q
   have qf:aO (Γ.lit b (.cells C e1 (C.size,C.size+1)) k (.arr 1 (l++[.int .u8 0]))) (.sl 1 l false) (.slice (some ⟨b,0,none⟩) l.length bC):=by
    simp only[aO]
    refine .sl 1 l false _ bC (FI.Y7 FH) acV PN (by simp) (λ_=>⟨b,0,rfl,by simp[Cx.lit];exact db hC,acW,λi c hc=> ?_⟩) .nil
    simp only[cell,Cx.lit,Nat.zero_add]
    rw[uJ (db hC)]
    simp only
    rw[←Array.getElem?_toList,vB,List.getElem?_append_left (List.getElem?_eq_some_iff.1 hc).1]
    exact hc
   have g2:=g1.put hd qf
   refine⟨_,_,_,_,_,iO,.inl rfl,g2,by simp[Cx.lit,hw],hle,⟨rfl,rfl,rfl⟩,hK⟩
 ·exact hp.elim
end Go.Ab
namespace Go.Ab
variable [eJ]
variable {P:Program} {nt:Nat} {ds:List Deferred} {s:St} {Γ:Cx} {a:Act} {w:World}
theorem CD {o:Oper} {t u e:TypeId} {kn:IntKind} {i:TypeInfo} {z:Value} {zz:PV} {x y:Operand} {x' y':AX} {K:St->Prop} (ho:o.op= .call {callee:= .builtin .append,args:= #[x,y],argTypes:= #[t,u]})
  (ht:P.underlying t=some (.slice e)) (hu:P.underlying u=some (.int kn)) (hi:P.info? e=some i) (hz:i.zero=some z) (PO:zeroOf P e=some zz) (Sc:z.cells.size=i.size) (gF:0<i.size) (VB:z.cells.toList.all fN=true)
  (hx:iW x=some x') (hy:iW y=some y') (hs:gK nt ds s Γ a) (hw:w.heap=Γ.heap) (hd:∀k,o.dst=some k->k<nt) (he:ex s o.dst (.appendZ i.size i.bytes zz x' y') K):kr P nt ds o a w Γ K:=by
 simp only[ex]at he
 obtain⟨p,hp,rM⟩:=cW hx hs rfl he
 obtain⟨q,hq,mQ⟩:=cW hy hs rfl hp
 obtain⟨kv,m,hm,hA⟩:=fX hq mQ
 obtain⟨zv,MT,Sb,yY,_,alH⟩:=kK (Γ:=Γ) PO
 have PI:zz.width=i.size:=by rw[uD hi]at yY;exact(Option.some.inj yY).symm
 have ait:zv=z:=by
  have h1:=MT w
  simp only[zeroValue,typeInfo,bJ]at h1
  simp[hi,hz]at h1
  exact h1.symm
 subst ait
 unfold ny at hA
 split at hA
 ·exact hA.elim
 rename_i k hk
 split at hA
 case h_2=>exact hA.elim
 rename_i k2 len aQ dR n
 split at hA
 case h_2=>exact hA.elim
 rename_i sz'' l hg
 obtain⟨⟨jn,h1,h2,h3,hln,ail,LZ,dG,h5,h6⟩,hK⟩:=hA
 subst h1 h2 h3
 have ko:=hg
 rw[←hs.bx]at ko
 obtain⟨ad,bC,hv,eE⟩:=rM.rs ko rfl
 obtain⟨lx,_,kl⟩:=hs.mem.blk k2 _ ko
 have YH:∀x∈l.take len,x.width=i.size:=λx hx=>lx x (List.mem_of_mem_take hx)
 have DS:(l.take len).length=len:=by rw[lJ];omega
 have Ej:bC=n:=by
  unfold iT at eE
  split at eE
  ·exact eE.2.2
  ·exact eE.2.2.1
 subst Ej
 obtain⟨mn,rfl⟩:∃mn:Nat,m=mn:=⟨m.toNat,by omega⟩
 simp only[Int.toNat_natCast]at dG h5 h6 hK
 --the old cells
 obtain⟨cs,AT,kF⟩:∃cs,aG Γ (l.take len) cs∧(0<len->∃b o,ad=some ⟨b,o,none⟩∧∀j x,cs[j]? =some x->cell Γ.heap b (o+j)=some x):=by
  unfold iT at eE
  cases hι:Γ.ι k2 with
  |
   none=>
   rw[hι]at eE
   obtain⟨rfl,_,_⟩:=eE
   exact⟨[],by simpa using aG.nil,by simp⟩
  |
   some b=>
   rw[hι]at eE kl
   obtain⟨o1,o2,_,_⟩:=eE
   obtain⟨c,ce,cs,rest,h7,h8,h9,D9⟩:=kl
   refine⟨cs.take (len*i.size),h9.CB lx len (by omega),λhp=> ?_⟩
   rcases o2 with o2|rfl
   ·omega
   refine⟨b,_,rfl,λj x hj=> ?_⟩
   have hb:=kO h7 cs rest h8
   have zQ:cs[j]? =some x:=by
    rw[List.getElem?_take]at hj;split at hj
    ·exact hj
    ·cases hj
   simpa[du]using hb j x zQ
 have rN:cs.length=len*i.size:=by rw[AT.length,b8 YH,DS]
 obtain⟨w',cap,r1,r2,r3,r4⟩:=uF (P:=P) (w:=w) (ty:=o.type) (kv:=kv) ht hu hi hz (ad:=ad) (sLen:=len) (sCap:=bC) (n:=mn) (olds:=cs)
  (.inl ⟨ad,bC,rfl,λgF=>by rw[hw];exact kF (by omega)⟩) rN (by omega) gF dG h6 h5
 rw[←hv,←hm]at r1
 have hzl:(Builtin.zeroCells zv.cells mn).toList=(List.replicate mn zv.cells.toList).flatten:=by
  have:=kH zv.cells mn
  simpa[Builtin.zeroCells]using this
 have hrz:=ja Sb mn
 rw[←hzl]at hrz
 exact nz (cap:=cap) (l:=l.take len++List.replicate mn zz) (cs:=cs++(Builtin.zeroCells zv.cells mn).toList) (rest:=(Builtin.zeroCells zv.cells (cap-(len+mn))).toList) hs hw hk (hd k hk) jn gF (AT.append hrz)
  (λx hx=>(List.mem_append.1 hx).elim (YH x) (λhx=>by rw[(List.mem_replicate.1 hx).2];exact PI))
  (by simp only[List.length_append,Array.length_toList,oI,Sc,rN,←Nat.add_mul];congr 1;omega)
  (by rw[List.length_append,DS,List.length_replicate];exact r2) (rQ (by omega) VB)
  (by rw[List.length_append,DS,List.length_replicate];exact jU ho r1) r3 r4
  (by rw[List.length_append,DS,List.length_replicate];exact hK)
end Go.Ab
