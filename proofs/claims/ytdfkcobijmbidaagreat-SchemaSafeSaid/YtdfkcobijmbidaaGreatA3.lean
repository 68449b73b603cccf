/- Each acting operation and each call does what its abstract reading says. No condition. -/
import Derived.Test.YtdfkcobijmbidaaGreatA2
import Derived.Laws.Append
import Derived.Laws.IdiomStrings
import Derived.OrdersIn
import Derived.RangeFuncSeq
import Derived.RangeFuncLeaves
import Derived.RangeFuncRecord
set_option linter.all false
namespace Go.Ab
variable [eg]
variable {P:Program} {nt:Nat} {ds:List Deferred} {s:St} {Γ:Cx} {a:Act} {w:World}
structure WF (w w':World):Prop where
 os:w'.os=w.os
 tape:w'.tape=w.tape
 output:w'.output=w.output
theorem WF.refl (w:World):WF w w:=⟨rfl,rfl,rfl⟩
theorem WF.trans {a b c:World} (h:WF a b) (k:WF b c):WF a c:=⟨k.os.trans h.os,k.tape.trans h.tape,k.output.trans h.output⟩
theorem aN.nc {Γ Γ':Cx} (hle:Lf Γ Γ'):∀ {p:PV} {v:Value},aN Γ p v->aN Γ' p v:=by
 have h1:∀ {p:PV} {v:Value},je Γ p v->je Γ' p v:=by
  intro p v h
  cases p
  case un=>trivial
  case st w l=>obtain⟨cs,h1,h2⟩:=h;exact⟨cs,h1,h2.nc hle⟩
  case ar sz n l=>obtain⟨cs,h1,h2⟩:=h;exact⟨cs,h1,h2.nc hle⟩
  all_goals exact aD.nc hle h
 have h2:∀ {l:List PV} {vs:List Value},jY Γ l vs->jY Γ' l vs:=by
  intro l
  induction l with
  |nil=>intro vs h;cases vs<;>simp_all [jY]
  |
   cons p l ih=>
   intro vs h
   cases vs with
   |nil=>simp[jY]at h
   |cons v vs=>simp only[jY]at h⊢;exact⟨h1 h.1,ih h.2⟩
 intro p
 induction p using PV.rec (motive_2:=λ_=>True)with
 |gd b p ih=>intro v h;rw[aN]at h⊢;exact⟨λhb=>ih (h.1 hb),h.2⟩
 |tup l=>intro v h;simp only[aN]at h⊢;obtain⟨vs,e,h⟩:=h;exact⟨vs,e,h2 h⟩
 |un=>intro v h;simp[aN]
 |st w l=>intro v h;obtain⟨cs,e,h⟩:=h;exact⟨cs,e,h.nc hle⟩
 |ar sz n l=>intro v h;obtain⟨cs,e,h⟩:=h;exact⟨cs,e,h.nc hle⟩
 |nil=>trivial
 |cons=>trivial
 |_=>intro v h;exact aD.nc hle h
theorem a9.vB.nc {Γ Γ':Cx} (hle:Lf Γ Γ') {ob:Option Nat} {blk:a9} (hh:∀b,ob=some b->Γ'.heap[b]? =Γ.heap[b]?) (h:blk.vB Γ ob):blk.vB Γ' ob:=by
 cases blk with
 |
  box v=>
  obtain⟨b,c,e,h1,h2,h3⟩:=h
  exact⟨b,c,e,h1,by rw[hh b h1];exact h2,h3.nc hle⟩
 |
  arr sz l=>
  obtain⟨h1,h2,h3⟩:=h
  refine⟨h1,h2,?_⟩
  cases ob with
  |none=>exact h3
  |
   some b=>
   obtain⟨c,e,cs,rest,h4,h5,h6,h7⟩:=h3
   exact⟨c,e,cs,rest,by rw[hh b rfl];exact h4,h5,h6.nc hle,h7⟩
 |
  map b ks vs l=>
  obtain⟨h1,h2⟩:=h
  exact⟨h1,by rw[hh b h1];exact h2⟩
theorem aN.mono {Γ Γ':Cx} (hle:Le Γ Γ') {p:PV} {v:Value} (h:aN Γ p v):aN Γ' p v:=h.nc hle.c
theorem a9.vB.mono {Γ Γ':Cx} (hle:Le Γ Γ') {ob:Option Nat} {blk:a9} (hh:∀b,ob=some b->Γ'.heap[b]? =Γ.heap[b]?) (h:blk.vB Γ ob):blk.vB Γ' ob:=h.nc hle.c hh
theorem cX {h:Array Obj} {b:Nat} {o:Obj} (e:h[b]? =some o):b<h.size:=(Array.getElem?_eq_some_iff.1 e).1
theorem a9.vB.lt {blk:a9} {b:Nat} (h:blk.vB Γ (some b)):b<Γ.heap.size:=by
 cases blk with
 |box v=>obtain⟨b',c,e,h1,h2,h3⟩:=h;cases h1;exact cX h2
 |arr sz l=>obtain⟨_,_,c,e,cs,rest,h4,_⟩:=h;exact cX h4
 |map b0 ks vs l=>obtain⟨h1,es,clock,h2,_⟩:=h;cases h1;exact cX h2
theorem Mem.lt (hm:Mem Γ) {b:Nat} (h:Γ.il b):b<Γ.heap.size:=by
 obtain⟨k,blk,hg,hb⟩:=h
 have:=hm.blk k blk hg
 rw[hb]at this
 exact this.lt
theorem Mem.xb (hm:Mem Γ):¬Γ.own Γ.heap.size:=by
 rintro(h|h)
 ·exact Nat.lt_irrefl _ (hm.lt h)
 ·exact Nat.lt_irrefl _ (hm.ef _ h)
def Cx.push (Γ:Cx) (o:Obj):Cx:= {Γ with heap:=Γ.heap.push o}
def Cx.ext (Γ:Cx) (o:Obj) (k:Nat) (blk:a9):Cx:=
 {heap:=Γ.heap.push o,ι:=λi=>if i=k then some Γ.heap.size else Γ.ι i,bx:=put Γ.bx k blk,ef:=Γ.ef}
def Cx.lF (Γ:Cx) (k:Nat) (blk:a9):Cx:=
 {Γ with ι:=λi=>if i=k then none else Γ.ι i,bx:=put Γ.bx k blk}
theorem lK (h:Array Obj) (o:Obj) {b:Nat} (hb:b<h.size):(h.push o)[b]? =h[b]? :=by
 rw[Array.getElem?_push,if_neg (by omega)]
theorem qi (Γ:Cx) (o:Obj):Le Γ (Γ.push o) where
 heap b hb _:=lK _ _ hb
 il b _ h:=h
 ef:=rfl
 size:=by simp[Cx.push]
 ref k blk h:=⟨blk,h,Nat.le_refl _,λ_=>⟨rfl,λb _ cs e hc=>⟨cs,by rw[←hc];exact lK _ _ (cX hc),rfl⟩⟩⟩
theorem yZ (Γ:Cx) (o:Obj) {k:Nat} (blk:a9) (hk:get Γ.bx k=none):Le Γ (Γ.ext o k blk) where
 heap b hb _:=lK _ _ hb
 il b hb h:=by
  obtain⟨i,bl,hg,hi⟩:=h
  simp only[Cx.ext]at hg hi
  by_cases iK:i=k
  ·subst iK;simp at hi;omega
  ·rw[if_neg iK]at hi
   rw[cH _ _ _ _ (λh=>iK h.symm)]at hg
   exact⟨i,bl,hg,hi⟩
 ef:=rfl
 size:=by simp[Cx.ext]
 ref i bl h:=by
  have iK:i≠k:=by intro h';subst h';rw[hk]at h;simp at h
  refine⟨bl,by simp only[Cx.ext];rw[cH _ _ _ _ (λh=>iK h.symm)];exact h,Nat.le_refl _,λ_=>⟨by simp[Cx.ext,iK],λb _ cs e hc=>⟨cs,by rw[←hc];exact lK _ _ (cX hc),rfl⟩⟩⟩
theorem rV (Γ:Cx) {k:Nat} (blk:a9) (hk:get Γ.bx k=none):Le Γ (Γ.lF k blk) where
 heap b hb _:=rfl
 il b hb h:=by
  obtain⟨i,bl,hg,hi⟩:=h
  simp only[Cx.lF]at hg hi
  by_cases iK:i=k
  ·subst iK;simp at hi
  ·rw[if_neg iK]at hi
   rw[cH _ _ _ _ (λh=>iK h.symm)]at hg
   exact⟨i,bl,hg,hi⟩
 ef:=rfl
 size:=Nat.le_refl _
 ref i bl h:=by
  have iK:i≠k:=by intro h';subst h';rw[hk]at h;simp at h
  exact⟨bl,by simp only[Cx.lF];rw[cH _ _ _ _ (λh=>iK h.symm)];exact h,Nat.le_refl _,λ_=>⟨by simp[Cx.lF,iK],λb _ cs e hc=>⟨cs,hc,rfl⟩⟩⟩
theorem Mem.mh {Γ Γ':Cx} (hm:Mem Γ) (hl:Le Γ Γ') (b:Nat) (cs:Array Value) (h:eg.xC b=some cs):¬Γ'.il b∧∃e x,Γ'.heap[b]? =some (.cells cs e x):=by
 obtain⟨h1,e,x,h2⟩:=hm.xC b cs h
 refine⟨λhb=>h1 (hl.il b (cX h2) hb),e,x,?_⟩
 rw[hl.heap b (cX h2) h1];exact h2
theorem mem_push (hm:Mem Γ) (o:Obj):Mem (Γ.push o) where
 blk k blk h:=by
  have:=hm.blk k blk h
  exact this.mono (qi Γ o) (λb hb=>by
   rw[show(Γ.push o).ι k=Γ.ι k from rfl]at hb
   rw[hb]at this;exact lK _ _ this.lt)
 inj:=hm.inj
 ef b h:=by have:=hm.ef b h;simp only[Cx.push,Array.size_push];omega
 apart:=hm.apart
 xC:=hm.mh (qi Γ o)
theorem HZ (hm:Mem Γ) {o:Obj} {k:Nat} {blk:a9} (hk:get Γ.bx k=none) (hr:blk.vB (Γ.ext o k blk) (some Γ.heap.size)):Mem (Γ.ext o k blk) where
 blk i bl h:=by
  by_cases iK:i=k
  ·subst iK
   simp only[Cx.ext,dj,sJ]at h
   subst h
   have:(Γ.ext o i blk).ι i=some Γ.heap.size:=by simp[Cx.ext]
   rw[this];exact hr
  ·simp only[Cx.ext]at h
   rw[cH _ _ _ _ (λh=>iK h.symm)]at h
   have:=hm.blk i bl h
   have e:(Γ.ext o k blk).ι i=Γ.ι i:=by simp[Cx.ext,iK]
   rw[e]
   exact this.mono (yZ Γ o blk hk) (λb hb=>by rw[hb]at this;exact lK _ _ this.lt)
 inj i j b hi hj h1 h2:=by
  simp only[Cx.ext,fg]at hi hj h1 h2
  by_cases iK:i=k<;>by_cases sY:j=k
  ·rw[iK,sY]
  ·rw[if_pos iK]at h1
   rw[if_neg sY]at h2
   rw[if_neg (λh=>sY h.symm)]at hj
   obtain⟨bl,HP⟩:=Option.isSome_iff_exists.1 hj
   have:=hm.lt ⟨j,bl,HP,h2⟩
   simp at h1;omega
  ·rw[if_neg iK]at h1
   rw[if_pos sY]at h2
   rw[if_neg (λh=>iK h.symm)]at hi
   obtain⟨bl,HP⟩:=Option.isSome_iff_exists.1 hi
   have:=hm.lt ⟨i,bl,HP,h1⟩
   simp at h2;omega
  ·rw[if_neg iK]at h1
   rw[if_neg sY]at h2
   rw[if_neg (λh=>iK h.symm)]at hi
   rw[if_neg (λh=>sY h.symm)]at hj
   exact hm.inj i j b hi hj h1 h2
 ef b h:=by have:=hm.ef b h;simp only[Cx.ext,Array.size_push];omega
 apart b h hp:=by
  have fZ:=hm.ef b hp
  exact hm.apart b ((yZ Γ o blk hk).il b fZ h) hp
 xC:=hm.mh (yZ Γ o blk hk)
theorem y0 (hm:Mem Γ) {k:Nat} {blk:a9} (hk:get Γ.bx k=none) (hr:blk.vB (Γ.lF k blk) none):Mem (Γ.lF k blk) where
 blk i bl h:=by
  by_cases iK:i=k
  ·subst iK
   simp only[Cx.lF,dj,sJ]at h
   subst h
   have:(Γ.lF i blk).ι i=none:=by simp[Cx.lF]
   rw[this];exact hr
  ·simp only[Cx.lF]at h
   rw[cH _ _ _ _ (λh=>iK h.symm)]at h
   have:=hm.blk i bl h
   have e:(Γ.lF k blk).ι i=Γ.ι i:=by simp[Cx.lF,iK]
   rw[e]
   exact this.mono (rV Γ blk hk) (λb hb=>rfl)
 inj i j b hi hj h1 h2:=by
  simp only[Cx.lF,fg]at hi hj h1 h2
  by_cases iK:i=k
  ·rw[if_pos iK]at h1;simp at h1
  ·by_cases sY:j=k
   ·rw[if_pos sY]at h2;simp at h2
   ·rw[if_neg iK]at h1
    rw[if_neg sY]at h2
    rw[if_neg (λh=>iK h.symm)]at hi
    rw[if_neg (λh=>sY h.symm)]at hj
    exact hm.inj i j b hi hj h1 h2
 ef b h:=hm.ef b h
 apart b h hp:=by
  have fZ:=hm.ef b hp
  exact hm.apart b ((rV Γ blk hk).il b fZ h) hp
 xC:=hm.mh (rV Γ blk hk)
def Cx.jP (Γ:Cx) (b:Nat) (o:Obj) (k:Nat) (blk:a9):Cx:=
 {Γ with heap:=Γ.heap.setIfInBounds b o,bx:=put Γ.bx k blk}
theorem lL {k b:Nat} {blk cB:a9} {c c':Array Value} {e:TypeId} (hg:get Γ.bx k=some blk) (hb:Γ.ι k=some b) (hc:Γ.heap[b]? =some (.cells c e (0,0))) (hs:c'.size=c.size) (ht:blk.aC≤cB.aC):
  Le Γ (Γ.jP b (.cells c' e (0,0)) k cB) where
 heap b' re fc:=by
  have:b≠b':=by intro h;subst h;exact fc ⟨k,blk,hg,hb⟩
  simp only[Cx.jP]
  rw[Array.getElem?_setIfInBounds_ne this]
 il b' re h:=by
  obtain⟨i,bl,YR,hi⟩:=h
  simp only[Cx.jP,fg]at YR hi
  by_cases iK:k=i
  ·subst iK;exact⟨k,blk,hg,hi⟩
  ·rw[if_neg iK]at YR;exact⟨i,bl,YR,hi⟩
 ef:=rfl
 size:=by simp[Cx.jP]
 ref i bl h:=by
  have keep:∀b2,Γ.ι i=some b2->∀cs e',Γ.heap[b2]? =some (.cells cs e' (0,0))->∃CC,(Γ.jP b (.cells c' e (0,0)) k cB).heap[b2]? =some (.cells CC e' (0,0))∧CC.size=cs.size:=by
   intro b2 D9 cs e' A8
   by_cases hbb:b=b2
   ·subst hbb
    rw[hc]at A8
    simp only[sJ,Obj.cells.injEq]at A8
    obtain⟨rfl,rfl,_⟩:=A8
    exact⟨c',by simp only[Cx.jP];rw[uJ (cX hc)],hs⟩
   ·exact⟨cs,by simp only[Cx.jP];rw[Array.getElem?_setIfInBounds_ne hbb];exact A8,rfl⟩
  by_cases iK:k=i
  ·subst iK
   rw[hg]at h;cases h
   exact⟨cB,by simp[Cx.jP,dj],ht,λ_=>⟨rfl,keep⟩⟩
  ·exact⟨bl,by simp only[Cx.jP];rw[cH _ _ _ _ iK];exact h,Nat.le_refl _,λ_=>⟨rfl,keep⟩⟩
theorem nv (hm:Mem Γ) {k b:Nat} {blk cB:a9} {c c':Array Value} {e:TypeId} (hg:get Γ.bx k=some blk) (hb:Γ.ι k=some b) (hc:Γ.heap[b]? =some (.cells c e (0,0))) (hs:c'.size=c.size) (ht:blk.aC≤cB.aC)
  (hr:cB.vB (Γ.jP b (.cells c' e (0,0)) k cB) (some b)):Mem (Γ.jP b (.cells c' e (0,0)) k cB) where
 blk i bl h:=by
  by_cases iK:k=i
  ·subst iK
   simp only[Cx.jP,dj,sJ]at h
   subst h
   have:(Γ.jP b (.cells c' e (0,0)) k cB).ι k=some b:=hb
   rw[this];exact hr
  ·simp only[Cx.jP]at h
   rw[cH _ _ _ _ iK]at h
   have:=hm.blk i bl h
   exact this.mono (lL hg hb hc hs ht) (λb2 D9=>by
    have fc:b≠b2:=by
     intro h';subst h'
     exact iK (hm.inj k i b (by simp[hg]) (by simp[h]) hb D9)
    simp only[Cx.jP];rw[Array.getElem?_setIfInBounds_ne fc])
 inj i j b2 hi hj h1 h2:=by
  refine hm.inj i j b2 ?_ ?_ h1 h2
  ·simp only[Cx.jP,fg]at hi;split at hi
   ·subst_vars;simp[hg]
   ·exact hi
  ·simp only[Cx.jP,fg]at hj;split at hj
   ·subst_vars;simp[hg]
   ·exact hj
 ef b2 h:=by have:=hm.ef b2 h;simpa[Cx.jP]using this
 apart b2 h hp:=hm.apart b2 ((lL hg hb hc hs ht).il b2 (hm.ef b2 hp) h) hp
 xC:=hm.mh (lL hg hb hc hs ht)
end Go.Ab
namespace Go.Ab
variable [eg]
variable {P:Program} {nt:Nat} {ds:List Deferred} {s:St} {Γ:Cx} {a:Act} {w:World}
theorem Gs (v:Value):v.oneCell'=fY v:=by cases v<;>rfl
theorem CS {b o:Nat} {c:Array Value} {e:TypeId} {v:Value} (h:w.heap[b]? =some (.cells c e (0,0))):
  (w.setCell ⟨b,o,none⟩ v).heap=w.heap.setIfInBounds b (.cells (c.setIfInBounds o v) e (0,0)):=by
 have hb:=cX h
 have he:w.heap[b]= .cells c e (0,0):=(Array.getElem?_eq_some_iff.1 h).2
 simp only[World.setCell]
 apply Array.ext
 ·simp
 ·intro i h1 h2
  rw[Array.getElem_modify,Array.getElem_setIfInBounds]
  split
  ·subst_vars;simp[he]
  ·rfl
theorem WF.setCell (w:World) (ad:Addr) (v:Value):WF w (w.setCell ad v):=⟨rfl,rfl,rfl⟩
theorem CT {b o:Nat} {c:Array Value} {e:TypeId} {v:Value} (h:w.heap[b]? =some (.cells c e (0,0))) (ho:o<c.size) (hv:fY v=true):
  (store ⟨b,o,none⟩ v).run P w= .ok () (w.setCell ⟨b,o,none⟩ v):=by
 rw[run_store P w _ v _ (by rw[Gs];exact hv)]
 rw[cell?_eq]
 simp[cell,h,ho,World.frozen?]
theorem j3:∀(vs:List Value) (w:World) (b o i:Nat) (c:Array Value) (e:TypeId),w.heap[b]? =some (.cells c e (0,0))->o+i+vs.length≤c.size->(∀v∈vs,fY v=true)->
  ∃w',(storeCells ⟨b,o,none⟩ vs i).run P w= .ok () w'∧w'.heap=w.heap.setIfInBounds b (.cells (bN c.toList (o+i) vs).toArray e (0,0))∧WF w w'
 |
  [],w,b,o,i,c,e,h,hl,hv=>by
  refine⟨w,rfl,?_,WF.refl w⟩
  have:(bN c.toList (o+i) []).toArray=c:=by simp[bN]
  rw[this]
  have he:w.heap[b]? =some (.cells c e (0,0)):=h
  apply Array.ext
  ·simp
  ·intro j h1 h2
   rw[Array.getElem_setIfInBounds]
   split
   ·subst_vars;exact(Array.getElem?_eq_some_iff.1 he).2
   ·rfl
 |
  v::vs,w,b,o,i,c,e,h,hl,hv=>by
  simp only[List.length_cons]at hl
  have hb:=cX h
  have h1:=CT (P:=P) h (show o+i<c.size by omega) (hv v (by simp))
  have hh:=CS (v:=v) (o:=o+i) h
  have eH:(w.setCell ⟨b,o+i,none⟩ v).heap[b]? =some (.cells (c.setIfInBounds (o+i) v) e (0,0)):=by
   rw[hh,uJ hb]
  obtain⟨w',h2,h3,h4⟩:=j3 vs (w.setCell ⟨b,o+i,none⟩ v) b o (i+1) (c.setIfInBounds (o+i) v) e eH (by simp;omega) (λx hx=>hv x (by simp[hx]))
  refine⟨w',?_,?_,(WF.setCell w _ v).trans h4⟩
  ·simp only[storeCells,bJ,ji,h1,rJ]
   exact h2
  ·rw[h3,hh]
   have vE:bN (c.setIfInBounds (o+i) v).toList (o+(i+1)) vs=bN c.toList (o+i) (v::vs):=by
    rw[Array.toList_setIfInBounds]
    have fZ:o+i<c.toList.length:=by simp;omega
    obtain⟨A,x,B,hA,m8⟩:∃A x B,A.length=o+i∧c.toList=A++x::B:=
     ⟨c.toList.take (o+i),c.toList[o+i],c.toList.drop (o+i+1),by rw[lJ];omega,by rw[List.getElem_cons_drop,List.take_append_drop]⟩
    rw[m8,←hA,List.set_append_right (h:=Nat.le_refl _)]
    rw[show o+(i+1)=A.length+1 by omega]
    simp only[Nat.sub_self,List.set_cons_zero,bN,List.length_cons]
    have e1:(A++v::B).take (A.length+1)=A++[v]:=by rw[List.take_append,tJ (by omega)];simp
    have e2:(A++v::B).drop (A.length+1+vs.length)=B.drop vs.length:=by
     rw[List.drop_append,List.drop_eq_nil_of_le (by omega),show A.length+1+vs.length-A.length=vs.length+1 by omega];simp
    have e3:(A++x::B).drop (A.length+(vs.length+1))=B.drop vs.length:=by
     rw[←List.drop_drop];simp
    rw[e1,e2,e3]
    simp
   rw[vE]
   simp
theorem CU {t:TypeId} {b o n:Nat} {c:Array Value} {e:TypeId} {v:Value} (h:w.heap[b]? =some (.cells c e (0,0))) (hn:gx P t=some n) (hs:v.cells.size=n) (ho:o+n≤c.size) (hv:∀x∈v.cells.toList,fY x=true):
  ∃w',(storeVar t ⟨b,o,none⟩ v).run P w= .ok () w'∧w'.heap=w.heap.setIfInBounds b (.cells (bN c.toList o v.cells.toList).toArray e (0,0))∧WF w w':=by
 obtain⟨w',h1,h2,h3⟩:=j3 (P:=P) v.cells.toList w b o 0 c e h (by simp;omega) hv
 refine⟨w',?_,by simpa using h2,h3⟩
 simp only[storeVar,bJ,run_sizeOf hn,rJ]
 rw[if_neg (by simp[hs])]
 exact h1
def pB (w:World) (size n:Nat) (v:Value) (cs:List Value):Prop:=
 (∃ad rc,v= .slice ad n rc∧(0<n->∃b o,ad=some ⟨b,o,none⟩∧∀i c,cs[i]? =some c->cell w.heap b (o+i)=some c))∨
 (∃str,v= .string str∧n=str.size∧size=1∧cs=str.data.toList.map λb=> .int .u8 b.toNat)
theorem j4 {size n:Nat} {v:Value} {cs:List Value} (h:pB w size n v cs) (hl:cs.length=n*size):(Builtin.firstCells size n v).run P w= .ok cs.toArray w:=by
 rcases h with⟨ad,rc,rfl,h⟩|⟨str,rfl,rfl,rfl,rfl⟩
 ·cases ad with
  |
   none=>
   have:n=0:=by
    rcases Nat.eq_zero_or_pos n with h0|h0
    ·exact h0
    ·obtain⟨b,o,h1,_⟩:=h h0;simp at h1
   subst this
   have:cs=[]:=List.eq_nil_of_length_eq_zero (by simpa using hl)
   subst this;rfl
  |
   some ad=>
   simp only[Builtin.firstCells]
   rw[←hl]
   by_cases h0:0<n
   ·obtain⟨b,o,h1,h2⟩:=h h0
    simp only[sJ]at h1;subst h1
    exact run_loadCells_list w _ cs (λj v hj=>by rw[ji,cell?_eq];exact h2 j v hj)
   ·have:n=0:=by omega
    subst this
    have:cs=[]:=List.eq_nil_of_length_eq_zero (by simpa using hl)
    subst this;rfl
 ·simp only[Builtin.firstCells,Sem.run_pure]
  congr 1
  apply Array.ext'
  rw[Array.toList_map]
  congr 2
  have:str.extract 0 str.size=str:=by simp
  rw[this]
theorem pC {size n:Nat} {v:Value} {cs:List Value} (h:pB w size n v cs):(Builtin.lenOf v).run P w= .ok n w:=by
 rcases h with⟨ad,rc,rfl,_⟩|⟨str,rfl,rfl,_⟩<;>rfl
theorem pD (z:Array Value) (n:Nat):(Builtin.zeroCells z n).size=n*z.size:=by simp[Builtin.zeroCells]
theorem pE {t u e:TypeId} {d:TypeDesc} {i:TypeInfo} {ty:TypeId} (ht:P.underlying t=some (.slice e)) (hu:P.underlying u=some d) (hd:(∃x,d= .slice x)∨d= .string) (hi:P.info? e=some i)
  {b o sLen sCap n:Nat} {y:Value} {news:List Value} {c:Array Value} {ce:TypeId} (hy:pB w i.size n y news) (hl:news.length=n*i.size) (h1:∀v∈news,fY v=true) (sZ:sLen+n≤sCap)
  (hb:w.heap[b]? =some (.cells c ce (0,0))) (w7:o+sLen*i.size+n*i.size≤c.size):
  ∃
   w',(Builtin.append_ #[t,u] ty #[.slice (some ⟨b,o,none⟩) sLen sCap,y]).run P w= .ok (.slice (some ⟨b,o,none⟩) (sLen+n) sCap) w'∧
   w'.heap=w.heap.setIfInBounds b (.cells (bN c.toList (o+sLen*i.size) news).toArray ce (0,0))∧WF w w':=by
 obtain⟨w',g1,g2,g3⟩:=j3 (P:=P) news w b (o+sLen*i.size) 0 c ce hb (by omega) h1
 refine⟨w',?_,by simpa using g2,g3⟩
 have hf:=j4 (P:=P) hy hl
 have hlen:=pC (P:=P) hy
 rcases hd with⟨x,rfl⟩|rfl
 ·simp[Builtin.append_,run_underlying ht,run_underlying hu,sizeOf,typeInfo,hi,hlen,sZ,hf,ji,g1]
 ·simp[Builtin.append_,run_underlying ht,run_underlying hu,sizeOf,typeInfo,hi,hlen,sZ,hf,ji,g1]
theorem mi {t u e:TypeId} {d:TypeDesc} {i:TypeInfo} {ty:TypeId} (ht:P.underlying t=some (.slice e)) (hu:P.underlying u=some d) (hd:(∃x,d= .slice x)∨d= .string) (hi:P.info? e=some i)
  {ad:Option Addr} {sLen sCap:Nat} {y:Value} (hy:pB w i.size 0 y []) (hle:sLen≤sCap):
  (Builtin.append_ #[t,u] ty #[.slice ad sLen sCap,y]).run P w= .ok (.slice ad sLen sCap) w:=by
 have hf:=j4 (P:=P) hy (by simp)
 have hlen:=pC (P:=P) hy
 rcases hd with⟨x,rfl⟩|rfl
 ·cases ad<;>simp[Builtin.append_,run_underlying ht,run_underlying hu,sizeOf,typeInfo,hi,hlen,hle,hf,storeCells]
 ·cases ad<;>simp[Builtin.append_,run_underlying ht,run_underlying hu,sizeOf,typeInfo,hi,hlen,hle,hf,storeCells]
theorem vL {t u e:TypeId} {d:TypeDesc} {i:TypeInfo} {z:Value} {ty:TypeId} (ht:P.underlying t=some (.slice e)) (hu:P.underlying u=some d) (hd:(∃x,d= .slice x)∨d= .string) (hi:P.info? e=some i) (hz:i.zero=some z)
  {ad:Option Addr} {sLen sCap n:Nat} {y:Value} {olds news:List Value} (hs:pB w i.size sLen (.slice ad sLen sCap) olds) (HN:olds.length=sLen*i.size)
  (hy:pB w i.size n y news) (hl:news.length=n*i.size) (hg:sCap<sLen+n) (h63:sLen+n≤9223372036854775807) (YS:(sLen+n)*i.bytes≤140737488355328):
  ∃
   w' cap,(Builtin.append_ #[t,u] ty #[.slice ad sLen sCap,y]).run P w= .ok (.slice (some ⟨w.heap.size,0,none⟩) (sLen+n) cap) w'∧sLen+n≤cap∧
   w'.heap=w.heap.push (.cells (olds++news++(Builtin.zeroCells z.cells (cap-(sLen+n))).toList).toArray e (0,0))∧WF w w':=by
 have hn:¬(sLen+n≤sCap):=by omega
 have SI:¬(9223372036854775807<((sLen:Int)+(n:Int))):=by omega
 have SJ:¬(281474976710656<Builtin.nextslicecap (sLen+n) sCap*i.bytes):=by have:=growslice_fits hg YS;omega
 have A7:pB w.drew i.size sLen (.slice ad sLen sCap) olds:=hs
 have hy':pB w.drew i.size n y news:=hy
 have hfo:=j4 (P:=P) A7 HN
 have hf:=j4 (P:=P) hy' hl
 have hlen:=pC (P:=P) hy
 refine⟨w.drew.alloc (.cells (olds++news++(Builtin.zeroCells z.cells (grownCap w (sLen+n) sCap e-(sLen+n))).toList).toArray e),grownCap w (sLen+n) sCap e,?_,grownCap_ge w _ _ _,rfl,⟨rfl,rfl,rfl⟩⟩
 rcases hd with⟨x,rfl⟩|rfl
 ·simp[Builtin.append_,run_underlying ht,run_underlying hu,sizeOf,typeInfo,zeroValue,hi,hz,hlen,hn,SI,SJ,Question.forced,hf,hfo,newRow,grownCap]
  congr 2
  apply Array.ext'
  simp
 ·simp[Builtin.append_,run_underlying ht,run_underlying hu,sizeOf,typeInfo,zeroValue,hi,hz,hlen,hn,SI,SJ,Question.forced,hf,hfo,newRow,grownCap]
  congr 2
  apply Array.ext'
  simp
theorem vM {t u e:TypeId} {kn kv:IntKind} {i:TypeInfo} {z:Value} {ty:TypeId} (ht:P.underlying t=some (.slice e)) (hu:P.underlying u=some (.int kn)) (hi:P.info? e=some i) (hz:i.zero=some z)
  {ad:Option Addr} {sLen sCap n:Nat} {olds:List Value} (hs:pB w i.size sLen (.slice ad sLen sCap) olds) (HN:olds.length=sLen*i.size) (h0:0<n) (j1:0<i.size)
  (hg:sCap<sLen+n) (h63:sLen+n≤9223372036854775807) (YS:(sLen+n)*i.bytes≤140737488355328):
  ∃
   w' cap,(Builtin.append_ #[t,u] ty #[.slice ad sLen sCap,.int kv n]).run P w= .ok (.slice (some ⟨w.heap.size,0,none⟩) (sLen+n) cap) w'∧sLen+n≤cap∧
   w'.heap=w.heap.push (.cells (olds++(Builtin.zeroCells z.cells n).toList++(Builtin.zeroCells z.cells (cap-(sLen+n))).toList).toArray e (0,0))∧WF w w':=by
 have hn:¬(sLen+n≤sCap):=by omega
 have SI:¬(9223372036854775807<((sLen:Int)+(n:Int))):=by omega
 have SJ:¬(281474976710656<Builtin.nextslicecap (sLen+n) sCap*i.bytes):=by have:=growslice_fits hg YS;omega
 have at9:¬(281474976710656<(n:Int)*(i.bytes:Int)):=by
  rw[←Int.natCast_mul]
  have:n*i.bytes≤(sLen+n)*i.bytes:=Nat.mul_le_mul_right _ (by omega)
  omega
 have hw:IntKind.i64.wrap (n:Int)=n:=by rw[IntKind.wrap_i64];omega
 have aua:¬((n:Int)<0):=by omega
 have hns:¬(n*i.size=0):=Nat.mul_ne_zero (by omega) (by omega)
 have A7:pB w.drew i.size sLen (.slice ad sLen sCap) olds:=hs
 have hfo:=j4 (P:=P) A7 HN
 refine⟨w.drew.alloc (.cells (olds++(Builtin.zeroCells z.cells n).toList++(Builtin.zeroCells z.cells (grownCap w (sLen+n) sCap e-(sLen+n))).toList).toArray e),grownCap w (sLen+n) sCap e,?_,grownCap_ge w _ _ _,rfl,⟨rfl,rfl,rfl⟩⟩
 simp[Builtin.append_,run_underlying ht,run_underlying hu,sizeOf,typeInfo,zeroValue,hi,hz,asInt,asIntOf,hw,hn,aua,hns,SI,SJ,at9,Question.forced,hfo,newRow,grownCap]
 congr 2
 apply Array.ext'
 simp
theorem BI {t u e:TypeId} {ty:TypeId} {sz:Nat} (ht:P.underlying t=some (.slice e)) (iu:gx P e=some sz)
  {b o dLen dCap n:Nat} {y:Value} {news:List Value} {c:Array Value} {ce:TypeId} {ysz:Nat} (hy:pB w sz ysz y news) (hl:news.length=ysz*sz) (hn:n=min ysz dLen) (h1:∀v∈news,fY v=true)
  (hb:w.heap[b]? =some (.cells c ce (0,0))) (w7:o+n*sz≤c.size):
  ∃
   w',(Builtin.copy_ #[t,u] ty #[.slice (some ⟨b,o,none⟩) dLen dCap,y]).run P w= .ok (.int .i64 n) w'∧
   w'.heap=w.heap.setIfInBounds b (.cells (bN c.toList o (news.take (n*sz))).toArray ce (0,0))∧WF w w':=by
 have fZ:(news.take (n*sz)).length=n*sz:=by
  rw[lJ,hl]
  exact Nat.min_eq_left (Nat.mul_le_mul_right _ (by omega))
 obtain⟨w',g1,g2,g3⟩:=j3 (P:=P) (news.take (n*sz)) w b o 0 c ce hb (by omega) (λv hv=>h1 v (List.mem_of_mem_take hv))
 refine⟨w',?_,by simpa using g2,g3⟩
 have hlen:=pC (P:=P) hy
 have hf:(Builtin.firstCells sz n y).run P w= .ok (news.take (n*sz)).toArray w:=by
  rcases hy with⟨ad,rc,rfl,h⟩|⟨str,rfl,h2,rfl,rfl⟩
  ·by_cases h0:0<n
   ·obtain⟨b',o',h3,h4⟩:=h (by omega)
    subst h3
    simp only[Builtin.firstCells]
    have:=run_loadCells_list (P:=P) w ⟨b',o',none⟩ (news.take (n*sz)) (λj v hj=>by
     rw[ji,cell?_eq]
     rw[List.getElem?_take]at hj
     split at hj
     ·exact h4 j v hj
     ·simp at hj)
    rw[fZ]at this
    exact this
   ·have:n=0:=by omega
    rw[this]
    cases ad<;>simp[Builtin.firstCells,loadCells,loadCellsFrom]
  ·simp only[Builtin.firstCells,Sem.run_pure]
   congr 1
   apply Array.ext'
   rw[Array.toList_map]
   simp[ByteArray.data_extract]
 have OD:Nat.min ysz dLen=n:=hn.symm
 simp[Builtin.copy_,run_underlying ht,run_sizeOf iu,hlen,OD,hf,g1,goInt]
end Go.Ab
namespace Go.Ab
variable [eg]
variable {P:Program} {nt:Nat} {ds:List Deferred} {s:St} {Γ:Cx} {a:Act} {w:World}
def St.put (s:St) (d:Option Nat) (p:PV):St:=
 match d with
 |some d=> {s with env:=Ab.put s.env d p}
 |none=>s
mutual
def wk:PV->PV
 | .sl sz l _=> .sl sz (jj l) false
 | .st w l=> .st w (jj l)
 | .ar z n l=> .ar z n (jj l)
 | .tup l=> .tup (jj l)
 |p=>p
def jj:List PV->List PV
 |[]=>[]
 |p::l=>wk p::jj l
end
def Ts:a9->PV->PV
 | .arr _ _,v=>wk v
 | .box _,v=>v
 | .map ..,v=>v
def u8 (b:UInt8):PV:= .int .u8 b.toNat
def gE (s:St) (d:Option Nat) (sz bytes:Nat) (p:PV) (ys:List PV) (K:St->Prop):Prop:=
 match d with
 |none=>False
 |
  some d=>match p with
  | .sl sz0 l true=>(get s.bx d=none∧(l=[]∨(sz0=sz∧ys≠[]))∧(l.length+ys.length)*bytes≤140737488355328∧l.length+ys.length≤9223372036854775807)∧
    K {env:=put s.env d (.rs d [] 0 (l.length+ys.length) (l.length+ys.length) sz .tip),bx:=put s.bx d (.arr sz (l++ys))}
  |
   .rs k [] 0 len aC bB .tip=>(match get s.bx k with
   |
    some (.arr sz'' l)=>(aC=l.length∧len=l.length∧bB=sz∧sz''=sz∧(l.length+ys.length)*bytes≤140737488355328∧l.length+ys.length≤9223372036854775807)∧
    K {env:=put s.env d (.rs k [] 0 (l.length+ys.length) (l.length+ys.length) sz .tip),bx:=put s.bx k (.arr sz (l++ys))}
   |_=>False)
  |
   .rs k [] 0 len aC bB (.full n)=>(match get s.bx k with
   |
    some (.arr sz'' l)=>(aC=l.length∧bB=sz∧sz''=sz∧len≤n∧n≤l.length∧ys≠[]∧get s.bx d=none∧(len+ys.length)*bytes≤140737488355328∧len+ys.length≤9223372036854775807)∧
    (len+ys.length≤n->K {env:=put s.env d (.rs k [] 0 (len+ys.length) aC sz (.full n)),bx:=put s.bx k (.arr sz (l.take len++ys++l.drop (len+ys.length)))})∧
    (n<len+ys.length->K {env:=put s.env d (.rs d [] 0 (len+ys.length) (len+ys.length) sz .tip),bx:=put s.bx d (.arr sz (l.take len++ys))})
   |_=>False)
  | .rs k p off len aC bB .clip=>content s (.rs k p off len aC bB .clip) λsz'' l=>(get s.bx d=none∧sz''=sz∧ys≠[]∧(l.length+ys.length)*bytes≤140737488355328∧l.length+ys.length≤9223372036854775807)∧
    K {env:=put s.env d (.rs d [] 0 (l.length+ys.length) (l.length+ys.length) sz .tip),bx:=put s.bx d (.arr sz (l++ys))}
  |_=>False
def n5 (s:St) (d:Option Nat) (sz bytes:Nat) (z p:PV) (m:Int) (K:St->Prop):Prop:=
 match d with
 |none=>False
 |
  some d=>match p with
  |
   .rs k [] 0 len aC bB (.full n)=>(match get s.bx k with
   |
    some (.arr sz'' l)=>(get s.bx d=none∧aC=l.length∧bB=sz∧sz''=sz∧len≤n∧n≤l.length∧0<m∧n<len+m.toNat∧(len+m.toNat)*bytes≤140737488355328∧len+m.toNat≤9223372036854775807)∧
    K {env:=put s.env d (.rs d [] 0 (len+m.toNat) (len+m.toNat) sz .tip),bx:=put s.bx d (.arr sz (l.take len++List.replicate m.toNat z))}
   |_=>False)
  |_=>False
def src (s:St) (str:Bool) (sz:Nat) (q:PV) (K:List PV->Prop):Prop:=
 if str then(match q with| .str bs=>sz=1∧K (bs.map u8)|_=>False)
 else content s q λbB ys=>(ys=[]∨bB=sz)∧K ys
def jd (s:St) (d:Option Nat) (sz:Nat) (p:PV) (ys:List PV) (K:St->Prop):Prop:=
 match p with
 |
  .rs k pth off len aC bB _=>(match get s.bx k with
  |some (.arr sz'' l)=>(aC=l.length∧pth=[]∧bB=sz∧sz''=sz∧off+len≤l.length)∧
    K ({s with bx:=put s.bx k (.arr sz (l.take off++ys.take (min ys.length len)++l.drop (off+min ys.length len)))}.put d (.int .i64 (min ys.length len:Nat)))
  |
   some (.box v)=>(match aQ v pth with
   |
    some (.ar sz'' n l)=>(match dD v pth (.ar sz'' n (l.take off++ys.take (min ys.length len)++l.drop (off+min ys.length len)))with
    |some v'=>(aC=0∧bB=sz∧sz''=sz∧off+len≤n)∧K ({s with bx:=put s.bx k (.box v')}.put d (.int .i64 (min ys.length len:Nat)))
    |none=>False)
   |_=>False)
  |_=>False)
 |_=>False
def Lq (s:St) (d:Option Nat) (sz:Nat) (z p:PV) (K:St->Prop):Prop:=
 d=none∧match p with
 | .rs k pth off len aC bB c=>jd s none sz (.rs k pth off len aC bB c) (List.replicate len z) K
 |_=>False
def VT (p:PV):List (PV×PV)->Option PV
 |[]=>none
 |(k,v)::r=>if PV.beq p k=true then some v else VT p r
def acz (p v:PV):List (PV×PV)->List (PV×PV)
 |[]=>[(p,v)]
 |(k,w)::r=>if PV.beq p k=true then(p,v)::r else(k,w)::acz p v r
def ex (s:St) (d:Option Nat):AK->(St->Prop)->Prop
 |
  .alloc z,K=>(match d with
  |some k=>get s.bx k=none∧K {env:=put s.env k (.pt k [] 0),bx:=put s.bx k (.box z)}
  |none=>False)
 |
  .box x,K=>(match d with
  |some k=>vg true s x λp=>(get s.bx k=none∧p.bj=true)∧K {env:=put s.env k (.pt k [] 0),bx:=put s.bx k (.box p)}
  |none=>False)
 |
  .buildSlice own sz z n parts,K=>yd true s parts λps=>(match dJ (List.replicate n z) (ps.map λx=>(x.1,wk x.2))with
  |some l=>if own=true then(match d with
    |some k=>get s.bx k=none∧K {env:=put s.env k (.rs k [] 0 n n sz .tip),bx:=put s.bx k (.arr sz l)}
    |none=>False)else K (s.put d (.sl sz l true))
  |none=>False)
 |
  .makeSlice sz bytes z len cap,K=>vg true s len λp=>mc p λl=>vg true s cap λq=>mc q λc=>
  (match d with
  |some k=>(get s.bx k=none∧0≤l∧l≤c∧c*bytes≤281474976710656∧c≤9223372036854775807)∧
    K {env:=put s.env k (.rs k [] 0 l.toNat l.toNat sz .tip),bx:=put s.bx k (.arr sz (List.replicate l.toNat z))}
  |none=>False)
 |
  .store n x y,K=>vg true s x λp=>vg true s y λv=>(match p with
  |
   .pt k pth aC=>(match get s.bx k with
   |
    some blk=>(match pv blk pth (Ts blk v)with
    |some cB=>(aC=blk.aC∧v.width=n∧v.bj=true)∧K {s with bx:=put s.bx k cB}
    |none=>False)
   |none=>False)
  |_=>False)
 |
  .isNil ng x,K=>vg true s x λp=>(match p with
  | .sl _ l _=>∀b:Bool,(b=true->l=[])->K (s.put d (.bl (b !=ng)))
  | .rs k _ _ len aC _ _=>(match get s.bx k with|some blk=>aC=blk.aC∧∀b:Bool,(b=true->len=0)->K (s.put d (.bl (b !=ng)))|none=>False)
  |_=>False)
 | .append sz bytes str x y,K=>vg true s x λp=>vg true s y λq=>src s str sz q λys=>gE s d sz bytes p ys K
 | .appendZ sz bytes z x y,K=>vg true s x λp=>vg true s y λq=>mc q λm=>n5 s d sz bytes z p m K
 |
  .copy sz x y,K=>vg true s x λp=>vg true s y λq=>(match q with
  | .str _=>src s true sz q λys=>jd s d sz p ys K
  |_=>src s false sz q λys=>jd s d sz p ys K)
 | .fill sz z x,K=>vg true s x λp=>Lq s d sz z p K
 |
  .mkMap ks vs,K=>(match d with
  |some k=>get s.bx k=none∧∀b:Nat,K {env:=put s.env k (.mp k b),bx:=put s.bx k (.map b ks vs [])}
  |none=>False)
 |
  .mapGet ks vs z ok m x,K=>vg true s m λpm=>vg true s x λp=>(match pm with
  |
   .mp k b=>(match get s.bx k with
   |some (.map b' ks' vs' l)=>(b'=b∧ks'=ks∧vs'=vs∧fits ks p=true)∧K (s.put d (if ok=true then .tup [(VT p l).getD z,.bl (VT p l).isSome]else(VT p l).getD z))
   |_=>False)
  |_=>False)
 |
  .mapSet ks vs m x y,K=>vg true s m λpm=>vg true s x λp=>vg true s y λv=>(match pm with
  |
   .mp k b=>(match get s.bx k with
   |some (.map b' ks' vs' l)=>(d=none∧b'=b∧ks'=ks∧vs'=vs∧fits ks p=true∧fits vs v=true)∧K {s with bx:=put s.bx k (.map b' ks' vs' (acz p v l))}
   |_=>False)
  |_=>False)
 | .convB x,K=>vg true s x λp=>(match p with| .str bs=>K (s.put d (.sl 1 (bs.map u8) false))|_=>False)
 |
  .convL x,K=>vg true s x λp=>(match p with
  |
   .rs k pth off len aC sz c=>(match get s.bx k with
   |some (.arr bB l)=>(pth=[]∧off=0∧sz=1∧bB=1∧c= .tip∧len=l.length∧aC=l.length∧l≠[]∧l.all PV.isNum=true)∧
     K (St.put {s with bx:=put s.bx k (.arr 1 (l++[.int .u8 0]))} d (.sl 1 l false))
   |_=>False)
  |_=>False)
 |_,_=>False
def kS (P:Program) (nt:Nat) (ds:List Deferred) (o:Oper) (a:Act) (w:World) (Γ:Cx) (K:St->Prop):Prop:=
 ∃nx v w' s' Γ',(execOp a.eval o).run P w= .ok nx w'∧(nx= .value v∨nx= .skip∧v=undef)∧hU nt ds s' Γ' (a.put o.dst v)∧w'.heap=Γ'.heap∧Le Γ Γ'∧WF w w'∧K s'
theorem hU.put (hs:hU nt ds s Γ a) {d:Option Nat} (hd:∀k,d=some k->k<nt) {p:PV} {v:Value} (hr:aN Γ p v):hU nt ds (s.put d p) Γ (a.put d v):=by
 cases d with
 |none=>exact hs
 |
  some d=>
  refine⟨hs.bx,by simp[Act.put,hs.size],hs.defers,λk q hk=> ?_,hs.mem⟩
  simp only[St.put,fg]at hk
  have fZ:=hd d rfl
  split at hk
  ·rename_i hdk
   simp only[sJ]at hk;subst hk hdk
   simp only[Act.put]
   have:(a.tmps.setIfInBounds d v).getD d undef=v:=by
    rw[Array.getD_eq_getD_getElem?,uJ (by rw[hs.size];exact fZ)];rfl
   rw[this];exact hr
  ·rename_i fc
   have:=hs.env k q hk
   simp only[Act.put]
   rw[Array.getD_eq_getD_getElem?,Array.getElem?_setIfInBounds_ne fc,←Array.getD_eq_getD_getElem?]
   exact this
theorem hU.le (hs:hU nt ds s Γ a) {Γ':Cx} {vC:List (Nat×a9)} (hle:Le Γ Γ') (hm:Mem Γ') (hb:Γ'.bx=vC):hU nt ds {s with bx:=vC} Γ' a:=
 ⟨hb,hs.size,hs.defers,λk p h=>(hs.env k p h).mono hle,hm⟩
theorem PO {k:Nat} {b:Nat} {v:PV} (hb:get Γ.bx k=some (.box v)) (hι:Γ.ι k=some b):aN Γ (.pt k [] 0) (.pointer (some ⟨b,0,none⟩)):=
 aN.Lh hb rfl hι rfl
theorem Ek {o:Oper} {k:Nat} {p:PV} {cs:Array Value} {e:TypeId} {K:St->Prop} (hs:hU nt ds s Γ a) (hw:w.heap=Γ.heap) (hk:o.dst=some k) (fZ:k<nt) (jz:get s.bx k=none)
  (hr:aD Γ [p] cs.toList) (iN:(execOp a.eval o).run P w= .ok (.value (.pointer (some ⟨w.heap.size,0,none⟩))) (w.alloc (.cells cs e))) (hK:K {env:=put s.env k (.pt k [] 0),bx:=put s.bx k (.box p)}):
  kS P nt ds o a w Γ K:=by
 rw[←hs.bx]at jz
 have hle:=yZ Γ (.cells cs e) (k:=k) (.box p) jz
 have iZ:Mem (Γ.ext (.cells cs e) k (.box p)):=HZ hs.mem jz ⟨Γ.heap.size,cs,e,rfl,by simp[Cx.ext],hr.mono hle⟩
 have h1:=hs.le hle iZ (vC:=put s.bx k (.box p)) (by simp[Cx.ext,hs.bx])
 have h2:aN (Γ.ext (.cells cs e) k (.box p)) (.pt k [] 0) (.pointer (some ⟨w.heap.size,0,none⟩)):=by
  rw[hw];exact PO (v:=p) (by simp[Cx.ext,dj]) (by simp[Cx.ext])
 have h3:=h1.put (d:=some k) (λj hj=>by cases hj;exact fZ) h2
 exact⟨_,_,_,_,_,iN,.inl rfl,by rw[hk];exact h3,by simp[World.alloc,Cx.ext,hw],hle,⟨rfl,rfl,rfl⟩,hK⟩
theorem n6 {o:Oper} {k sz:Nat} {l:List PV} {cs rest:List Value} {e:TypeId} {cap:Nat} {w':World} {K:St->Prop} (hs:hU nt ds s Γ a) (hw:w.heap=Γ.heap) (hk:o.dst=some k) (fZ:k<nt) (jz:get s.bx k=none) (iu:0<sz)
  (hr:aD Γ l cs) (lX:∀x∈l,x.width=sz) (BB:cap*sz=(cs++rest).length) (wY:l.length≤cap) (Gj:∀v∈rest,fY v=true)
  (iN:(execOp a.eval o).run P w= .ok (.value (.slice (some ⟨w.heap.size,0,none⟩) l.length cap)) w') (rS:w'.heap=w.heap.push (.cells (cs++rest).toArray e (0,0))) (oT:WF w w')
  (hK:K {env:=put s.env k (.rs k [] 0 l.length l.length sz .tip),bx:=put s.bx k (.arr sz l)}):kS P nt ds o a w Γ K:=by
 rw[←hs.bx]at jz
 have hle:=yZ Γ (.cells (cs++rest).toArray e (0,0)) (k:=k) (.arr sz l) jz
 have hh:(Γ.ext (.cells (cs++rest).toArray e (0,0)) k (.arr sz l)).heap[Γ.heap.size]? =some (.cells (cs++rest).toArray e (0,0)):=by simp[Cx.ext]
 have iZ:Mem (Γ.ext (.cells (cs++rest).toArray e (0,0)) k (.arr sz l)):=HZ hs.mem jz ⟨lX,iu,_,e,cs,rest,hh,rfl,hr.mono hle,Gj⟩
 have h1:=hs.le hle iZ (vC:=put s.bx k (.arr sz l)) (by simp[Cx.ext,hs.bx])
 have h2:aN (Γ.ext (.cells (cs++rest).toArray e (0,0)) k (.arr sz l)) (.rs k [] 0 l.length l.length sz .tip) (.slice (some ⟨w.heap.size,0,none⟩) l.length cap):=by
  rw[hw]
  simp only[aN]
  refine .rs k [] 0 _ _ sz _ _ (.arr sz l) ⟨by simp[Cx.ext,dj],by simp[a9.aC]⟩ rfl (λ_=>⟨_,_,rfl,?_⟩) .nil
  unfold jc
  have:(Γ.ext (.cells (cs++rest).toArray e (0,0)) k (.arr sz l)).ι k=some Γ.heap.size:=by simp[Cx.ext]
  rw[this]
  exact⟨wY,.inr (by simp[cW]),trivial,λ_=>⟨rfl,_,e,hh,by simpa using BB⟩⟩
 have h3:=h1.put (d:=some k) (λj hj=>by cases hj;exact fZ) h2
 exact⟨_,_,_,_,_,iN,.inl rfl,by rw[hk];exact h3,by rw[rS,hw];rfl,hle,oT,hK⟩
theorem Jr {o:Oper} {k sz:Nat} {ad:Option Addr} {K:St->Prop} (hs:hU nt ds s Γ a) (hw:w.heap=Γ.heap) (hk:o.dst=some k) (fZ:k<nt) (jz:get s.bx k=none) (iu:0<sz)
  (iN:(execOp a.eval o).run P w= .ok (.value (.slice ad 0 0)) w)
  (hK:K {env:=put s.env k (.rs k [] 0 0 0 sz .tip),bx:=put s.bx k (.arr sz [])}):kS P nt ds o a w Γ K:=by
 rw[←hs.bx]at jz
 have hle:=rV Γ (k:=k) (.arr sz []) jz
 have iZ:Mem (Γ.lF k (.arr sz [])):=y0 hs.mem jz ⟨by simp,iu,trivial⟩
 have h1:=hs.le hle iZ (vC:=put s.bx k (.arr sz [])) (by simp[Cx.lF,hs.bx])
 have h2:aN (Γ.lF k (.arr sz [])) (.rs k [] 0 0 0 sz .tip) (.slice ad 0 0):=by
  simp only[aN]
  refine .rs k [] 0 _ _ sz _ _ (.arr sz []) ⟨by simp[Cx.lF,dj],by simp[a9.aC]⟩ rfl (λ_=>⟨_,_,rfl,?_⟩) .nil
  unfold jc
  have:(Γ.lF k (.arr sz [])).ι k=none:=by simp[Cx.lF]
  rw[this];exact⟨rfl,rfl,trivial⟩
 have h3:=h1.put (d:=some k) (λj hj=>by cases hj;exact fZ) h2
 exact⟨_,_,_,_,Γ.lF k (.arr sz []),iN,.inl rfl,by rw[hk];exact h3,hw,hle,WF.refl w,hK⟩
theorem qj {o:Oper} {p:PV} {v:Value} {w':World} {Γ':Cx} {K:St->Prop} (hs:hU nt ds s Γ a) (hd:∀k,o.dst=some k->k<nt) (hle:Le Γ Γ') (hm:Mem Γ') (hb:Γ'.bx=Γ.bx)
  (iN:(execOp a.eval o).run P w= .ok (.value v) w') (hh:w'.heap=Γ'.heap) (oT:WF w w') (hr:aN Γ' p v) (hK:K (s.put o.dst p)):kS P nt ds o a w Γ K:=by
 have h1:=hs.le hle hm (vC:=s.bx) (by rw[hb,hs.bx])
 exact⟨_,v,w',_,_,iN,.inl rfl,h1.put hd hr,hh,hle,oT,hK⟩
theorem Lr (p:PV):(wk p).width=p.width:=by cases p<;>simp[wk,PV.width]
theorem s9 (l:List PV):(jj l).length=l.length:=by induction l<;>simp[jj, *]
theorem y7 (l:List PV):jj l=l.map wk:=by induction l<;>simp[jj, *]
theorem PQ {l:List PV} {q:PV} (h:q∈jj l):∃p∈l,q=wk p:=by
 rw[y7]at h;obtain⟨p,hp,e⟩:=List.mem_map.1 h;exact⟨p,hp,e.symm⟩
theorem BJ {l:List PV} {sz:Nat} (h:∀x∈l,x.width=sz):∀x∈jj l,x.width=sz:=by
 intro x hx;obtain⟨p,hp,rfl⟩:=PQ hx;rw[Lr];exact h p hp
theorem aD.jj {l:List PV} {cs:List Value} (h:aD Γ l cs):aD Γ (jj l) cs:=by
 induction h with
 |nil=>exact .nil
 |un h hr ih=>simp only[Ab.jj,Ab.wk];exact .un h ih
 |bl x hr ih=>simp only[Ab.jj,Ab.wk];exact .bl x ih
 |int k n hr ih=>simp only[Ab.jj,Ab.wk];exact .int k n ih
 |str l s h hr ih=>simp only[Ab.jj,Ab.wk];exact .str l s h ih
 |st w l hl hw hr ihl ih=>simp only[Ab.jj,Ab.wk];exact .st w _ ihl hw ih
 |ar sz n l hl hn hs hr ihl ih=>simp only[Ab.jj,Ab.wk];exact .ar sz n _ ihl (by rw[s9];exact hn) (BJ hs) ih
 |
  sl sz l clip a bu hl hw hc hk hb hr ihl ih=>
  simp only[Ab.jj,Ab.wk]
  have:=aD.sl sz (Ab.jj l) false a bu ihl (BJ hw) (by rw[s9];exact hc) (by simp) (λfc=>hb (λhe=>fc (by rw[he];rfl))) ih
  rwa [s9]at this
 |rs k p off len aC sz c v blk hg h1 hv hr ih=>simp only[Ab.jj,Ab.wk];exact .rs k p off len aC sz c v blk hg h1 hv ih
 |np hr ih=>simp only[Ab.jj,Ab.wk];exact .np ih
 |pt k p aC v blk hg h1 hv hr ih=>simp only[Ab.jj,Ab.wk];exact .pt k p aC v blk hg h1 hv ih
 |fp sz l p b o hl hw hm hc hr ihl ih=>simp only[Ab.jj,Ab.wk];exact .fp sz l p b o hl hw hm hc ih
 |fn f first cap h1 h2 h3 h4 hr i1 i2 ih=>simp only[Ab.jj,Ab.wk];exact .fn f first cap h1 h2 h3 h4 ih
 |nf hr ih=>simp only[Ab.jj,Ab.wk];exact .nf ih
 |ifc t v h1 h2 hr i1 ih=>simp only[Ab.jj,Ab.wk];exact .ifc t v h1 h2 ih
 |ni hr ih=>simp only[Ab.jj,Ab.wk];exact .ni ih
 |mp k b hr ih=>simp only[Ab.jj,Ab.wk];exact .mp k b ih
theorem aD.wk {p:PV} {cs:List Value} (h:aD Γ [p] cs):aD Γ [wk p] cs:=by
 have:=h.jj;simpa[Ab.jj]using this
theorem je.wk {p:PV} {v:Value} (h:je Γ p v):je Γ (wk p) v:=by
 cases p
 case st w l=>obtain⟨cs,h1,h2⟩:=h;simp only[Ab.wk];exact⟨cs,h1,by simpa[Ab.wk]using aD.wk h2⟩
 case ar z n l=>obtain⟨cs,h1,h2⟩:=h;simp only[Ab.wk];exact⟨cs,h1,by simpa[Ab.wk]using aD.wk h2⟩
 case sl z l c=>have:=aD.wk (show aD Γ [.sl z l c] [v] from h);simp only[Ab.wk]at this⊢;exact this
 case tup l=>have:=aD.wk (show aD Γ [.tup l] [v] from h);cases h
 all_goals (simp only[Ab.wk];exact h)
theorem jY.jj:∀ {l:List PV} {vs:List Value},jY Γ l vs->jY Γ (Ab.jj l) vs
 |[],[],_=>trivial
 |[],_::_,h=>by simp[jY]at h
 |_::_,[],h=>by simp[jY]at h
 |p::l,v::vs,h=>by simp only[jY,Ab.jj]at h⊢;exact⟨h.1.wk,jY.jj h.2⟩
theorem aN.wk {p:PV} {v:Value} (h:aN Γ p v):aN Γ (wk p) v:=by
 cases p
 case st w l=>obtain⟨cs,h1,h2⟩:=h;simp only[Ab.wk];exact⟨cs,h1,by simpa[Ab.wk]using aD.wk h2⟩
 case ar z n l=>obtain⟨cs,h1,h2⟩:=h;simp only[Ab.wk];exact⟨cs,h1,by simpa[Ab.wk]using aD.wk h2⟩
 case sl z l c=>simp only[aN,Ab.wk]at h⊢;simpa[Ab.wk]using aD.wk h
 case tup l=>simp only[aN,Ab.wk]at h⊢;obtain⟨vs,e,h⟩:=h;exact⟨vs,e,h.jj⟩
 all_goals (simp only[Ab.wk];exact h)
theorem Js {o:Oper} {t:TypeId} {z:PV} {K:St->Prop} (ho:o.op= .alloc t) (hz:zeroOf P t=some z) (hs:hU nt ds s Γ a) (hw:w.heap=Γ.heap) (hd:∀k,o.dst=some k->k<nt) (he:ex s o.dst (.alloc z) K):
  kS P nt ds o a w Γ K:=by
 simp only[ex]at he
 split at he
 ·rename_i k hk
  obtain⟨v,hv,hr,_,_,_⟩:=ld (Γ:=Γ) hz
  refine Ek (cs:=v.cells) (e:=t) hs hw hk (hd k hk) he.1 hr ?_ he.2
  simp only[execOp,ho,Instr.alloc,bJ,hv,rJ,newVar,newRow]
  rfl
 ·exact he.elim
theorem PR {o:Oper} {t:TypeId} {x:Operand} {y:AX} {K:St->Prop} (ho:o.op= .box t x) (hx:gq x=some y) (hs:hU nt ds s Γ a) (hw:w.heap=Γ.heap) (hd:∀k,o.dst=some k->k<nt) (he:ex s o.dst (.box y) K):
  kS P nt ds o a w Γ K:=by
 simp only[ex]at he
 split at he
 ·rename_i k hk
  obtain⟨p,⟨⟨h1,h2⟩,h3⟩,hr⟩:=cO hx hs rfl he
  refine Ek (cs:=(a.eval x).cells) (e:=t) hs hw hk (hd k hk) h1 (hr.yV h2) ?_ h3
  simp only[execOp,ho,Instr.box,bJ,newVar,newRow]
  rfl
 ·exact he.elim
theorem jk {z:PV} {cs:List Value} (h:aD Γ [z] cs):∀n,aD Γ (List.replicate n z) (List.replicate n cs).flatten
 |0=> .nil
 |n+1=>by rw[List.replicate_succ,List.replicate_succ,List.flatten_cons];exact h.cons (jk h n)
theorem kY (z:Array Value) (n:Nat):((Array.range (n*z.size)).map (z[·%z.size]!)).toList=(List.replicate n z.toList).flatten:=by
 induction n with
 |zero=>simp
 |
  succ n ih=>
  have e:(n+1)*z.size=n*z.size+z.size:=by rw[Nat.add_mul];omega
  rw[List.replicate_succ',List.flatten_append,←ih,e]
  simp only[Array.toList_map,Array.toList_range,List.range_add,List.map_append,List.map_map,List.flatten_cons,List.flatten_nil,List.append_nil]
  congr 1
  apply List.ext_getElem?
  intro i
  by_cases hi:i<z.size
  ·simp[hi,Nat.mod_eq_of_lt hi,Nat.add_mod,Nat.mul_mod_left]
  ·simp[hi]
end Go.Ab
namespace Go.Ab
variable [eg]
variable {P:Program} {nt:Nat} {ds:List Deferred} {s:St} {Γ:Cx} {a:Act} {w:World}
theorem y8 {o:Oper} {t e:TypeId} {n sz:Nat} {parts:Array (Nat×Operand)} {ps:List (Nat×AX)} {z:PV} {own:Bool} {K:St->Prop} (ho:o.op= .buildSlice t n parts) (hu:P.underlying t=some (.slice e))
  (hp:nu parts.toList=some ps) (hz:zeroOf P e=some z) (iu:gx P e=some sz) (j1:0<sz) (aAK:n*sz≤2^24)
  (hs:hU nt ds s Γ a) (hw:w.heap=Γ.heap) (hd:∀k,o.dst=some k->k<nt) (he:ex s o.dst (.buildSlice own sz z n ps) K):kS P nt ds o a w Γ K:=by
 simp only[ex]at he
 obtain⟨qs,hq,hlen,ff⟩:=ye hs rfl hp he
 obtain⟨zv,Px,Vw,AU,_,Vx⟩:=ld (Γ:=Γ) hz
 have SM:z.width=sz:=by rw[iu]at AU;exact(Option.some.inj AU).symm
 split at hq
 ·rename_i l hl
  have hzc:zv.cells.size=sz:=by rw[Vx,SM]
  have ak1:aD Γ (List.replicate n z) ((Array.range (n*sz)).map (zv.cells[·%zv.cells.size]!)).toList:=by
   have:=kY zv.cells n
   rw[hzc]at this⊢
   rw[this]
   exact jk Vw n
  have hwr:∀x∈List.replicate n z,x.width=sz:=by intro x hx;rw[(List.mem_replicate.1 hx).2];exact SM
  obtain⟨cells,h1,h2⟩:=ud (Γ:=Γ) (qs.map λx=>(x.1,wk x.2)) (parts.toList.map λp=>(p.1,a.eval p.2)) (λi=>some (i*sz,sz)) (List.replicate n z) l _ ak1 hl (by simp[hlen])
   (λi j p k u h3 h4=>by
    rw[List.getElem?_map,mJ]at h3 h4
    obtain⟨⟨k',x⟩,h5,h6⟩:=h4
    obtain⟨⟨j',q⟩,h7,h8⟩:=h3
    simp only[Prod.mk.injEq]at h6 h8
    obtain⟨rfl,rfl⟩:=h6
    obtain⟨rfl,rfl⟩:=h8
    have:=ff i j' q k' x h7 h5
    exact⟨this.1,this.2.wk⟩)
   (λi q hi=>by
    have hil:=(List.getElem?_eq_some_iff.1 hi).1
    rw[ie hwr (by omega),hwr q (List.mem_of_getElem? hi)])
  have F4:l.length=n:=by rw[vJ.setParts_length hl];simp
  have Py:=vJ.setParts_width hl hwr
  have A8:cells.toList.length=n*sz:=by rw[h2.length,bP Py,F4]
  have fZ:¬n*sz>2^24:=by omega
  have Jb:Instr.fill (λi=>some (i*sz,sz)) ((Array.range (n*sz)).map ((if n*sz=0 then #[]else zv.cells)[·%(if n*sz=0 then #[]else zv.cells).size]!)) (parts.map λp=>(p.1,a.eval p.2)).toList=some cells:=by
   have e1:(parts.map λp=>(p.1,a.eval p.2)).toList=parts.toList.map λp=>(p.1,a.eval p.2):=by simp
   rw[e1]
   by_cases h0:n*sz=0
   ·rw[if_pos h0]
    rw[h0]at h1⊢
    have em:∀f:Nat->Value,Array.map f (Array.range 0)= #[]:=λf=>by apply Array.ext';simp
    rw[em]at h1⊢
    exact h1
   ·rw[if_neg h0];exact h1
  have hb:(Instr.buildSlice t n (parts.map λp=>(p.1,a.eval p.2))).run P w= .ok (.slice (some ⟨w.heap.size,0,none⟩) n n) (w.alloc (.cells cells e)):=by
   simp only[Instr.buildSlice,bJ,run_underlying hu,rJ,run_sizeOf iu]
   rw[if_neg fZ]
   by_cases h0:n*sz=0
   ·rw[if_pos h0]
    rw[if_pos h0]at Jb
    simp only[bJ,Sem.run_pure,rJ]
    rw[Jb]
    rfl
   ·rw[if_neg h0]
    rw[if_neg h0]at Jb
    simp only[bJ,Px,Sem.run_pure,rJ]
    rw[Jb]
    rfl
  have iN:(execOp a.eval o).run P w= .ok (.value (.slice (some ⟨w.heap.size,0,none⟩) n n)) (w.alloc (.cells cells e)):=by
   have e2:execOp a.eval o=(do Pure.pure (Next.value (←Instr.buildSlice t n (parts.map λp=>(p.1,a.eval p.2))))):=by unfold execOp;rw[ho]
   rw[e2,bJ,hb];rfl
  split at hq
  ·rename_i SF
   split at hq
   ·rename_i k hk
    refine n6 (P:=P) (cs:=cells.toList) (rest:=[]) (e:=e) (cap:=n) (w':=w.alloc (.cells cells e)) hs hw hk (hd k hk) hq.1 j1 h2 Py (by rw[List.append_nil];exact A8.symm) (by omega) (by simp) (by rw[F4];exact iN) (by rw[List.append_nil];rfl) ⟨rfl,rfl,rfl⟩ (by rw[F4];exact hq.2)
   ·exact hq.elim
  ·refine qj hs hd (qi Γ (.cells cells e)) (mem_push hs.mem _) rfl iN (by show w.heap.push _=Γ.heap.push _;rw[hw]) ⟨rfl,rfl,rfl⟩ ?_ hq
   simp only[aN]
   have:=aD.sl (Γ:=Γ.push (.cells cells e)) sz l true (some ⟨w.heap.size,0,none⟩) n (h2.mono (qi Γ _)) Py (by omega) (λ_=>F4.symm) (λ_=>⟨w.heap.size,0,rfl,by simp[Cx.push,hw],by
    rw[hw]
    have:=hs.mem.xb
    exact this,λi c hc=>by
     have hi:=(List.getElem?_eq_some_iff.1 hc).1
     simp only[cell,Cx.push,hw,Nat.zero_add,Array.getElem?_push_size]
     rw[←Array.getElem?_toList];exact hc⟩) .nil
   rw[F4]at this
   exact this
 ·exact hq.elim
theorem Be {o:Oper} {t e:TypeId} {i:TypeInfo} {ln cp:Operand} {ln' cp':AX} {z:PV} {K:St->Prop} (ho:o.op= .makeSlice t ln cp) (hu:P.underlying t=some (.slice e)) (hl:gq ln=some ln') (hc:gq cp=some cp')
  (hz:zeroOf P e=some z) (hi:P.info? e=some i) (j1:0<i.size)
  (hs:hU nt ds s Γ a) (hw:w.heap=Γ.heap) (hd:∀k,o.dst=some k->k<nt) (he:ex s o.dst (.makeSlice i.size i.bytes z ln' cp') K):kS P nt ds o a w Γ K:=by
 simp only[ex]at he
 obtain⟨p,hp,sG⟩:=cO hl hs rfl he
 obtain⟨k1,l,vy,hp⟩:=gD hp sG
 obtain⟨q,hq,m7⟩:=cO hc hs rfl hp
 obtain⟨k2,c,qM,hK⟩:=gD hq m7
 obtain⟨zv,Px,Vw,AU,_,Vx⟩:=ld (Γ:=Γ) hz
 have SM:z.width=i.size:=by rw[vK hi]at AU;exact(Option.some.inj AU).symm
 have hzc:zv.cells.size=i.size:=by rw[Vx,SM]
 split at hK
 ·rename_i k hk
  obtain⟨⟨h1,h2,h3,h4,h5⟩,hK⟩:=hK
  have hwl:IntKind.i64.wrap l=l:=by
   have e1:(2:Int)^IntKind.i64.bits=18446744073709551616:=by decide
   have e2:(2:Int)^(IntKind.i64.bits-1)=9223372036854775808:=by decide
   simp only[IntKind.wrap,e1,e2]
   have:l%18446744073709551616=l:=Int.emod_eq_of_lt h2 (by omega)
   rw[this]
   rw[if_neg (by simp;intro _;omega)]
  have hwc:IntKind.i64.wrap c=c:=by
   have e1:(2:Int)^IntKind.i64.bits=18446744073709551616:=by decide
   have e2:(2:Int)^(IntKind.i64.bits-1)=9223372036854775808:=by decide
   simp only[IntKind.wrap,e1,e2]
   have:c%18446744073709551616=c:=Int.emod_eq_of_lt (by omega) (by omega)
   rw[this]
   rw[if_neg (by simp;intro _;omega)]
  have m8:((Array.range (c.toNat*i.size)).map (zv.cells[·%zv.cells.size]!)).toList=(List.replicate c.toNat zv.cells.toList).flatten:=by
   have:=kY zv.cells c.toNat
   rw[hzc]at this⊢
   exact this
  have DV:(List.replicate c.toNat zv.cells.toList).flatten=(List.replicate l.toNat zv.cells.toList).flatten++(List.replicate (c.toNat-l.toNat) zv.cells.toList).flatten:=by
   rw[←List.flatten_append,List.replicate_append_replicate,show l.toNat+(c.toNat-l.toNat)=c.toNat by omega]
  refine n6 (P:=P) (l:=List.replicate l.toNat z) (cs:=(List.replicate l.toNat zv.cells.toList).flatten) (rest:=(List.replicate (c.toNat-l.toNat) zv.cells.toList).flatten) (e:=e) (cap:=c.toNat) (w':=w.alloc (.cells ((Array.range (c.toNat*i.size)).map (zv.cells[·%zv.cells.size]!)) e)) hs hw hk (hd k hk) h1 j1 (jk Vw _)
   (by intro x hx;rw[(List.mem_replicate.1 hx).2];exact SM) ?_ (by simp;omega) (jk Vw _).one ?_ ?_ ⟨rfl,rfl,rfl⟩ (by simpa using hK)
  ·rw[←DV,←m8];simp
  ·simp only[List.length_replicate]
   have hb:¬((i.bytes:Int)*c>2^48):=by
    have:(2:Int)^48=281474976710656:=by decide
    rw[this,Int.mul_comm];omega
   have hm:(Instr.makeSlice t (a.eval ln) (a.eval cp)).run P w= .ok (.slice (some ⟨w.heap.size,0,none⟩) l.toNat c.toNat) (w.alloc (.cells ((Array.range (c.toNat*i.size)).map (zv.cells[·%zv.cells.size]!)) e)):=by
    have AR:((decide (c<0)||decide ((i.bytes:Int)*c>2^48))||decide (l<0)||decide (l>c))=false:=by
     have e1:decide (c<0)=false:=decide_eq_false (by omega)
     have e2:decide ((i.bytes:Int)*c>2^48)=false:=decide_eq_false hb
     have e3:decide (l<0)=false:=decide_eq_false (by omega)
     have e4:decide (l>c)=false:=decide_eq_false (by omega)
     rw[e1,e2,e3,e4];rfl
    have iu:=vK hi
    have SN:(typeInfo e).run P w= .ok i w:=by simp[typeInfo,hi]
    simp only[Instr.makeSlice,bJ,run_underlying hu,rJ,vy,qM,asInt,asIntOf,Sem.run_pure,SN,hwl,hwc]
    rw[if_neg (by rw[AR];simp)]
    simp only[bJ,run_askRoom,rJ,run_sizeOf iu]
    by_cases h0:c.toNat*i.size=0
    ·rw[if_pos h0]
     have em:∀f:Nat->Value,Array.map f (Array.range (c.toNat*i.size))= #[]:=by intro f;rw[h0];apply Array.ext';simp
     simp only[bJ,Sem.run_pure,rJ,em]
     rfl
    ·rw[if_neg h0]
     simp only[bJ,Px,rJ,Sem.run_pure]
     rfl
   have e2:execOp a.eval o=(do Pure.pure (Next.value (←Instr.makeSlice t (a.eval ln) (a.eval cp)))):=by unfold execOp;rw[ho]
   rw[e2,bJ,hm];rfl
  ·rw[←DV,←m8];rfl
 ·exact hK.elim
theorem Ls (l:List UInt8):aD Γ (l.map u8) (l.map λb=>Value.int .u8 b.toNat):=by
 induction l with
 |nil=>exact .nil
 |cons b l ih=>exact .int .u8 _ ih
theorem Jt {o:Oper} {t d e:TypeId} {x:Operand} {x':AX} {K:St->Prop} (ho:o.op= .convert t d x) (h1:P.underlying t=some .string) (h2:P.underlying d=some (.slice e)) (h3:P.underlying e=some (.int .u8))
  (hx:gq x=some x') (hs:hU nt ds s Γ a) (hw:w.heap=Γ.heap) (hd:∀k,o.dst=some k->k<nt) (he:ex s o.dst (.convB x') K):kS P nt ds o a w Γ K:=by
 simp only[ex]at he
 obtain⟨p,hp,hr⟩:=cO hx hs rfl he
 cases p<;>simp only at hp<;>first|exact hp.elim|skip
 rename_i l
 simp only[aN]at hr
 obtain⟨bs,hv,hl⟩:∃bs:ByteArray,a.eval x= .string bs∧bs.data.toList=l:=by
  generalize a.eval x=v at hr
  cases hr with
  |str l s h _=>exact⟨s,rfl,h⟩
 subst hl
 have Vy:=run_bytes_of_string (P:=P) w t d e bs h1 h2 h3
 generalize hC:bytesRow bs (grownCap w bs.size 0 e)=C at Vy
 have iN:(execOp a.eval o).run P w= .ok (.value (.slice (some ⟨w.heap.size,0,none⟩) bs.size (grownCap w bs.size 0 e))) (w.drew.alloc (.cells C e (C.size,C.size+1))):=by
  have e2:execOp a.eval o=(do Pure.pure (Next.value (←convert t d (a.eval x)))):=by unfold execOp;rw[ho]
  rw[e2,bJ,hv,Vy];rfl
 refine qj hs hd (qi Γ (.cells C e (C.size,C.size+1))) (mem_push hs.mem _) rfl iN (by show w.heap.push _=Γ.heap.push _;rw[hw]) ⟨rfl,rfl,rfl⟩ ?_ hp
 simp only[aN]
 have iu:(bs.data.toList.map u8).length=bs.size:=by rw[List.length_map,Array.length_toList];rfl
 have:=aD.sl (Γ:=Γ.push (.cells C e (C.size,C.size+1))) 1 (bs.data.toList.map u8) false (some ⟨w.heap.size,0,none⟩) (grownCap w bs.size 0 e) (Ls _) (by
   intro x hx
   obtain⟨b,_,rfl⟩:=List.mem_map.1 hx
   rfl) (by rw[iu];have:=grownCap_ge w bs.size 0 e;omega) (by simp) (λ_=>⟨w.heap.size,0,rfl,by simp[Cx.push,hw],by
    rw[hw]
    exact hs.mem.xb,λi c hc=>by
     simp only[cell,Cx.push,hw,Nat.zero_add,Array.getElem?_push_size]
     rw[←hC]
     simp only[bytesRow]
     have hi:=(List.getElem?_eq_some_iff.1 hc).1
     rw[Array.getElem?_append_left (by simpa using hi)]
     rw[←hc]
     simp⟩) .nil
 rw[iu]at this
 exact this
end Go.Ab
namespace Go.Ab
variable [eg]
variable {P:Program} {nt:Nat} {ds:List Deferred} {s:St} {Γ:Cx} {a:Act} {w:World}
theorem rl (hm:Mem Γ) {k b:Nat} {blk cB:a9} {pth:List Step} {x:PV} {us:List Value} (hg:get Γ.bx k=some blk) (hb:Γ.ι k=some b) (hx:aD Γ [x] us) (kC:pv blk pth x=some cB):
  ∃
   c e,Γ.heap[b]? =some (.cells c e (0,0))∧cW pth+us.length≤c.size∧cB.aC=blk.aC∧
   ∀c',c'.toList=bN c.toList (cW pth) us->cB.vB (Γ.jP b (.cells c' e (0,0)) k cB) (some b):=by
 have h:=hm.blk k blk hg
 cases blk with
 |
  box v=>
  obtain⟨b',c,e,h1,h2,h3⟩:=h
  rw[hb]at h1;cases h1
  simp only[pv]at kC
  split at kC
  ·rename_i v' Vu
   simp only[sJ]at kC;subst kC
   obtain⟨g1,g2,g3⟩:=yQ hx pth h3 Vu
   refine⟨c,e,h2,by simpa using g1,rfl,λc' Bz=> ?_⟩
   have iu:c'.size=c.size:=by rw[←Array.length_toList,Bz,fL g1,Array.length_toList]
   refine⟨b,c',e,rfl,by simp only[Cx.jP];rw[uJ (cX h2)],?_⟩
   rw[Bz]
   exact g3.mono (lL (cB:= .box v') hg hb h2 iu (Nat.le_refl _))
  ·simp at kC
 |
  arr sz l=>
  obtain⟨h1,h2,h3⟩:=h
  rw[hb]at h3
  obtain⟨c,e,cs,rest,h4,h5,h6,Gj⟩:=h3
  cases pth with
  |nil=>simp[pv]at kC
  |cons st r=>
  cases st with
  |f=>simp[pv]at kC
  |
   i j sz''=>
   simp only[pv]at kC
   split at kC
   ·rename_i hs;subst hs
    split at kC
    ·rename_i cj hc
     split at kC
     ·rename_i c2 AP
      simp only[sJ]at kC;subst kC
      have r3:=h6.at hc
      obtain⟨g4,g5,g6⟩:=yQ hx r r3 AP
      have g7:=r3.iw
      have:=yP h6 hc (by omega) g5 g6
      have hj:=(List.getElem?_eq_some_iff.1 hc).1
      rw[ie h1 (by omega)]at this
      have hle:cW (Step.i j sz''::r)+us.length≤cs.length:=by simp only[cW];exact this.1
      have OE:c.size=cs.length+rest.length:=by rw[←Array.length_toList,h5];simp
      refine⟨c,e,h4,by omega,by simp[a9.aC],λc' Bz=> ?_⟩
      have iu:c'.size=c.size:=by rw[←Array.length_toList,Bz,fL (by simp;omega),Array.length_toList]
      have OF:=lL (Γ:=Γ) (cB:= .arr sz'' (l.set j c2)) hg hb h4 iu (by simp[a9.aC])
      refine⟨oW h1 (by rw[g5];exact h1 cj (List.mem_of_getElem? hc)),h2,c',e,bN cs (cW (Step.i j sz''::r)) us,rest,by simp only[Cx.jP];rw[uJ (cX h4)],?_,?_,Gj⟩
      ·rw[Bz,h5];exact splice_append hle
      ·exact(by simpa only[cW]using this.2:aD Γ _ _).mono OF
     ·simp at kC
    ·simp at kC
   ·simp at kC
  |w o n s=>simp[pv]at kC
 |map b0 ks vs l=>simp[pv]at kC
where
 splice_append {cs rest us:List Value} {o:Nat} (h:o+us.length≤cs.length):bN (cs++rest) o us=bN cs o us++rest:=by
  simp only[bN]
  rw[List.take_append_of_le_length (by omega),List.drop_append_of_le_length (by omega)]
  simp
theorem Ju {o:Oper} {t:TypeId} {n:Nat} {x y:Operand} {x' y':AX} {K:St->Prop} (ho:o.op= .store t x y) (hn:gx P t=some n) (hx:gq x=some x') (hy:gq y=some y')
  (hs:hU nt ds s Γ a) (hw:w.heap=Γ.heap) (hd:o.dst=none) (he:ex s o.dst (.store n x' y') K):kS P nt ds o a w Γ K:=by
 simp only[ex]at he
 obtain⟨p,hp,sG⟩:=cO hx hs rfl he
 obtain⟨v,hv,m7⟩:=cO hy hs rfl hp
 split at hv
 ·rename_i k pth aC
  split at hv
  ·rename_i blk hg
   split at hv
   ·rename_i cB kC
    obtain⟨⟨h1,h2,h3⟩,hK⟩:=hv
    rw[←hs.bx]at hg
    obtain⟨b,hι,hpv⟩:=sG.pt hg h1
    have m8:=m7.yV h3
    have SO:aD Γ [Ts blk v] (a.eval y).cells.toList:=by
     cases blk
     ·exact m8
     ·exact m8.wk
     ·exact m8
    obtain⟨c,e,g1,g2,g3,g4⟩:=rl hs.mem hg hι SO kC
    have hvs:(a.eval y).cells.size=n:=by rw[←h2,←m8.iw];simp
    obtain⟨w',r1,r2,r3⟩:=CU (P:=P) (w:=w) (t:=t) (b:=b) (o:=cW pth) (c:=c) (e:=e) (v:=a.eval y) (by rw[hw];exact g1) hn hvs (by have:=g2;simp at this;omega) (λz hz=>m8.one z hz)
    have iu:(bN c.toList (cW pth) (a.eval y).cells.toList).toArray.size=c.size:=by simp[fL (show cW pth+(a.eval y).cells.toList.length≤c.toList.length by simpa using g2)]
    have hle:=lL (Γ:=Γ) (cB:=cB) hg hι g1 iu (by omega)
    have iZ:=nv (Γ:=Γ) (cB:=cB) hs.mem hg hι g1 iu (by omega) (g4 _ (by simp))
    have h1:=hs.le hle iZ (vC:=put s.bx k cB) (by simp[Cx.jP,hs.bx])
    refine⟨.skip,undef,w',_,_,?_,.inr ⟨rfl,rfl⟩,by rw[hd];exact h1,by rw[r2,hw];rfl,hle,r3,hK⟩
    have e2:execOp a.eval o=(do Instr.storeAt t (a.eval x) (a.eval y);Pure.pure Next.skip):=by unfold execOp;rw[ho]
    rw[e2,bJ]
    simp only[Instr.storeAt,hpv,Instr.sureAddr,bJ,Sem.run_pure,rJ,r1]
   ·exact hv.elim
  ·exact hv.elim
 ·exact hv.elim
theorem CV {str:Bool} {sz:Nat} {q:PV} {v:Value} {K:List PV->Prop} (hs:hU nt ds s Γ a) (hw:w.heap=Γ.heap) (h:src s str sz q K) (hr:aN Γ q v):
  ∃ys news,K ys∧pB w sz ys.length v news∧aD Γ ys news∧(∀x∈ys,x.width=sz):=by
 unfold src at h
 split at h
 ·split at h
  ·rename_i bs
   obtain⟨st,hv,hd⟩:=hr.str
   obtain⟨rfl,hK⟩:=h
   have hlen:bs.length=st.size:=by rw[←hd];exact Array.length_toList
   refine⟨_,_,hK,.inr ⟨st,hv,by simp[hlen],rfl,rfl⟩,?_,?_⟩
   ·rw[hd]
    clear hK hlen hd hv hr
    induction bs with
    |nil=>exact .nil
    |cons b bs ih=>exact .int _ _ ih
   ·intro x hx;obtain⟨b,_,rfl⟩:=List.mem_map.1 hx;rfl
  ·exact h.elim
 ·obtain⟨bB,l,cs,ad,bu,⟨h1,hK⟩,hv,hl,lW,hle,lX⟩:=oD hs h hr
  refine⟨l,cs,hK,.inl ⟨ad,bu,hv,λj1=> ?_⟩,hl,λx hx=> ?_⟩
  ·obtain⟨b,o,e1,e2⟩:=lW (by intro h;subst h;simp at j1)
   exact⟨b,o,e1,by rw[hw];exact e2⟩
  ·rcases h1 with rfl|rfl
   ·simp at hx
   ·exact lX x hx
end Go.Ab
namespace Go.Ab
variable [eg]
variable {P:Program} {nt:Nat} {ds:List Deferred} {s:St} {Γ:Cx} {a:Act} {w:World}
theorem yf (Γ:Cx) (o:Obj) {k:Nat} {blk cB:a9} (hk:get Γ.bx k=some blk) (ht:blk.aC<cB.aC):Le Γ (Γ.ext o k cB) where
 heap b hb _:=lK _ _ hb
 il b hb h:=by
  obtain⟨i,bl,hg,hi⟩:=h
  simp only[Cx.ext]at hg hi
  by_cases iK:i=k
  ·subst iK;simp at hi;omega
  ·rw[if_neg iK]at hi
   rw[cH _ _ _ _ (λh=>iK h.symm)]at hg
   exact⟨i,bl,hg,hi⟩
 ef:=rfl
 size:=by simp[Cx.ext]
 ref i bl h:=by
  by_cases iK:i=k
  ·subst iK
   rw[hk]at h;cases h
   exact⟨cB,by simp[Cx.ext,dj],by omega,λe=>by omega⟩
  ·exact⟨bl,by simp only[Cx.ext];rw[cH _ _ _ _ (λh=>iK h.symm)];exact h,Nat.le_refl _,λ_=>⟨by simp[Cx.ext,iK],λb _ cs e hc=>⟨cs,by rw[←hc];exact lK _ _ (cX hc),rfl⟩⟩⟩
theorem Lt (hm:Mem Γ) {o:Obj} {k:Nat} {blk cB:a9} (hk:get Γ.bx k=some blk) (ht:blk.aC<cB.aC) (hr:cB.vB (Γ.ext o k cB) (some Γ.heap.size)):Mem (Γ.ext o k cB) where
 blk i bl h:=by
  by_cases iK:i=k
  ·subst iK
   simp only[Cx.ext,dj,sJ]at h
   subst h
   have:(Γ.ext o i cB).ι i=some Γ.heap.size:=by simp[Cx.ext]
   rw[this];exact hr
  ·simp only[Cx.ext]at h
   rw[cH _ _ _ _ (λh=>iK h.symm)]at h
   have:=hm.blk i bl h
   have e:(Γ.ext o k cB).ι i=Γ.ι i:=by simp[Cx.ext,iK]
   rw[e]
   exact this.mono (yf Γ o hk ht) (λb hb=>by rw[hb]at this;exact lK _ _ this.lt)
 inj i j b hi hj h1 h2:=by
  simp only[Cx.ext,fg]at hi hj h1 h2
  by_cases iK:i=k<;>by_cases sY:j=k
  ·rw[iK,sY]
  ·rw[if_pos iK]at h1
   rw[if_neg sY]at h2
   rw[if_neg (λh=>sY h.symm)]at hj
   obtain⟨bl,HP⟩:=Option.isSome_iff_exists.1 hj
   have:=hm.lt ⟨j,bl,HP,h2⟩
   simp at h1;omega
  ·rw[if_neg iK]at h1
   rw[if_pos sY]at h2
   rw[if_neg (λh=>iK h.symm)]at hi
   obtain⟨bl,HP⟩:=Option.isSome_iff_exists.1 hi
   have:=hm.lt ⟨i,bl,HP,h1⟩
   simp at h2;omega
  ·rw[if_neg iK]at h1
   rw[if_neg sY]at h2
   rw[if_neg (λh=>iK h.symm)]at hi
   rw[if_neg (λh=>sY h.symm)]at hj
   exact hm.inj i j b hi hj h1 h2
 ef b h:=by have:=hm.ef b h;simp only[Cx.ext,Array.size_push];omega
 apart b h hp:=by
  have fZ:=hm.ef b hp
  exact hm.apart b ((yf Γ o hk ht).il b fZ h) hp
 xC:=hm.mh (yf Γ o hk ht)
theorem n7 {bx:List (Nat×a9)} (h:∀i,get bx i=get Γ.bx i):Le Γ {Γ with bx:=bx} where
 heap _ _ _:=rfl
 il b _ hm:=by obtain⟨k,blk,hg,hk⟩:=hm;exact⟨k,blk,by rw[←h];exact hg,hk⟩
 ef:=rfl
 size:=Nat.le_refl _
 ref k blk hg:=⟨blk,by show get bx k=_;rw[h];exact hg,Nat.le_refl _,λ_=>⟨rfl,λ_ _ cs _ hc=>⟨cs,hc,rfl⟩⟩⟩
theorem y9 (hm:Mem Γ) {bx:List (Nat×a9)} (h:∀i,get bx i=get Γ.bx i):Mem {Γ with bx:=bx} where
 blk k blk hg:=(hm.blk k blk (by rw[←h];exact hg)).mono (n7 h) (λ_ _=>rfl)
 inj i j b hi hj h1 h2:=hm.inj i j b (by rw[←h];exact hi) (by rw[←h];exact hj) h1 h2
 ef:=hm.ef
 apart b hb:=hm.apart b ((n7 h).il b (hm.lt (by obtain⟨k,blk,hg,hk⟩:=hb;exact⟨k,blk,by rw[←h];exact hg,hk⟩)) hb)
 xC:=hm.mh (n7 h)
theorem lM {α:Type} {l:List (Nat×α)} {k:Nat} {x:α} (h:get l k=some x):∀i,get (put l k x) i=get l i:=by
 intro i
 rw[fg]
 split
 ·subst_vars;exact h.symm
 ·rfl
theorem BK {o:Oper} {k d sz:Nat} {blk:a9} {l:List PV} {cs rest:List Value} {e:TypeId} {cap:Nat} {w':World} {K:St->Prop} (hs:hU nt ds s Γ a) (hw:w.heap=Γ.heap) (hk:o.dst=some d) (fZ:d<nt) (hg:get s.bx k=some blk)
  (ht:blk.aC<l.length) (iu:0<sz) (hr:aD Γ l cs) (lX:∀x∈l,x.width=sz) (BB:cap*sz=(cs++rest).length) (wY:l.length≤cap) (Gj:∀v∈rest,fY v=true)
  (iN:(execOp a.eval o).run P w= .ok (.value (.slice (some ⟨w.heap.size,0,none⟩) l.length cap)) w') (rS:w'.heap=w.heap.push (.cells (cs++rest).toArray e (0,0))) (oT:WF w w')
  (hK:K {env:=put s.env d (.rs k [] 0 l.length l.length sz .tip),bx:=put s.bx k (.arr sz l)}):kS P nt ds o a w Γ K:=by
 rw[←hs.bx]at hg
 have hle:=yf Γ (.cells (cs++rest).toArray e (0,0)) (k:=k) (cB:= .arr sz l) hg (by simpa[a9.aC]using ht)
 have hh:(Γ.ext (.cells (cs++rest).toArray e (0,0)) k (.arr sz l)).heap[Γ.heap.size]? =some (.cells (cs++rest).toArray e (0,0)):=by simp[Cx.ext]
 have iZ:Mem (Γ.ext (.cells (cs++rest).toArray e (0,0)) k (.arr sz l)):=Lt hs.mem hg (by simpa[a9.aC]using ht) ⟨lX,iu,_,e,cs,rest,hh,rfl,hr.mono hle,Gj⟩
 have h1:=hs.le hle iZ (vC:=put s.bx k (.arr sz l)) (by simp[Cx.ext,hs.bx])
 have h2:aN (Γ.ext (.cells (cs++rest).toArray e (0,0)) k (.arr sz l)) (.rs k [] 0 l.length l.length sz .tip) (.slice (some ⟨w.heap.size,0,none⟩) l.length cap):=by
  rw[hw]
  simp only[aN]
  refine .rs k [] 0 _ _ sz _ _ (.arr sz l) ⟨by simp[Cx.ext,dj],by simp[a9.aC]⟩ rfl (λ_=>⟨_,_,rfl,?_⟩) .nil
  unfold jc
  have:(Γ.ext (.cells (cs++rest).toArray e (0,0)) k (.arr sz l)).ι k=some Γ.heap.size:=by simp[Cx.ext]
  rw[this]
  exact⟨wY,.inr (by simp[cW]),trivial,λ_=>⟨rfl,_,e,hh,by simpa using BB⟩⟩
 have h3:=h1.put (d:=some d) (λj hj=>by cases hj;exact fZ) h2
 exact⟨_,_,_,_,_,iN,.inl rfl,by rw[hk];exact h3,by rw[rS,hw];rfl,hle,oT,hK⟩
theorem sK {o:Oper} {b:Builtin} {x y:Operand} {t u:TypeId} {f:Array TypeId->TypeId->Array Value->Sem Value} (ho:o.op= .call {callee:= .builtin b,args:= #[x,y],argTypes:= #[t,u]})
  (hb:∀ {c:Array Bool} {args:Array Value},builtin b #[t,u] o.type c args=(do Pure.pure (Next.value (←f #[t,u] o.type args)))):
  execOp a.eval o=(do Pure.pure (Next.value (←f #[t,u] o.type #[a.eval x,a.eval y]))):=by
 have e1:Array.map a.eval #[x,y]= #[a.eval x,a.eval y]:=by simp
 rw[←e1,←hb (c:=(#[x,y]:Array Operand).map λ| .const _=>true|_=>false)]
 unfold execOp
 rw[ho]
 rfl
theorem j5 {o:Oper} {x y:Operand} {t u:TypeId} (ho:o.op= .call {callee:= .builtin .append,args:= #[x,y],argTypes:= #[t,u]}) {r:Value} {w':World}
  (h:(Builtin.append_ #[t,u] o.type #[a.eval x,a.eval y]).run P w= .ok r w'):(execOp a.eval o).run P w= .ok (.value r) w':=by
 have e2:execOp a.eval o=(do Pure.pure (Next.value (←Builtin.append_ #[t,u] o.type #[a.eval x,a.eval y]))):=sK ho rfl
 rw[e2,bJ,h];rfl
theorem aD.El {l:List PV} {cs:List Value} {sz:Nat} (h:aD Γ l cs) (hw:∀x∈l,x.width=sz) (n:Nat) (hn:n≤l.length):aD Γ (l.take n) (cs.take (n*sz)):=by
 have e1:l=l.take n++l.drop n:=by rw[List.take_append_drop]
 rw[e1]at h
 obtain⟨c1,v1,rfl,r1,r2⟩:=h.split
 have l1:c1.length=n*sz:=by rw[r1.length,ie hw hn]
 rw[←l1,List.take_left];exact r1
theorem aD.Tt {l:List PV} {cs:List Value} {sz:Nat} (h:aD Γ l cs) (hw:∀x∈l,x.width=sz) (n:Nat) (hn:n≤l.length):aD Γ (l.drop n) (cs.drop (n*sz)):=by
 have e1:l=l.take n++l.drop n:=by rw[List.take_append_drop]
 rw[e1]at h
 obtain⟨c1,v1,rfl,r1,r2⟩:=h.split
 have l1:c1.length=n*sz:=by rw[r1.length,ie hw hn]
 rw[←l1,List.drop_left];exact r2
theorem aD.Jv {l ys:List PV} {cs news:List Value} {sz:Nat} (h:aD Γ l cs) (hw:∀x∈l,x.width=sz) (hy:aD Γ ys news) (hyw:∀x∈ys,x.width=sz) (off n:Nat) (hn:n≤ys.length) (ho:off+n≤l.length):
  aD Γ (l.take off++ys.take n++l.drop (off+n)) (bN cs (off*sz) (news.take (n*sz))):=by
 have hl:(news.take (n*sz)).length=n*sz:=by
  rw[lJ,hy.length,bP hyw];exact Nat.min_eq_left (Nat.mul_le_mul_right _ hn)
 simp only[bN,hl]
 rw[show off*sz+n*sz=(off+n)*sz by rw[Nat.add_mul]]
 exact((h.El hw off (by omega)).append (hy.El hyw n hn)).append (h.Tt hw (off+n) ho)
theorem za {cs rest us:List Value} {o:Nat} (h:o+us.length≤cs.length):bN (cs++rest) o us=bN cs o us++rest:=by
 simp only[bN]
 rw[List.take_append_of_le_length (by omega),List.drop_append_of_le_length h,List.append_assoc,List.append_assoc,List.append_assoc]
theorem sL {z:Array Value} (h0:0<z.size) (h:z.toList.all fY=true) {n:Nat}:∀v∈(Builtin.zeroCells z n).toList,fY v=true:=by
 intro v hv
 simp only[Builtin.zeroCells,Array.toList_map,List.mem_map]at hv
 obtain⟨j,_,rfl⟩:=hv
 have fZ:j%z.size<z.size:=Nat.mod_lt _ h0
 rw[getElem!_pos z _ fZ]
 exact List.all_eq_true.1 h _ (by simp)
theorem zb {o:Oper} {t u e:TypeId} {d:TypeDesc} {i:TypeInfo} {z:Value} {x y:Operand} {x' y':AX} {str:Bool} {K:St->Prop} (ho:o.op= .call {callee:= .builtin .append,args:= #[x,y],argTypes:= #[t,u]})
  (ht:P.underlying t=some (.slice e)) (hu:P.underlying u=some d) (Lc:(∃x,d= .slice x)∨d= .string) (hi:P.info? e=some i) (hz:i.zero=some z) (Vx:z.cells.size=i.size) (j1:0<i.size) (YT:z.cells.toList.all fY=true)
  (hx:gq x=some x') (hy:gq y=some y') (hs:hU nt ds s Γ a) (hw:w.heap=Γ.heap) (hd:∀k,o.dst=some k->k<nt) (he:ex s o.dst (.append i.size i.bytes str x' y') K):kS P nt ds o a w Γ K:=by
 simp only[ex]at he
 obtain⟨p,hp,sG⟩:=cO hx hs rfl he
 obtain⟨q,hq,m7⟩:=cO hy hs rfl hp
 obtain⟨ys,news,hA,DU,yK,yL⟩:=CV hs hw hq m7
 have kW:news.length=ys.length*i.size:=by rw[yK.length,bP yL]
 have Vz:=yK.one
 have hz1:∀ {n:Nat},∀v∈(Builtin.zeroCells z.cells n).toList,fY v=true:=sL (by omega) YT
 --a fresh array out of what is there and what comes
 have fresh:∀ {k:Nat} {ad:Option Addr} {l:List PV} {cs:List Value} {bu:Nat},o.dst=some k->a.eval x= .slice ad l.length bu->bu<l.length+ys.length->aD Γ l cs->(∀x∈l,x.width=i.size)->
   (l≠[]->∃b o,ad=some ⟨b,o,none⟩∧∀i c,cs[i]? =some c->cell Γ.heap b (o+i)=some c)->(l.length+ys.length)*i.bytes≤140737488355328->l.length+ys.length≤9223372036854775807->
   ∃
    w' cap,(execOp a.eval o).run P w= .ok (.value (.slice (some ⟨w.heap.size,0,none⟩) (l++ys).length cap)) w'∧(l++ys).length≤cap∧WF w w'∧
    w'.heap=w.heap.push (.cells ((cs++news)++(Builtin.zeroCells z.cells (cap-(l.length+ys.length))).toList).toArray e (0,0))∧cap*i.size=((cs++news)++(Builtin.zeroCells z.cells (cap-(l.length+ys.length))).toList).length:=by
  intro k ad l cs bu hk hv fZ hl lX lW hb h63
  have sI:cs.length=l.length*i.size:=by rw[hl.length,bP lX]
  obtain⟨w',cap,r1,r2,r3,r4⟩:=vL (P:=P) (w:=w) (ty:=o.type) ht hu Lc hi hz (ad:=ad) (sLen:=l.length) (sCap:=bu) (n:=ys.length) (y:=a.eval y) (olds:=cs) (news:=news)
   (.inl ⟨ad,bu,rfl,λj1=>by rw[hw];exact lW (by intro h;subst h;simp at j1)⟩) sI DU kW fZ h63 hb
  refine⟨w',cap,?_,by simpa using r2,r4,by simpa using r3,?_⟩
  ·rw[←hv]at r1
   rw[List.length_append]
   exact j5 ho r1
  ·simp only[List.length_append,Array.length_toList,pD,Vx,sI,kW,←Nat.add_mul]
   congr 1;omega
 unfold gE at hA
 split at hA
 ·exact hA.elim
 ·rename_i k hk
  split at hA
  ·rename_i sz0 l
   obtain⟨⟨h1,h2,h3,h4⟩,hK⟩:=hA
   obtain⟨ad,bu,cs,hv,hl,lX,hc,Oy,hb⟩:=sG.sl
   have hrc:=Oy rfl
   subst hrc
   by_cases Ea:ys=[]
   ·subst Ea
    have KP:l=[]:=by rcases h2 with h2|h2;exact h2;exact absurd rfl h2.2
    subst KP
    have KR:news=[]:=List.eq_nil_of_length_eq_zero (by simpa using kW)
    subst KR
    have:=mi (P:=P) (w:=w) (ty:=o.type) ht hu Lc hi (ad:=ad) (sLen:=0) (sCap:=0) DU (Nat.le_refl _)
    rw[show Value.slice ad 0 0=a.eval x from hv.symm]at this
    exact Jr (ad:=ad) hs hw hk (hd k hk) h1 j1 (by rw[j5 ho this,hv];rfl) hK
   ·have ak4:∀x∈l,x.width=i.size:=by
     rcases h2 with h2|h2
     ·subst h2;simp
     ·rw[←h2.1];exact lX
    have CE:0<ys.length:=List.length_pos_iff.2 Ea
    obtain⟨w',cap,r1,r2,r3,r4,r5⟩:=fresh hk hv (by omega) hl ak4 (λfc=>let ⟨b,o,g1,_,_,g4⟩:=hb fc;⟨b,o,g1,g4⟩) h3 h4
    exact n6 hs hw hk (hd k hk) h1 j1 (hl.append yK) (λx hx=>(List.mem_append.1 hx).elim (ak4 x) (yL x)) r5 r2 hz1 r1 r4 r3 (by rw[List.length_append];exact hK)
  ·rename_i k2 len aC bB
   split at hA
   ·rename_i sz'' l hg
    obtain⟨⟨h1,h2,h3,h4,h5,h6⟩,hK⟩:=hA
    subst h1 h2 h3 h4
    have kQ:=hg
    rw[←hs.bx]at kQ
    obtain⟨ad,bu,hv,dO⟩:=sG.rs kQ rfl
    obtain⟨lX,_,kO⟩:=hs.mem.blk k2 _ kQ
    unfold jc at dO
    cases hι:Γ.ι k2 with
    |
     none=>
     rw[hι]at dO
     have KP:l=[]:=List.eq_nil_of_length_eq_zero dO.1
     subst KP
     obtain⟨_,rfl,_⟩:=dO
     by_cases Ea:ys=[]
     ·subst Ea
      have KR:news=[]:=List.eq_nil_of_length_eq_zero (by simpa using kW)
      subst KR
      have:=mi (P:=P) (w:=w) (ty:=o.type) ht hu Lc hi (ad:=ad) (sLen:=0) (sCap:=0) DU (Nat.le_refl _)
      rw[show Value.slice ad 0 0=a.eval x from hv.symm]at this
      have kH:=lM kQ
      have q1:=hs.le (n7 kH) (y9 hs.mem kH) (vC:=put s.bx k2 (.arr i.size [])) (by rw[hs.bx])
      have q2:=(sG.mono (n7 kH))
      have q3:=q1.put (d:=some k) (λj hj=>by cases hj;exact hd k hk) q2
      exact⟨_,_,w,_,{Γ with bx:=put Γ.bx k2 (.arr i.size [])},j5 ho this,.inl rfl,by rw[hk];exact q3,hw,n7 kH,WF.refl w,hK⟩
     ·have CE:0<ys.length:=List.length_pos_iff.2 Ea
      obtain⟨w',cap,r1,r2,r3,r4,r5⟩:=fresh (l:=[]) (cs:=[]) hk hv (by simpa using CE) .nil (by simp) (by simp) (by simpa using h5) (by simpa using h6)
      exact BK (l:=[]++ys) hs hw hk (hd k hk) hg (by simpa[a9.aC]using CE) j1 (aD.nil.append yK) (by simpa using yL) r5 r2 hz1 r1 r4 r3 (by rw[List.length_append];exact hK)
    |
     some b=>
     rw[hι]at dO kO
     obtain⟨o1,o2,_,o4⟩:=dO
     obtain⟨_,Gk,e0,q1,q2⟩:=o4 rfl
     obtain⟨c,ce,cs,rest,h7,h8,h9,Gj⟩:=kO
     rw[q1]at h7
     simp only[sJ,Obj.cells.injEq]at h7
     obtain⟨rfl,rfl,_⟩:=h7
     have sI:cs.length=l.length*i.size:=by rw[h9.length,bP lX]
     have OE:Gk.size=cs.length+rest.length:=by rw[←Array.length_toList,h8];simp
     simp only[Nat.zero_add]at q2
     by_cases sZ:l.length+ys.length≤bu
     ·by_cases hz0:bu=0
      ·have KP:l=[]:=List.eq_nil_of_length_eq_zero (by omega)
       have hy0:ys=[]:=List.eq_nil_of_length_eq_zero (by omega)
       subst KP hy0 hz0
       have KR:news=[]:=List.eq_nil_of_length_eq_zero (by simpa using kW)
       subst KR
       have:=mi (P:=P) (w:=w) (ty:=o.type) ht hu Lc hi (ad:=ad) (sLen:=0) (sCap:=0) DU (Nat.le_refl _)
       rw[show Value.slice ad 0 0=a.eval x from hv.symm]at this
       have kH:=lM kQ
       have q1:=hs.le (n7 kH) (y9 hs.mem kH) (vC:=put s.bx k2 (.arr i.size [])) (by rw[hs.bx])
       have q2:=(sG.mono (n7 kH))
       have q3:=q1.put (d:=some k) (λj hj=>by cases hj;exact hd k hk) q2
       exact⟨_,_,w,_,{Γ with bx:=put Γ.bx k2 (.arr i.size [])},j5 ho this,.inl rfl,by rw[hk];exact q3,hw,n7 kH,WF.refl w,hK⟩
      ·rcases o2 with o2|rfl
       ·exact absurd o2 hz0
       simp only[cW,Nat.zero_mul,Nat.add_zero]at hv
       have w7:0+l.length*i.size+ys.length*i.size≤Gk.size:=by
        rw[←q2,Nat.zero_add,←Nat.add_mul];exact Nat.mul_le_mul_right _ sZ
       obtain⟨w',r1,r2,r3⟩:=pE (P:=P) (w:=w) (ty:=o.type) ht hu Lc hi (b:=b) (o:=0) (sLen:=l.length) (sCap:=bu) (n:=ys.length) (c:=Gk) (ce:=e0) DU kW Vz sZ (by rw[hw];exact q1) w7
       rw[←hv]at r1
       have HQ:bN Gk.toList (0+l.length*i.size) news=(cs++news)++rest.drop news.length:=by
        rw[h8,Nat.zero_add,←sI]
        simp only[bN]
        rw[List.take_left,←List.drop_drop,List.drop_left]
       have KS:(bN Gk.toList (0+l.length*i.size) news).toArray.size=Gk.size:=by
        have:=fL (cs:=Gk.toList) (us:=news) (o:=0+l.length*i.size) (by rw[kW];simpa using w7)
        simpa using this
       have hle:=lL (Γ:=Γ) (cB:= .arr i.size (l++ys)) kQ hι q1 KS (by simp[a9.aC])
       have KT:(a9.arr i.size (l++ys)).vB (Γ.jP b (.cells (bN Gk.toList (0+l.length*i.size) news).toArray e0 (0,0)) k2 (.arr i.size (l++ys))) (some b):=
        ⟨λx hx=>(List.mem_append.1 hx).elim (lX x) (yL x),j1,_,e0,cs++news,rest.drop news.length,by simp only[Cx.jP];rw[uJ (cX q1)],by simpa using HQ,(h9.append yK).mono hle,λv hv=>Gj v (List.mem_of_mem_drop hv)⟩
       have iZ:=nv (Γ:=Γ) (cB:= .arr i.size (l++ys)) hs.mem kQ hι q1 KS (by simp[a9.aC]) KT
       have t1:=hs.le hle iZ (vC:=put s.bx k2 (.arr i.size (l++ys))) (by simp[Cx.jP,hs.bx])
       have t2:aN (Γ.jP b (.cells (bN Gk.toList (0+l.length*i.size) news).toArray e0 (0,0)) k2 (.arr i.size (l++ys))) (.rs k2 [] 0 (l.length+ys.length) (l.length+ys.length) i.size .tip) (.slice (some ⟨b,0,none⟩) (l.length+ys.length) bu):=by
        simp only[aN]
        refine .rs k2 [] 0 _ _ i.size _ _ (.arr i.size (l++ys)) ⟨by simp[Cx.jP,dj],by simp[a9.aC]⟩ rfl (λ_=>⟨_,_,rfl,?_⟩) .nil
        unfold jc
        rw[show(Γ.jP b (.cells (bN Gk.toList (0+l.length*i.size) news).toArray e0 (0,0)) k2 (.arr i.size (l++ys))).ι k2=some b from hι]
        refine⟨sZ,.inr (by simp[cW]),trivial,λ_=>⟨rfl,_,e0,by simp only[Cx.jP];rw[uJ (cX q1)],by rw[KS,Nat.zero_add];exact q2⟩⟩
       have t3:=t1.put (d:=some k) (λj hj=>by cases hj;exact hd k hk) t2
       exact⟨_,_,w',_,_,j5 ho r1,.inl rfl,by rw[hk];exact t3,by rw[r2,hw];rfl,hle,r3,hK⟩
     ·have lW:l≠[]->∃b o,ad=some ⟨b,o,none⟩∧∀i c,cs[i]? =some c->cell Γ.heap b (o+i)=some c:=by
       intro fc
       have:=List.length_pos_iff.2 fc
       rcases o2 with o2|rfl
       ·omega
       exact⟨b,_,rfl,by simpa[cW]using lr q1 cs rest h8⟩
      obtain⟨w',cap,r1,r2,r3,r4,r5⟩:=fresh hk hv (by omega) h9 lX lW h5 h6
      have hy0:0<ys.length:=by omega
      exact BK (l:=l++ys) hs hw hk (hd k hk) hg (by simp[a9.aC];omega) j1 (h9.append yK) (λx hx=>(List.mem_append.1 hx).elim (lX x) (yL x)) r5 r2 hz1 r1 r4 r3 (by rw[List.length_append];exact hK)
   ·exact hA.elim
  ·rename_i k2 len aC bB n
   split at hA
   ·rename_i sz'' l hg
    obtain⟨⟨h1,h2,h3,hln,aue,Ea,jz,h5,h6⟩,hK1,sX⟩:=hA
    subst h1 h2 h3
    have kQ:=hg
    rw[←hs.bx]at kQ
    obtain⟨ad,bu,hv,dO⟩:=sG.rs kQ rfl
    obtain⟨lX,_,kO⟩:=hs.mem.blk k2 _ kQ
    have CE:0<ys.length:=List.length_pos_iff.2 Ea
    have Pz:∀x∈l.take len,x.width=i.size:=λx hx=>lX x (List.mem_of_mem_take hx)
    have Gl:(l.take len).length=len:=by rw[lJ];omega
    unfold jc at dO
    cases hι:Γ.ι k2 with
    |
     none=>
     rw[hι]at dO
     obtain⟨rfl,rfl,Gp⟩:=dO
     simp only[na]at Gp
     subst Gp
     obtain⟨w',cap,r1,r2,r3,r4,r5⟩:=fresh (l:=[]) (cs:=[]) hk hv (by simpa using CE) .nil (by simp) (by simp) (by simpa using h5) (by simpa using h6)
     exact n6 (l:=[]++ys) hs hw hk (hd k hk) jz j1 (aD.nil.append yK) (by simpa using yL) r5 r2 hz1 r1 r4 r3 (by
      have:=sX (by omega)
      rw[List.take_zero]at this
      rw[List.length_append];simpa using this)
    |
     some b=>
     rw[hι]at dO kO
     obtain⟨o1,o2,Gp,_⟩:=dO
     simp only[na]at Gp
     subst Gp
     obtain⟨c,ce,cs,rest,h7,h8,h9,Gj⟩:=kO
     have sI:cs.length=l.length*i.size:=by rw[h9.length,bP lX]
     have OE:c.size=cs.length+rest.length:=by rw[←Array.length_toList,h8];simp
     have h9t:=h9.El lX len (by omega)
     by_cases sZ:len+ys.length≤bu
     ·have hz0:bu≠0:=by omega
      rcases o2 with o2|rfl
      ·exact absurd o2 hz0
      simp only[cW,Nat.zero_mul,Nat.add_zero]at hv
      have w7:0+len*i.size+ys.length*i.size≤cs.length:=by
       rw[sI,Nat.zero_add,←Nat.add_mul];exact Nat.mul_le_mul_right _ (by omega)
      obtain⟨w',r1,r2,r3⟩:=pE (P:=P) (w:=w) (ty:=o.type) ht hu Lc hi (b:=b) (o:=0) (sLen:=len) (sCap:=bu) (n:=ys.length) (c:=c) (ce:=ce) DU kW Vz sZ (by rw[hw];exact h7) (by omega)
      rw[←hv]at r1
      have hov:=h9.Jv lX yK yL len ys.length (Nat.le_refl _) (by omega)
      rw[List.take_length]at hov
      have HQ:bN c.toList (0+len*i.size) news=bN cs (len*i.size) news++rest:=by
       rw[h8,Nat.zero_add]
       exact za (by rw[kW];omega)
      have KS:(bN c.toList (0+len*i.size) news).toArray.size=c.size:=by
       have:=fL (cs:=c.toList) (us:=news) (o:=0+len*i.size) (by simp only[Array.length_toList,kW];omega)
       simpa using this
      have YU:(a9.arr i.size l).aC=(a9.arr i.size (l.take len++ys++l.drop (len+ys.length))).aC:=by simp[a9.aC];omega
      have hle:=lL (Γ:=Γ) (cB:= .arr i.size (l.take len++ys++l.drop (len+ys.length))) kQ hι h7 KS (by omega)
      have auf:∀x∈l.take len++ys++l.drop (len+ys.length),x.width=i.size:=by
       intro x hx
       rcases List.mem_append.1 hx with hx|hx
       ·rcases List.mem_append.1 hx with hx|hx
        ·exact Pz x hx
        ·exact yL x hx
       ·exact lX x (List.mem_of_mem_drop hx)
      rw[show news.take (ys.length*i.size)=news from tJ (by omega)]at hov
      have KT:(a9.arr i.size (l.take len++ys++l.drop (len+ys.length))).vB (Γ.jP b (.cells (bN c.toList (0+len*i.size) news).toArray ce (0,0)) k2 (.arr i.size (l.take len++ys++l.drop (len+ys.length)))) (some b):=
       ⟨auf,j1,_,ce,bN cs (len*i.size) news,rest,by simp only[Cx.jP];rw[uJ (cX h7)],by simpa using HQ,hov.mono hle,Gj⟩
      have iZ:=nv (Γ:=Γ) (cB:= .arr i.size (l.take len++ys++l.drop (len+ys.length))) hs.mem kQ hι h7 KS (by omega) KT
      have t1:=hs.le hle iZ (vC:=put s.bx k2 (.arr i.size (l.take len++ys++l.drop (len+ys.length)))) (by simp[Cx.jP,hs.bx])
      have t2:aN (Γ.jP b (.cells (bN c.toList (0+len*i.size) news).toArray ce (0,0)) k2 (.arr i.size (l.take len++ys++l.drop (len+ys.length)))) (.rs k2 [] 0 (len+ys.length) l.length i.size (.full bu)) (.slice (some ⟨b,0,none⟩) (len+ys.length) bu):=by
       simp only[aN]
       refine .rs k2 [] 0 _ _ i.size _ _ (.arr i.size (l.take len++ys++l.drop (len+ys.length))) ⟨by simp[Cx.jP,dj],by rw[←YU];simp[a9.aC]⟩ rfl (λ_=>⟨_,_,rfl,?_⟩) .nil
       unfold jc
       rw[show(Γ.jP b (.cells (bN c.toList (0+len*i.size) news).toArray ce (0,0)) k2 (.arr i.size (l.take len++ys++l.drop (len+ys.length)))).ι k2=some b from hι]
       exact⟨sZ,.inr (by simp[cW]),rfl,λhc=>by cases hc⟩
      have t3:=t1.put (d:=some k) (λj hj=>by cases hj;exact hd k hk) t2
      exact⟨_,_,w',_,_,j5 ho r1,.inl rfl,by rw[hk];exact t3,by rw[r2,hw];rfl,hle,r3,hK1 sZ⟩
     ·have lW:l.take len≠[]->∃b o,ad=some ⟨b,o,none⟩∧∀j x,(cs.take (len*i.size))[j]? =some x->cell Γ.heap b (o+j)=some x:=by
       intro fc
       have:=List.length_pos_iff.2 fc
       rcases o2 with o2|rfl
       ·omega
       refine⟨b,_,rfl,λj x hj=> ?_⟩
       have hb:=lr h7 cs rest h8
       have DW:cs[j]? =some x:=by
        rw[List.getElem?_take]at hj;split at hj
        ·exact hj
        ·cases hj
       simpa[cW]using hb j x DW
      obtain⟨w',cap,r1,r2,r3,r4,r5⟩:=fresh (l:=l.take len) hk (by rw[Gl];exact hv) (by rw[Gl];omega) h9t Pz lW (by rw[Gl];exact h5) (by rw[Gl];exact h6)
      exact n6 (l:=l.take len++ys) hs hw hk (hd k hk) jz j1 (h9t.append yK) (λx hx=>(List.mem_append.1 hx).elim (Pz x) (yL x)) r5 r2 hz1 r1 r4 r3 (by rw[List.length_append,Gl];exact sX (by omega))
   ·exact hA.elim
  ·rename_i k2 p off len aC bB
   obtain⟨sz'',l,cs,ad,bu,⟨⟨h1,rfl,h3,h4,h5⟩,hK⟩,hv,hl,lW,hle,lX⟩:=oD hs hA sG
   have hrc:bu=l.length:=by
    have PA:=hA
    simp only[content]at PA
    split at PA
    ·rename_i hb
     rw[←hs.bx]at hb
     obtain⟨ad2,ak5,qM,dO⟩:=sG.rs hb (by simpa[a9.aC]using PA.1.1)
     rw[hv]at qM
     simp only[Value.slice.injEq]at qM
     obtain⟨rfl,OF,rfl⟩:=qM
     unfold jc at dO
     split at dO
     ·omega
     ·have:=dO.2.2.1.clip rfl;omega
    ·rename_i hb
     split at PA
     ·rw[←hs.bx]at hb
      obtain⟨ad2,ak5,qM,dO⟩:=sG.rs hb (by simpa[a9.aC]using PA.1.1)
      rw[hv]at qM
      simp only[Value.slice.injEq]at qM
      obtain⟨rfl,OF,rfl⟩:=qM
      unfold jc at dO
      split at dO
      ·omega
      ·have:=dO.2.2.1.clip rfl;omega
     ·exact PA.elim
    ·exact PA.elim
   have CE:0<ys.length:=List.length_pos_iff.2 h3
   obtain⟨w',cap,r1,r2,r3,r4,r5⟩:=fresh hk hv (by omega) hl lX lW h4 h5
   exact n6 hs hw hk (hd k hk) h1 j1 (hl.append yK) (λx hx=>(List.mem_append.1 hx).elim (lX x) (yL x)) r5 r2 hz1 r1 r4 r3 (by rw[List.length_append];exact hK)
  ·exact hA.elim
end Go.Ab
namespace Go.Ab
variable [eg]
variable {P:Program} {nt:Nat} {ds:List Deferred} {s:St} {Γ:Cx} {a:Act} {w:World}
theorem Lu {o:Oper} {t u e:TypeId} {sz:Nat} {x y:Operand} {x' y':AX} {K:St->Prop} (ho:o.op= .call {callee:= .builtin .copy,args:= #[x,y],argTypes:= #[t,u]})
  (ht:P.underlying t=some (.slice e)) (iu:gx P e=some sz) (hx:gq x=some x') (hy:gq y=some y') (hs:hU nt ds s Γ a) (hw:w.heap=Γ.heap) (hd:∀k,o.dst=some k->k<nt) (he:ex s o.dst (.copy sz x' y') K):kS P nt ds o a w Γ K:=by
 simp only[ex]at he
 obtain⟨p,hp,sG⟩:=cO hx hs rfl he
 obtain⟨q,hq,m7⟩:=cO hy hs rfl hp
 have hA:∃ys news,jd s o.dst sz p ys K∧pB w sz ys.length (a.eval y) news∧aD Γ ys news∧(∀x∈ys,x.width=sz):=by
  split at hq
  ·exact CV hs hw hq m7
  ·exact CV hs hw hq m7
 obtain⟨ys,news,hA,DU,yK,yL⟩:=hA
 have kW:news.length=ys.length*sz:=by rw[yK.length,bP yL]
 have AW:∀ {r:Value} {w':World},(Builtin.copy_ #[t,u] o.type #[a.eval x,a.eval y]).run P w= .ok r w'->(execOp a.eval o).run P w= .ok (.value r) w':=by
  intro r w' h
  rw[sK ho rfl,bJ,h];rfl
 --nothing copied
 have none:∀ {ad:Option Addr} {len cap:Nat},a.eval x= .slice ad len cap->min ys.length len=0->(execOp a.eval o).run P w= .ok (.value (.int .i64 0)) w:=by
  intro ad len cap hv h0
  refine AW ?_
  have hlen:=pC (P:=P) DU
  have hf:(Builtin.firstCells sz 0 (a.eval y)).run P w= .ok #[] w:=by
   rcases DU with⟨ad2,rc,qM,h⟩|⟨str,qM,h2,rfl,rfl⟩
   ·rw[qM];cases ad2<;>simp[Builtin.firstCells,loadCells,loadCellsFrom]
   ·rw[qM];simp[Builtin.firstCells]
  have OD:Nat.min ys.length len=0:=h0
  rw[hv]
  cases ad<;>simp[Builtin.copy_,run_underlying ht,run_sizeOf iu,hlen,OD,hf,goInt,storeCells]
 unfold jd at hA
 split at hA
 ·rename_i k pth off len aC bB ck
  split at hA
  ·rename_i sz'' l hg
   obtain⟨⟨h1,rfl,rfl,rfl,h4⟩,hK⟩:=hA
   have kQ:=hg
   rw[←hs.bx]at kQ
   obtain⟨ad,bu,hv,dO⟩:=sG.rs kQ (by simpa[a9.aC]using h1)
   obtain⟨lX,j1,kO⟩:=hs.mem.blk k _ kQ
   by_cases h0:min ys.length len=0
   ·rw[h0]at hK
    have kH:∀i,get (put Γ.bx k (.arr sz'' (l.take off++ys.take 0++l.drop (off+0)))) i=get Γ.bx i:=lM (by simpa using kQ)
    have q1:=hs.le (n7 kH) (y9 hs.mem kH) (vC:=put s.bx k (.arr sz'' (l.take off++ys.take 0++l.drop (off+0)))) (by rw[hs.bx])
    have q3:=q1.put (p:= .int .i64 0) (v:= .int .i64 0) hd dU
    exact⟨_,_,w,_,_,none hv h0,.inl rfl,q3,hw,n7 kH,WF.refl w,hK⟩
   ·unfold jc at dO
    cases hι:Γ.ι k with
    |none=>rw[hι]at dO;omega
    |
     some b=>
     rw[hι]at dO kO
     obtain⟨o1,o2,_,_⟩:=dO
     rcases o2 with o2|rfl
     ·omega
     obtain⟨c,ce,cs,rest,h7,h8,h9,Gj⟩:=kO
     have sI:cs.length=l.length*sz'':=by rw[h9.length,bP lX]
     have OE:c.size=cs.length+rest.length:=by rw[←Array.length_toList,h8];simp
     have w7:off*sz''+(min ys.length len)*sz''≤cs.length:=by
      rw[sI,←Nat.add_mul];exact Nat.mul_le_mul_right _ (by omega)
     simp only[cW,Nat.zero_add]at hv
     obtain⟨w',r1,r2,r3⟩:=BI (P:=P) (w:=w) (u:=u) (ty:=o.type) ht iu (b:=b) (o:=off*sz'') (dLen:=len) (dCap:=bu) (n:=min ys.length len) (c:=c) (ce:=ce) DU kW rfl yK.one (by rw[hw];exact h7) (by omega)
     rw[←hv]at r1
     have fZ:(news.take (min ys.length len*sz'')).length=min ys.length len*sz'':=by rw[lJ,kW];exact Nat.min_eq_left (Nat.mul_le_mul_right _ (by omega))
     have HQ:bN c.toList (off*sz'') (news.take (min ys.length len*sz''))=bN cs (off*sz'') (news.take (min ys.length len*sz''))++rest:=by
      rw[h8];exact rl.splice_append (by omega)
     have AY:(bN c.toList (off*sz'') (news.take (min ys.length len*sz''))).toArray.size=c.size:=by
      have:=fL (cs:=c.toList) (us:=news.take (min ys.length len*sz'')) (o:=off*sz'') (by simp only[Array.length_toList];omega)
      simpa using this
     have YU:(a9.arr sz'' (l.take off++ys.take (min ys.length len)++l.drop (off+min ys.length len))).aC=(a9.arr sz'' l).aC:=by simp[a9.aC];omega
     have hle:=lL (Γ:=Γ) (cB:= .arr sz'' (l.take off++ys.take (min ys.length len)++l.drop (off+min ys.length len))) kQ hι h7 AY (by omega)
     have iZ:=nv (Γ:=Γ) (cB:= .arr sz'' (l.take off++ys.take (min ys.length len)++l.drop (off+min ys.length len))) hs.mem kQ hι h7 AY (by omega)
      ⟨λx hx=>by
       rcases List.mem_append.1 hx with hx|hx
       ·rcases List.mem_append.1 hx with hx|hx
        ·exact lX x (List.mem_of_mem_take hx)
        ·exact yL x (List.mem_of_mem_take hx)
       ·exact lX x (List.mem_of_mem_drop hx),j1,_,ce,_,rest,by simp only[Cx.jP];rw[uJ (cX h7)],by simpa using HQ,
       (h9.Jv lX yK yL off (min ys.length len) (by omega) (by omega)).mono hle,Gj⟩
     have t1:=hs.le hle iZ (vC:=put s.bx k (.arr sz'' (l.take off++ys.take (min ys.length len)++l.drop (off+min ys.length len)))) (by simp[Cx.jP,hs.bx])
     have t3:=t1.put (p:= .int .i64 (min ys.length len:Nat)) (v:= .int .i64 (min ys.length len:Nat)) hd dU
     exact⟨_,_,w',_,_,AW r1,.inl rfl,t3,by rw[r2,hw];rfl,hle,r3,hK⟩
  ·rename_i v hg
   split at hA
   ·rename_i sz'' n l HL
    split at hA
    ·rename_i v' vE
     obtain⟨⟨h1,rfl,rfl,h4⟩,hK⟩:=hA
     have kQ:=hg
     rw[←hs.bx]at kQ
     obtain⟨ad,bu,hv,dO⟩:=sG.rs kQ (by simpa[a9.aC]using h1)
     unfold jc at dO
     obtain⟨b,c,ce,hι,h7,h8⟩:=hs.mem.blk k _ kQ
     rw[hι]at dO
     obtain⟨o1,o2,_,_⟩:=dO
     obtain⟨g1,g2⟩:=px pth h8 HL
     obtain⟨hl,hn,lX⟩:=g2.nX
     have YV:PV.width (.ar sz'' n l)=n*sz'':=rfl
     rw[YV]at g1 g2 hl
     have OG:=hl.Jv lX yK yL off (min ys.length len) (by omega) (by omega)
     have fZ:(news.take (min ys.length len*sz'')).length=min ys.length len*sz'':=by rw[lJ,kW];exact Nat.min_eq_left (Nat.mul_le_mul_right _ (by omega))
     have w7:off*sz''+(min ys.length len)*sz''≤n*sz'':=by rw[←Nat.add_mul];exact Nat.mul_le_mul_right _ (by omega)
     have SQ:aD Γ [.ar sz'' n (l.take off++ys.take (min ys.length len)++l.drop (off+min ys.length len))] (bN ((c.toList.drop (cW pth)).take (n*sz'')) (off*sz'') (news.take (min ys.length len*sz''))):=
      OG.Tr (by simp;omega) (λx hx=>by
       rcases List.mem_append.1 hx with hx|hx
       ·rcases List.mem_append.1 hx with hx|hx
        ·exact lX x (List.mem_of_mem_take hx)
        ·exact yL x (List.mem_of_mem_take hx)
       ·exact lX x (List.mem_of_mem_drop hx))
     obtain⟨c2,e2,k1,k2,k3,k4⟩:=rl (cB:= .box v') (pth:=pth) hs.mem kQ hι SQ (by simp only[pv,vE])
     rw[h7]at k1
     simp only[sJ,Obj.cells.injEq]at k1
     obtain⟨rfl,rfl,_⟩:=k1
     have SS:=oV (cs:=c.toList) (us:=news.take (min ys.length len*sz'')) (o:=cW pth) (m:=n*sz'') (p:=off*sz'') g1 (by omega)
     by_cases h0:min ys.length len=0
     ·rw[h0]at hK
      have YW:news.take (min ys.length len*sz'')=[]:=by rw[h0];simp
      have kX:(bN c.toList (cW pth) (bN ((c.toList.drop (cW pth)).take (n*sz'')) (off*sz'') (news.take (min ys.length len*sz''))))=c.toList:=by
       rw[SS,YW];simp[bN]
      have hle:=lL (Γ:=Γ) (c':=c) (cB:= .box v') kQ hι h7 rfl (Nat.le_refl _)
      have iZ:=nv (Γ:=Γ) (c':=c) (cB:= .box v') hs.mem kQ hι h7 rfl (Nat.le_refl _) (k4 c kX.symm)
      have t1:=hs.le hle iZ (vC:=put s.bx k (.box v')) (by simp[Cx.jP,hs.bx])
      have t3:=t1.put (p:= .int .i64 0) (v:= .int .i64 0) hd dU
      refine⟨_,_,w,_,_,none hv h0,.inl rfl,t3,?_,hle,WF.refl w,hK⟩
      simp only[Cx.jP]
      rw[hw]
      apply Array.ext_getElem?
      intro j
      by_cases hj:b=j
      ·subst hj;rw[uJ (cX h7)];exact h7
      ·rw[Array.getElem?_setIfInBounds_ne hj]
     ·rcases o2 with o2|rfl
      ·omega
      obtain⟨w',r1,r2,r3⟩:=BI (P:=P) (w:=w) (u:=u) (ty:=o.type) ht iu (b:=b) (o:=cW pth+off*sz'') (dLen:=len) (dCap:=bu) (n:=min ys.length len) (c:=c) (ce:=ce) DU kW rfl yK.one (by rw[hw];exact h7) (by simp only[Array.length_toList]at g1;omega)
      rw[←hv]at r1
      rw[←SS]at r2
      have AY:(bN c.toList (cW pth) (bN ((c.toList.drop (cW pth)).take (n*sz'')) (off*sz'') (news.take (min ys.length len*sz'')))).toArray.size=c.size:=by
       rw[SS]
       have:=fL (cs:=c.toList) (us:=news.take (min ys.length len*sz'')) (o:=cW pth+off*sz'') (by simp only[Array.length_toList]at g1⊢;omega)
       simpa using this
      have hle:=lL (Γ:=Γ) (cB:= .box v') kQ hι h7 AY (Nat.le_refl _)
      have iZ:=nv (Γ:=Γ) (cB:= .box v') hs.mem kQ hι h7 AY (Nat.le_refl _) (k4 _ (by simp))
      have t1:=hs.le hle iZ (vC:=put s.bx k (.box v')) (by simp[Cx.jP,hs.bx])
      have t3:=t1.put (p:= .int .i64 (min ys.length len:Nat)) (v:= .int .i64 (min ys.length len:Nat)) hd dU
      exact⟨_,_,w',_,_,AW r1,.inl rfl,t3,by rw[r2,hw];rfl,hle,r3,hK⟩
    ·exact hA.elim
   ·exact hA.elim
  ·exact hA.elim
 ·exact hA.elim
theorem Bf {z:PV} {zv:Value} (h:aD Γ [z] zv.cells.toList) (n:Nat):aD Γ (List.replicate n z) (Builtin.zeroCells zv.cells n).toList:=by
 have e:(Builtin.zeroCells zv.cells n).toList=(List.replicate n zv.cells.toList).flatten:=kY zv.cells n
 rw[e];exact jk h n
theorem zc {t e:TypeId} {ty:TypeId} {zv:Value} (ht:P.underlying t=some (.slice e)) (Px:∀w,(zeroValue e).run P w= .ok zv w)
  {b o dLen dCap m:Nat} {news:List Value} {c:Array Value} {ce:TypeId} (hm:news.take m=news) (h0:0<dLen) (hn:news=(Builtin.zeroCells zv.cells dLen).toList) (h1:∀v∈news,fY v=true)
  (hb:w.heap[b]? =some (.cells c ce (0,0))) (w7:o+news.length≤c.size):
  ∃
   w',(Builtin.clear_ #[t] ty #[.slice (some ⟨b,o,none⟩) dLen dCap]).run P w= .ok (.tuple #[]) w'∧
   w'.heap=w.heap.setIfInBounds b (.cells (bN c.toList o (news.take m)).toArray ce (0,0))∧WF w w':=by
 rw[hm]
 obtain⟨w',g1,g2,g3⟩:=j3 (P:=P) news w b o 0 c ce hb (by omega) h1
 refine⟨w',?_,by simpa using g2,g3⟩
 obtain⟨m,rfl⟩:∃m,dLen=m+1:=⟨dLen-1,by omega⟩
 rw[hn]at g1
 simp[Builtin.clear_,run_underlying ht,Px,g1]
theorem Lv {o:Oper} {t e:TypeId} {sz:Nat} {z:PV} {x:Operand} {x':AX} {K:St->Prop} (ho:o.op= .call {callee:= .builtin .clear,args:= #[x],argTypes:= #[t]})
  (ht:P.underlying t=some (.slice e)) (iu:gx P e=some sz) (hz:zeroOf P e=some z) (hx:gq x=some x') (hs:hU nt ds s Γ a) (hw:w.heap=Γ.heap) (he:ex s o.dst (.fill sz z x') K):kS P nt ds o a w Γ K:=by
 simp only[ex]at he
 obtain⟨p,hp,sG⟩:=cO hx hs rfl he
 obtain⟨hdn,hp⟩:=hp
 split at hp
 case h_2=>exact hp.elim
 rename_i k pth off len aC bB ck
 obtain⟨zv,Px,Vw,AU,_,Vx⟩:=ld (Γ:=Γ) hz
 have SM:z.width=sz:=by rw[iu]at AU;exact(Option.some.inj AU).symm
 obtain⟨ys,Ea⟩:∃ys,ys=List.replicate len z:=⟨_,rfl⟩
 obtain⟨news,OH⟩:∃news,news=(Builtin.zeroCells zv.cells len).toList:=⟨_,rfl⟩
 have yK:aD Γ ys news:=by rw[Ea,OH];exact Bf Vw len
 have yL:∀x∈ys,x.width=sz:=by rw[Ea];intro x hx;rw[List.eq_of_mem_replicate hx];exact SM
 have kW:news.length=ys.length*sz:=by rw[yK.length,bP yL]
 have SU:ys.length=len:=by rw[Ea];simp
 have hA:jd s none sz (.rs k pth off len aC bB ck) ys K:=by rw[Ea];exact hp
 have AW:∀ {r:Value} {w':World},(Builtin.clear_ #[t] o.type #[a.eval x]).run P w= .ok r w'->(execOp a.eval o).run P w= .ok (.value r) w':=by
  intro r w' h
  have e1:execOp a.eval o=(do Pure.pure (Next.value (←Builtin.clear_ #[t] o.type #[a.eval x]))):=by
   have e0:Array.map a.eval #[x]= #[a.eval x]:=by simp
   rw[←e0]
   have hb:builtin .clear #[t] o.type ((#[x]:Array Operand).map λ| .const _=>true|_=>false) (Array.map a.eval #[x])=(do Pure.pure (Next.value (←Builtin.clear_ #[t] o.type (Array.map a.eval #[x])))):=rfl
   rw[←hb]
   unfold execOp
   rw[ho]
   rfl
  rw[e1,bJ,h];rfl
 have none:∀ {ad:Option Addr} {len cap:Nat},a.eval x= .slice ad len cap->len=0->(execOp a.eval o).run P w= .ok (.value (.tuple #[])) w:=by
  intro ad len cap hv h0
  refine AW ?_
  rw[hv,h0]
  cases ad<;>simp[Builtin.clear_,run_underlying ht]
 unfold kS
 rw[hdn]
 have hyl:min ys.length len=len:=by rw[SU,Nat.min_self]
 have Eb:news.take (min ys.length len*sz)=news:=tJ (by rw[kW,hyl,SU];exact Nat.le_refl _)
 unfold jd at hA
 simp only at hA
 ·skip
  split at hA
  ·rename_i sz'' l hg
   obtain⟨⟨h1,rfl,rfl,rfl,h4⟩,hK⟩:=hA
   have kQ:=hg
   rw[←hs.bx]at kQ
   obtain⟨ad,bu,hv,dO⟩:=sG.rs kQ (by simpa[a9.aC]using h1)
   obtain⟨lX,j1,kO⟩:=hs.mem.blk k _ kQ
   by_cases h0:min ys.length len=0
   ·rw[h0]at hK
    have kH:∀i,get (put Γ.bx k (.arr sz'' (l.take off++ys.take 0++l.drop (off+0)))) i=get Γ.bx i:=lM (by simpa using kQ)
    have q1:=hs.le (n7 kH) (y9 hs.mem kH) (vC:=put s.bx k (.arr sz'' (l.take off++ys.take 0++l.drop (off+0)))) (by rw[hs.bx])
    exact⟨_,_,w,_,_,none hv (by omega),.inl rfl,q1,hw,n7 kH,WF.refl w,hK⟩
   ·unfold jc at dO
    cases hι:Γ.ι k with
    |none=>rw[hι]at dO;omega
    |
     some b=>
     rw[hι]at dO kO
     obtain⟨o1,o2,_,_⟩:=dO
     rcases o2 with o2|rfl
     ·omega
     obtain⟨c,ce,cs,rest,h7,h8,h9,Gj⟩:=kO
     have sI:cs.length=l.length*sz'':=by rw[h9.length,bP lX]
     have OE:c.size=cs.length+rest.length:=by rw[←Array.length_toList,h8];simp
     have w7:off*sz''+(min ys.length len)*sz''≤cs.length:=by
      rw[sI,←Nat.add_mul];exact Nat.mul_le_mul_right _ (by omega)
     simp only[cW,Nat.zero_add]at hv
     obtain⟨w',r1,r2,r3⟩:=zc (P:=P) (w:=w) (ty:=o.type) ht Px (b:=b) (o:=off*sz'') (dLen:=len) (dCap:=bu) (m:=min ys.length len*sz'') (c:=c) (ce:=ce) Eb (by omega) OH yK.one (by rw[hw];exact h7) (by rw[kW,SU];rw[hyl]at w7;omega)
     rw[←hv]at r1
     have fZ:(news.take (min ys.length len*sz'')).length=min ys.length len*sz'':=by rw[lJ,kW];exact Nat.min_eq_left (Nat.mul_le_mul_right _ (by omega))
     have HQ:bN c.toList (off*sz'') (news.take (min ys.length len*sz''))=bN cs (off*sz'') (news.take (min ys.length len*sz''))++rest:=by
      rw[h8];exact rl.splice_append (by omega)
     have AY:(bN c.toList (off*sz'') (news.take (min ys.length len*sz''))).toArray.size=c.size:=by
      have:=fL (cs:=c.toList) (us:=news.take (min ys.length len*sz'')) (o:=off*sz'') (by simp only[Array.length_toList];omega)
      simpa using this
     have YU:(a9.arr sz'' (l.take off++ys.take (min ys.length len)++l.drop (off+min ys.length len))).aC=(a9.arr sz'' l).aC:=by simp[a9.aC];omega
     have hle:=lL (Γ:=Γ) (cB:= .arr sz'' (l.take off++ys.take (min ys.length len)++l.drop (off+min ys.length len))) kQ hι h7 AY (by omega)
     have iZ:=nv (Γ:=Γ) (cB:= .arr sz'' (l.take off++ys.take (min ys.length len)++l.drop (off+min ys.length len))) hs.mem kQ hι h7 AY (by omega)
      ⟨λx hx=>by
       rcases List.mem_append.1 hx with hx|hx
       ·rcases List.mem_append.1 hx with hx|hx
        ·exact lX x (List.mem_of_mem_take hx)
        ·exact yL x (List.mem_of_mem_take hx)
       ·exact lX x (List.mem_of_mem_drop hx),j1,_,ce,_,rest,by simp only[Cx.jP];rw[uJ (cX h7)],by simpa using HQ,
       (h9.Jv lX yK yL off (min ys.length len) (by omega) (by omega)).mono hle,Gj⟩
     have t1:=hs.le hle iZ (vC:=put s.bx k (.arr sz'' (l.take off++ys.take (min ys.length len)++l.drop (off+min ys.length len)))) (by simp[Cx.jP,hs.bx])
     exact⟨_,_,w',_,_,AW r1,.inl rfl,t1,by rw[r2,hw];rfl,hle,r3,hK⟩
  ·rename_i v hg
   split at hA
   ·rename_i sz'' n l HL
    split at hA
    ·rename_i v' vE
     obtain⟨⟨h1,rfl,rfl,h4⟩,hK⟩:=hA
     have kQ:=hg
     rw[←hs.bx]at kQ
     obtain⟨ad,bu,hv,dO⟩:=sG.rs kQ (by simpa[a9.aC]using h1)
     unfold jc at dO
     obtain⟨b,c,ce,hι,h7,h8⟩:=hs.mem.blk k _ kQ
     rw[hι]at dO
     obtain⟨o1,o2,_,_⟩:=dO
     obtain⟨g1,g2⟩:=px pth h8 HL
     obtain⟨hl,hn,lX⟩:=g2.nX
     have YV:PV.width (.ar sz'' n l)=n*sz'':=rfl
     rw[YV]at g1 g2 hl
     have OG:=hl.Jv lX yK yL off (min ys.length len) (by omega) (by omega)
     have fZ:(news.take (min ys.length len*sz'')).length=min ys.length len*sz'':=by rw[lJ,kW];exact Nat.min_eq_left (Nat.mul_le_mul_right _ (by omega))
     have w7:off*sz''+(min ys.length len)*sz''≤n*sz'':=by rw[←Nat.add_mul];exact Nat.mul_le_mul_right _ (by omega)
     have SQ:aD Γ [.ar sz'' n (l.take off++ys.take (min ys.length len)++l.drop (off+min ys.length len))] (bN ((c.toList.drop (cW pth)).take (n*sz'')) (off*sz'') (news.take (min ys.length len*sz''))):=
      OG.Tr (by simp;omega) (λx hx=>by
       rcases List.mem_append.1 hx with hx|hx
       ·rcases List.mem_append.1 hx with hx|hx
        ·exact lX x (List.mem_of_mem_take hx)
        ·exact yL x (List.mem_of_mem_take hx)
       ·exact lX x (List.mem_of_mem_drop hx))
     obtain⟨c2,e2,k1,k2,k3,k4⟩:=rl (cB:= .box v') (pth:=pth) hs.mem kQ hι SQ (by simp only[pv,vE])
     rw[h7]at k1
     simp only[sJ,Obj.cells.injEq]at k1
     obtain⟨rfl,rfl,_⟩:=k1
     have SS:=oV (cs:=c.toList) (us:=news.take (min ys.length len*sz'')) (o:=cW pth) (m:=n*sz'') (p:=off*sz'') g1 (by omega)
     by_cases h0:min ys.length len=0
     ·rw[h0]at hK
      have YW:news.take (min ys.length len*sz'')=[]:=by rw[h0];simp
      have kX:(bN c.toList (cW pth) (bN ((c.toList.drop (cW pth)).take (n*sz'')) (off*sz'') (news.take (min ys.length len*sz''))))=c.toList:=by
       rw[SS,YW];simp[bN]
      have hle:=lL (Γ:=Γ) (c':=c) (cB:= .box v') kQ hι h7 rfl (Nat.le_refl _)
      have iZ:=nv (Γ:=Γ) (c':=c) (cB:= .box v') hs.mem kQ hι h7 rfl (Nat.le_refl _) (k4 c kX.symm)
      have t1:=hs.le hle iZ (vC:=put s.bx k (.box v')) (by simp[Cx.jP,hs.bx])
      refine⟨_,_,w,_,_,none hv (by omega),.inl rfl,t1,?_,hle,WF.refl w,hK⟩
      simp only[Cx.jP]
      rw[hw]
      apply Array.ext_getElem?
      intro j
      by_cases hj:b=j
      ·subst hj;rw[uJ (cX h7)];exact h7
      ·rw[Array.getElem?_setIfInBounds_ne hj]
     ·rcases o2 with o2|rfl
      ·omega
      obtain⟨w',r1,r2,r3⟩:=zc (P:=P) (w:=w) (ty:=o.type) ht Px (b:=b) (o:=cW pth+off*sz'') (dLen:=len) (dCap:=bu) (m:=min ys.length len*sz'') (c:=c) (ce:=ce) Eb (by omega) OH yK.one (by rw[hw];exact h7) (by simp only[Array.length_toList]at g1;rw[kW,SU];rw[hyl]at w7;omega)
      rw[←hv]at r1
      rw[←SS]at r2
      have AY:(bN c.toList (cW pth) (bN ((c.toList.drop (cW pth)).take (n*sz'')) (off*sz'') (news.take (min ys.length len*sz'')))).toArray.size=c.size:=by
       rw[SS]
       have:=fL (cs:=c.toList) (us:=news.take (min ys.length len*sz'')) (o:=cW pth+off*sz'') (by simp only[Array.length_toList]at g1⊢;omega)
       simpa using this
      have hle:=lL (Γ:=Γ) (cB:= .box v') kQ hι h7 AY (Nat.le_refl _)
      have iZ:=nv (Γ:=Γ) (cB:= .box v') hs.mem kQ hι h7 AY (Nat.le_refl _) (k4 _ (by simp))
      have t1:=hs.le hle iZ (vC:=put s.bx k (.box v')) (by simp[Cx.jP,hs.bx])
      exact⟨_,_,w',_,_,AW r1,.inl rfl,t1,by rw[r2,hw];rfl,hle,r3,hK⟩
    ·exact hA.elim
   ·exact hA.elim
  ·exact hA.elim
end Go.Ab
namespace Go.Ab
variable [eg]
variable {P:Program} {nt:Nat} {ds:List Deferred} {s:St} {Γ:Cx} {a:Act} {w:World}
theorem Jw {own ng:Bool} {op:BinOp} {t yt:TypeId} {x y:Operand} {p:AX} (hk:kK P own (.binOp op t x y yt)=some (.isNil ng p)):
  (op= .eql∨op= .neq)∧(∃e,P.underlying t=some (.slice e))∧y= .const (.slice none 0 0)∧ng=decide (op= .neq)∧gq x=some p:=by
 simp only[kK]at hk
 split at hk
 ·rename_i q r hx hy
  split at hk
  ·rename_i ho
   split at hk
   ·simp at hk
   ·simp at hk
   ·simp at hk
   ·simp at hk
   ·rename_i e hu
    split at hk
    ·simp only[sJ,AK.isNil.injEq]at hk
     exact⟨ho,⟨e,hu⟩,rfl,hk.1.symm,by rw[hx,hk.2]⟩
    ·simp at hk
   ·split at hk
    ·split at hk<;>simp at hk
    ·simp at hk
   ·split at hk
    ·split at hk<;>simp at hk
    ·simp at hk
   ·simp at hk
  ·simp at hk
 ·simp at hk
theorem aN.slnil {sz:Nat} {l:List PV} {c:Bool} {v:Value} (h:aN Γ (.sl sz l c) v):∃ad n rc,v= .slice ad n rc∧(ad.isNone=true->l=[]):=by
 simp only[aN]at h
 cases h with
 |
  sl _ _ _ ad bu h1 h2 h3 h4 h5 _=>
  refine⟨ad,_,bu,rfl,λhn=> ?_⟩
  by_cases hl:l=[]
  ·exact hl
  ·obtain⟨b,o,e,_⟩:=h5 hl
   rw[e]at hn;simp at hn
theorem aN.acA {k off len aC sz:Nat} {p:List Step} {c:jb} {v:Value} {blk:a9} (h:aN Γ (.rs k p off len aC sz c) v) (hb:get Γ.bx k=some blk) (ht:aC=blk.aC):∃ad n rc,v= .slice ad n rc∧(ad.isNone=true->len=0):=by
 simp only[aN]at h
 cases h with
 |
  rs _ _ _ _ _ _ _ _ cB h1 h2 h3 _=>
  rw[hb]at h1
  obtain⟨h1,_⟩:=h1
  cases h1
  obtain⟨ad,rc,rfl,hr⟩:=h3 ht
  refine⟨ad,_,rc,rfl,λhn=> ?_⟩
  unfold jc at hr
  split at hr
  ·exact hr.1
  ·obtain⟨h4,h5,_⟩:=hr
   rcases h5 with h5|h5
   ·omega
   ·rw[h5]at hn;simp at hn
theorem Gt {t e:TypeId} {ad:Option Addr} {n c:Nat} (h:P.underlying t=some (.slice e)):(Op.equalIn 10000 t (.slice ad n c) (.slice none 0 0)).run P w= .ok ad.isNone w:=by
 have:∀d,(Op.equalIn (d+1) t (.slice ad n c) (.slice none 0 0)).run P w= .ok ad.isNone w:=by
  intro d
  cases ad with
  |none=>simp only[Op.equalIn,bJ,run_underlying h,rJ];rfl
  |some ad=>simp only[Op.equalIn,bJ,run_underlying h,rJ];rfl
 exact this 9999
theorem Jx {o:Oper} {own ng:Bool} {op:BinOp} {t yt:TypeId} {x y:Operand} {p:AX} {K:St->Prop} (ho:o.op= .binOp op t x y yt) (hk:kK P own (.binOp op t x y yt)=some (.isNil ng p)) (hs:hU nt ds s Γ a) (hw:w.heap=Γ.heap)
  (hd:∀k,o.dst=some k->k<nt) (he:ex s o.dst (.isNil ng p) K):kS P nt ds o a w Γ K:=by
 obtain⟨m9,⟨e,hu⟩,rfl,rfl,hx⟩:=Jw hk
 simp only[ex]at he
 obtain⟨q,hq,hr⟩:=cO hx hs rfl he
 have fin:∀ {ad:Option Addr} {n c:Nat},a.eval x= .slice ad n c->K (s.put o.dst (.bl (ad.isNone !=decide (op= .neq))))->kS P nt ds o a w Γ K:=by
  intro ad n c hv hK
  have iN:=ue (P:=P) (w:=w) (Gt (ad:=ad) (n:=n) (c:=c) hu) rfl rfl op m9
  refine qj hs hd (Le.refl Γ) hs.mem rfl (v:= .bool (ad.isNone !=decide (op= .neq))) ?_ hw (WF.refl w) ?_ hK
  ·unfold execOp
   rw[ho]
   have hg:(eqGuard op t x (.const (.slice none 0 0)) (.slice ad n c) (.slice none 0 0)).run P w= .ok () w:=by
    unfold eqGuard
    rcases m9 with rfl|rfl<;>rfl
   have e2:a.eval (.const (.slice none 0 0))= .slice none 0 0:=rfl
   simp only[hv,e2,bJ,hg,rJ,iN]
   rcases m9 with rfl|rfl<;>cases ad<;>rfl
  ·simp only[aN];exact .bl _ .nil
 split at hq
 ·obtain⟨ad,n,c,hv,hn⟩:=hr.slnil
  exact fin hv (hq _ hn)
 ·split at hq
  ·rename_i blk hb
   rw[←hs.bx]at hb
   obtain⟨ad,n,c,hv,hn⟩:=hr.acA hb hq.1
   exact fin hv (hq.2 _ hn)
  ·exact hq.elim
 ·exact hq.elim
end Go.Ab
namespace Go.Ab
variable [eg]
variable {P:Program} {nt:Nat} {ds:List Deferred} {s:St} {Γ:Cx} {a:Act} {w:World}
mutual
def ab (f:Nat->Bool):PV->Bool
 | .rs k _ _ _ _ _ _=>f k
 | .pt k _ _=>f k
 | .st _ l=>ae f l
 | .ar _ _ l=>ae f l
 | .tup l=>ae f l
 | .sl _ l _=>ae f l
 | .fp _ l _=>ae f l
 | .fn _ x y=>ae f x&&ae f y
 | .gd _ p=>ab f p
 | .ifc _ p=>ab f p
 |_=>true
def ae (f:Nat->Bool):List PV->Bool
 |[]=>true
 |p::l=>ab f p&&ae f l
end
mutual
def aF (ρ:Nat->Nat):PV->PV
 | .rs k p o l t z c=> .rs (ρ k) p o l t z c
 | .pt k p t=> .pt (ρ k) p t
 | .st w l=> .st w (aK ρ l)
 | .ar z n l=> .ar z n (aK ρ l)
 | .tup l=> .tup (aK ρ l)
 | .sl z l c=> .sl z (aK ρ l) c
 | .fp z l p=> .fp z (aK ρ l) p
 | .fn f x y=> .fn f (aK ρ x) (aK ρ y)
 | .gd b p=> .gd b (aF ρ p)
 | .ifc t p=> .ifc t (aF ρ p)
 |p=>p
def aK (ρ:Nat->Nat):List PV->List PV
 |[]=>[]
 |p::l=>aF ρ p::aK ρ l
end
theorem nO (ρ:Nat->Nat) (p:PV):(aF ρ p).width=p.width:=by cases p<;>simp[aF,PV.width]
theorem vN (ρ:Nat->Nat) (p:PV):(aF ρ p).isAgg=p.isAgg:=by cases p<;>simp[aF,PV.isAgg]
theorem lu (ρ:Nat->Nat) (l:List PV):(aK ρ l).length=l.length:=by induction l<;>simp[aK, *]
theorem pF {ρ:Nat->Nat} {l:List PV} {q:PV} (h:q∈aK ρ l):∃p∈l,q=aF ρ p:=by
 induction l with
 |nil=>simp[aK]at h
 |
  cons x l ih=>
  simp only[aK,cJ]at h
  rcases h with h|h
  ·exact⟨x,by simp,h⟩
  ·obtain⟨p,hp,e⟩:=ih h;exact⟨p,by simp[hp],e⟩
mutual
theorem zd {ρ:Nat->Nat} {f:Nat->Bool} (h:∀k,f k=true->ρ k=k):∀p,ab f p=true->aF ρ p=p
 | .rs k _ _ _ _ _ _,hp=>by simp only[ab]at hp;simp[aF,h k hp]
 | .pt k _ _,hp=>by simp only[ab]at hp;simp[aF,h k hp]
 | .st _ l,hp=>by simp only[ab]at hp;simp[aF,mC h l hp]
 | .ar _ _ l,hp=>by simp only[ab]at hp;simp[aF,mC h l hp]
 | .tup l,hp=>by simp only[ab]at hp;simp[aF,mC h l hp]
 | .sl _ l _,hp=>by simp only[ab]at hp;simp[aF,mC h l hp]
 | .fp _ l _,hp=>by simp only[ab]at hp;simp[aF,mC h l hp]
 | .fn _ x y,hp=>by simp only[ab,aJ]at hp;simp[aF,mC h x hp.1,mC h y hp.2]
 | .gd _ p,hp=>by simp only[ab]at hp;simp[aF,zd h p hp]
 | .ifc _ p,hp=>by simp only[ab]at hp;simp[aF,zd h p hp]
 | .un,_=>by simp[aF]
 | .bl _,_=>by simp[aF]
 | .int _ _,_=>by simp[aF]
 | .str _,_=>by simp[aF]
 | .np,_=>by simp[aF]
 | .nf,_=>by simp[aF]
 | .ni,_=>by simp[aF]
 | .mp ..,_=>by simp[aF]
theorem mC {ρ:Nat->Nat} {f:Nat->Bool} (h:∀k,f k=true->ρ k=k):∀l,ae f l=true->aK ρ l=l
 |[],_=>rfl
 |p::l,hp=>by simp only[ae,aJ]at hp;simp[aK,zd h p hp.1,mC h l hp.2]
end
structure rm (f:Nat->Bool) (ρ:Nat->Nat) (Γ Δ:Cx):Prop where
 heap:Δ.heap=Γ.heap
 own:∀b,b<Γ.heap.size->¬Γ.own b->¬Δ.own b
 ref:∀k blk,f k=true->get Γ.bx k=some blk->∃cB,get Δ.bx (ρ k)=some cB∧cB.aC=blk.aC∧Δ.ι (ρ k)=Γ.ι k
theorem jc.aF {Δ:Cx} {k k' off len sz:Nat} {p:List Step} {c:jb} {ad:Option Addr} {bu:Nat} (h:jc Γ k p off len sz c ad bu) (hι:Δ.ι k'=Γ.ι k) (hh:Δ.heap=Γ.heap):jc Δ k' p off len sz c ad bu:=by
 unfold jc at*
 rw[hι,hh];exact h
theorem aD.aF {f:Nat->Bool} {ρ:Nat->Nat} {Δ:Cx} (hs:rm f ρ Γ Δ) {l:List PV} {cs:List Value} (h:aD Γ l cs):ae f l=true->aD Δ (aK ρ l) cs:=by
 induction h with
 |nil=>intro _;exact .nil
 |un h hr ih=>intro hf;simp only[ae,aJ]at hf;exact .un h (ih hf.2)
 |bl x hr ih=>intro hf;simp only[ae,aJ]at hf;exact .bl x (ih hf.2)
 |int k n hr ih=>intro hf;simp only[ae,aJ]at hf;exact .int k n (ih hf.2)
 |str l s h hr ih=>intro hf;simp only[ae,aJ]at hf;exact .str l s h (ih hf.2)
 |st w l hl hw hr ihl ih=>intro hf;simp only[ae,ab,aJ]at hf;exact .st w _ (ihl hf.1) hw (ih hf.2)
 |
  ar sz n l hl hn hw hr ihl ih=>
  intro hf;simp only[ae,ab,aJ]at hf
  refine .ar sz n _ (ihl hf.1) (by rw[lu];exact hn) (λx hx=> ?_) (ih hf.2)
  obtain⟨p,hp,rfl⟩:=pF hx
  rw[nO];exact hw p hp
 |
  sl sz l clip ad bu hl hw hc hk hb hr ihl ih=>
  intro hf;simp only[ae,ab,aJ]at hf
  have:=aD.sl (Γ:=Δ) sz (aK ρ l) clip ad bu (ihl hf.1) (λx hx=>by obtain⟨p,hp,rfl⟩:=pF hx;rw[nO];exact hw p hp) (by rw[lu];exact hc) (by rw[lu];exact hk)
   (λfc=>by
    obtain⟨b,o,h1,h2,h3,h4⟩:=hb (by intro h;subst h;simp[aK]at fc)
    exact⟨b,o,h1,by rw[hs.heap];exact h2,hs.own b h2 h3,by rw[hs.heap];exact h4⟩) (ih hf.2)
  rw[lu]at this
  exact this
 |
  rs k p off len aC sz c v blk hg h1 hv hr ih=>
  intro hf;simp only[ae,ab,aJ]at hf
  obtain⟨cB,g1,g2,g3⟩:=hs.ref k blk hf.1 hg.1
  refine .rs (ρ k) p off len aC sz c v cB ⟨g1,by rw[g2];exact hg.2⟩ h1 (λht=> ?_) (ih hf.2)
  obtain⟨ad,bu,e1,e2⟩:=hv (by rw[ht,g2])
  exact⟨ad,bu,e1,e2.aF g3 hs.heap⟩
 |np hr ih=>intro hf;simp only[ae,aJ]at hf;exact .np (ih hf.2)
 |
  pt k p aC v blk hg h1 hv hr ih=>
  intro hf;simp only[ae,ab,aJ]at hf
  obtain⟨cB,g1,g2,g3⟩:=hs.ref k blk hf.1 hg.1
  refine .pt (ρ k) p aC v cB ⟨g1,by rw[g2];exact hg.2⟩ h1 (λht=> ?_) (ih hf.2)
  obtain⟨b,e1,e2⟩:=hv (by rw[ht,g2])
  exact⟨b,by rw[g3,e1],e2⟩
 |
  fp sz l p b o hl hw hm hc hr ihl ih=>
  intro hf;simp only[ae,ab,aJ]at hf
  exact .fp sz _ p b o (ihl hf.1) (λx hx=>by obtain⟨p,hp,rfl⟩:=pF hx;rw[nO];exact hw p hp) ⟨by rw[hs.heap];exact hm.1,hs.own b hm.1 hm.2⟩ (by rw[hs.heap];exact hc) (ih hf.2)
 |
  fn g first cap h1 h2 h3 h4 hr i1 i2 ih=>
  intro hf;simp only[ae,ab,aJ]at hf
  exact .fn g _ _ (i1 hf.1.1) (i2 hf.1.2) (λx hx=>by obtain⟨p,hp,rfl⟩:=pF hx;rw[vN];exact h3 p hp) (λx hx=>by obtain⟨p,hp,rfl⟩:=pF hx;rw[vN];exact h4 p hp) (ih hf.2)
 |nf hr ih=>intro hf;simp only[ae,aJ]at hf;exact .nf (ih hf.2)
 |
  ifc t v h1 h2 hr i1 ih=>
  intro hf;simp only[ae,ab,aJ]at hf
  have:=i1 (by simp[ae,hf.1])
  simp only[aK]at this
  exact .ifc t _ this (by rw[vN];exact h2) (ih hf.2)
 |ni hr ih=>intro hf;simp only[ae,aJ]at hf;exact .ni (ih hf.2)
 |mp k b hr ih=>intro hf;simp only[ae,aJ]at hf;exact .mp k b (ih hf.2)
theorem aD.aT {f:Nat->Bool} {ρ:Nat->Nat} {Δ:Cx} (hs:rm f ρ Γ Δ) {p:PV} {cs:List Value} (h:aD Γ [p] cs) (hf:ab f p=true):aD Δ [Ab.aF ρ p] cs:=by
 have:=h.aF hs (by simp[ae,hf])
 simpa only[aK]using this
theorem je.aF {f:Nat->Bool} {ρ:Nat->Nat} {Δ:Cx} (hs:rm f ρ Γ Δ) {p:PV} {v:Value} (h:je Γ p v) (hf:ab f p=true):je Δ (Ab.aF ρ p) v:=by
 cases p
 case un=>trivial
 case st w l=>obtain⟨cs,h1,h2⟩:=h;exact⟨cs,h1,h2.aT hs hf⟩
 case ar sz n l=>obtain⟨cs,h1,h2⟩:=h;exact⟨cs,h1,h2.aT hs hf⟩
 all_goals exact aD.aT hs h hf
theorem aN.aF {f:Nat->Bool} {ρ:Nat->Nat} {Δ:Cx} (hs:rm f ρ Γ Δ):∀ {p:PV} {v:Value},aN Γ p v->ab f p=true->aN Δ (Ab.aF ρ p) v:=by
 have h2:∀ {l:List PV} {vs:List Value},jY Γ l vs->ae f l=true->jY Δ (aK ρ l) vs:=by
  intro l
  induction l with
  |nil=>intro vs h hf;cases vs<;>simp_all [jY,aK]
  |
   cons p l ih=>
   intro vs h hf
   simp only[ae,aJ]at hf
   cases vs with
   |nil=>simp[jY]at h
   |cons v vs=>simp only[jY,aK]at h⊢;exact⟨h.1.aF hs hf.1,ih h.2 hf.2⟩
 intro p
 induction p using PV.rec (motive_2:=λ_=>True)with
 |gd b p ih=>intro v h hf;simp only[Ab.aF,ab]at hf⊢;rw[aN]at h⊢;exact⟨λhb=>ih (h.1 hb) hf,h.2⟩
 |tup l=>intro v h hf;simp only[aN,Ab.aF,ab]at h hf⊢;obtain⟨vs,e,h⟩:=h;exact⟨vs,e,h2 h hf⟩
 |un=>intro v h hf;simp[aN,Ab.aF]
 |st w l=>intro v h hf;obtain⟨cs,e,h⟩:=h;exact⟨cs,e,h.aT hs hf⟩
 |ar sz n l=>intro v h hf;obtain⟨cs,e,h⟩:=h;exact⟨cs,e,h.aT hs hf⟩
 |nil=>trivial
 |cons=>trivial
 |_=>intro v h hf;exact aD.aT hs h hf
def a0 (ρ:Nat->Nat):a9->a9
 | .box v=> .box (Ab.aF ρ v)
 | .arr sz l=> .arr sz (aK ρ l)
 | .map b ks vs l=> .map b ks vs l
def af (f:Nat->Bool):a9->Bool
 | .box v=>ab f v
 | .arr _ l=>ae f l
 | .map .. =>true
theorem jH (ρ:Nat->Nat) (b:a9):(a0 ρ b).aC=b.aC:=by cases b<;>simp[a0,a9.aC,lu]
theorem a9.vB.aF {f:Nat->Bool} {ρ:Nat->Nat} {Δ:Cx} (hs:rm f ρ Γ Δ) {blk:a9} {ob:Option Nat} (h:blk.vB Γ ob) (hf:af f blk=true):(a0 ρ blk).vB Δ ob:=by
 cases blk with
 |
  box v=>
  obtain⟨b,c,e,h1,h2,h3⟩:=h
  exact⟨b,c,e,h1,by rw[hs.heap];exact h2,h3.aT hs hf⟩
 |
  arr sz l=>
  obtain⟨h1,h2,h3⟩:=h
  refine⟨λx hx=>by obtain⟨p,hp,rfl⟩:=pF hx;rw[nO];exact h1 p hp,h2,?_⟩
  cases ob with
  |none=>trivial
  |
   some b=>
   obtain⟨c,e,cs,rest,h4,h5,h6,h7⟩:=h3
   exact⟨c,e,cs,rest,by rw[hs.heap];exact h4,h5,h6.aF hs hf,h7⟩
 |
  map b ks vs l=>
  obtain⟨h1,h2⟩:=h
  exact⟨h1,by rw[hs.heap];exact h2⟩
end Go.Ab
namespace Go.Ab
variable [eg]
variable {P:Program} {nt:Nat} {ds:List Deferred} {s:St} {Γ:Cx} {a:Act} {w:World}
def KB:Nat:=9000
def aG:Nat->List a9->List (Nat×a9)
 |_,[]=>[]
 |i,b::r=>(KB+i,b)::aG (i+1) r
theorem BM (B:Nat):∀(l:List a9) (i k:Nat),get ((l.zipIdx i).map λx=>(B+x.2,x.1)) k=if B+i≤k then l[k-B-i]?else none
 |[],i,k=>by simp[get]
 |
  b::l,i,k=>by
  have ih:=BM B l (i+1) k
  rw[List.zipIdx_cons,List.map_cons]
  unfold get
  rw[ih]
  by_cases h:B+i=k
  ·rw[if_pos h,if_pos (by omega),show k-B-i=0 by omega];rfl
  ·rw[if_neg h]
   by_cases h2:B+i≤k
   ·rw[if_pos h2,if_pos (by omega),show k-B-i=(k-B-(i+1))+1 by omega,List.getElem?_cons_succ]
   ·rw[if_neg h2,if_neg (by omega)]
theorem H0:∀(l:List a9) (i:Nat),aG i l=(l.zipIdx i).map λx=>(KB+x.2,x.1)
 |[],i=>rfl
 |b::l,i=>by rw[aG,H0 l (i+1),List.zipIdx_cons,List.map_cons]
theorem fT (l:List a9) (i k:Nat):get (aG i l) k=if KB+i≤k then l[k-KB-i]?else none:=by
 rw[H0];exact BM KB l i k
def gK (Γ:Cx):List PV->List Value->Prop
 |[],[]=>True
 |p::ps,v::vs=>aN Γ p v∧gK Γ ps vs
 |_,_=>False
def BO (P:Program) (f:FuncId) (vs:Array Value) (w:World) (Q:Ending->World->Prop):Prop:=
 ((callFunc f vs).run P w= .ok (.enter f vs) w∧Calls P f vs w Q)∨∃v w',(callFunc f vs).run P w= .ok (.value v) w'∧Q (.returned v) w'
theorem BO.mono {f:FuncId} {vs:Array Value} {w:World} {Q Q':Ending->World->Prop} (h:BO P f vs w Q) (hq:∀e w',Q e w'->Q' e w'):BO P f vs w Q':=by
 rcases h with⟨h1,h2⟩|⟨v,w',h1,h2⟩
 ·exact .inl ⟨h1,h2.mono hq⟩
 ·exact .inr ⟨v,w',h1,hq _ _ h2⟩
theorem BO.calls {f:FuncId} {vs:Array Value} {w:World} {Q:Ending->World->Prop} (h:BO P f vs w Q) (he:(callFunc f vs).run P w= .ok (.enter f vs) w):Calls P f vs w Q:=by
 rcases h with⟨h1,h2⟩|⟨v,w',h1,h2⟩
 ·exact h2
 ·rw[he]at h1;simp at h1
def ah (P:Program) (f:FuncId) (args:List PV) (fp:List a9) (R:PV->List a9->Prop):Prop:=
 ∀
  (Γ:Cx) (w:World) (vs:List Value),w.heap=Γ.heap->Mem Γ->Γ.bx=aG 0 fp->gK Γ args vs->
  BO P f vs.toArray w (λe w'=>∃v r kP Γ',e= .returned v∧R r kP∧w'.heap=Γ'.heap∧Mem Γ'∧Γ'.bx=aG 0 kP∧aN Γ' r v∧Le Γ Γ'∧WF w w')
theorem ah.mono {f:FuncId} {args:List PV} {fp:List a9} {R R':PV->List a9->Prop} (h:ah P f args fp R) (hr:∀r kP,R r kP->R' r kP):ah P f args fp R':=by
 intro Γ w vs h1 h2 h3 h4
 refine(h Γ w vs h1 h2 h3 h4).mono ?_
 rintro e w' ⟨v,r,kP,Γ',e1,e2,e3⟩
 exact⟨v,r,kP,Γ',e1,hr _ _ e2,e3⟩
def idx:List Nat->Nat->Option Nat
 |[],_=>none
 |x::r,k=>if x=k then some 0 else match idx r k with|some i=>some (i+1)|none=>none
theorem kZ:∀ {l:List Nat} {k i:Nat},idx l k=some i->l[i]? =some k
 |[],k,i,h=>by simp[idx]at h
 |
  x::r,k,i,h=>by
  simp only[idx]at h
  split at h
  ·simp at h;subst_vars;rfl
  ·split at h
   ·rename_i j hj
    simp at h;subst h
    simpa using kZ hj
   ·simp at h
theorem ze:∀ {l:List Nat} {k i:Nat},l.Nodup->l[i]? =some k->idx l k=some i
 |[],k,i,_,h=>by simp at h
 |
  x::r,k,i,hn,h=>by
  rw[List.nodup_cons]at hn
  cases i with
  |zero=>simp at h;subst h;simp[idx]
  |
   succ i=>
   simp at h
   have fc:x≠k:=by intro e;subst e;exact hn.1 (List.mem_of_getElem? h)
   simp[idx,fc,ze hn.2 h]
theorem Em {l:List Nat} {k:Nat} (h:idx l k=none):k∉l:=by
 induction l with
 |nil=>simp
 |
  cons x r ih=>
  simp only[idx]at h
  split at h
  ·simp at h
  ·split at h
   ·simp at h
   ·rename_i fc _ hr
    simp only[cJ,not_or]
    exact⟨λe=>fc e.symm,ih hr⟩
def getAll (bx:List (Nat×a9)):List Nat->Option (List a9)
 |[]=>some []
 |k::r=>match get bx k,getAll bx r with|some b,some l=>some (b::l)|_,_=>none
theorem eQ:∀ {ks:List Nat} {bx:List (Nat×a9)} {l:List a9},getAll bx ks=some l->l.length=ks.length∧∀(i:Nat) k,ks[i]? =some k->∃b,get bx k=some b∧l[i]? =some b
 |[],bx,l,h=>by simp[getAll]at h;subst h;simp
 |
  k::r,bx,l,h=>by
  simp only[getAll]at h
  split at h
  ·rename_i b l' hb hl
   simp only[sJ]at h;subst h
   obtain⟨h1,h2⟩:=eQ hl
   refine⟨by simp[h1],λi j hj=> ?_⟩
   cases i with
   |zero=>simp at hj;subst hj;exact⟨b,hb,rfl⟩
   |succ i=>simp at hj;simpa using h2 i j hj
  ·simp at h
def bC (bx:List (Nat×a9)):List Nat->List a9->List (Nat×a9)
 |k::ks,b::bs=>bC (put bx k b) ks bs
 |_,_=>bx
theorem qk:∀ {ks:List Nat} {bs:List a9} {bx:List (Nat×a9)} (k:Nat),ks.Nodup->bs.length=ks.length->get (bC bx ks bs) k=match idx ks k with|some i=>bs[i]? |none=>get bx k
 |[],bs,bx,k,_,hl=>by cases bs<;>simp_all [bC,idx]
 |
  x::r,bs,bx,k,hn,hl=>by
  cases bs with
  |nil=>simp at hl
  |
   cons b bs=>
   rw[List.nodup_cons]at hn
   simp only[bC,qk k hn.2 (by simpa using hl),idx]
   by_cases hx:x=k
   ·subst hx
    have:idx r x=none:=by
     cases hi:idx r x with
     |none=>rfl
     |some i=>exact absurd (List.mem_of_getElem? (kZ hi)) hn.1
    simp[this,dj]
   ·rw[if_neg hx]
    cases idx r k with
    |none=>simp[cH _ _ _ _ hx]
    |some i=>simp
def aT (ks:List Nat) (k:Nat):Nat:=match idx ks k with|some i=>KB+i|none=>k
def eO (ks:List Nat) (k:Nat):Nat:=if KB≤k then(ks[k-KB]?).getD k else k
def bg (ks:List Nat) (k:Nat):Bool:=(idx ks k).isSome
def fR (n:Nat) (k:Nat):Bool:=decide (KB≤k∧k<KB+n)
def sM (P:Program) (s:St) (d:Option Nat) (f:FuncId) (args:List PV) (ks os:List Nat) (K:St->Prop):Prop:=
 ∃
  bf R,getAll s.bx ks=some bf∧(ks++os).Nodup∧(∀o∈os,get s.bx o=none)∧ae (bg ks) args=true∧bf.all (af (bg ks))=true∧
  ah P f (aK (aT ks) args) (bf.map (a0 (aT ks))) R∧
  ∀
   r fp,R r fp->(fp.length=(ks++os).length∧ab (fR fp.length) r=true∧fp.all (af (fR fp.length))=true)∧
   K ({s with bx:=bC s.bx (ks++os) (fp.map (a0 (eO (ks++os))))}.put d (aF (eO (ks++os)) r))
def Cx.call (Γ:Cx) (ks:List Nat) (bf:List a9):Cx:=
 {
  heap:=Γ.heap,ι:=λk=>if KB≤k then(match ks[k-KB]?with|some j=>Γ.ι j|none=>none)else none,
  bx:=aG 0 (bf.map (a0 (aT ks))),ef:=λb=>Γ.own b∧¬∃(i:Nat) (k:Nat),ks[i]? =some k∧Γ.ι k=some b}
def Cx.back (Γ Γ':Cx) (all:List Nat) (fp:List a9):Cx:=
 {
  heap:=Γ'.heap,ι:=λk=>match idx all k with|some i=>Γ'.ι (KB+i)|none=>Γ.ι k,
  bx:=bC Γ.bx all (fp.map (a0 (eO all))),ef:=Γ.ef}
theorem Cx.nP {ks:List Nat} {bf:List a9} (hg:getAll Γ.bx ks=some bf):rm (bg ks) (aT ks) Γ (Γ.call ks bf) where
 heap:=rfl
 own b _ hn:=by
  rintro(⟨k,blk,h1,h2⟩|⟨h,_⟩)
  ·simp only[Cx.call]at h2
   split at h2
   ·split at h2
    ·rename_i j hj
     obtain⟨_,eH⟩:=eQ hg
     obtain⟨b',g1,_⟩:=eH _ _ hj
     exact hn (.inl ⟨j,b',g1,h2⟩)
    ·simp at h2
   ·simp at h2
  ·exact hn h
 ref k blk hk hb:=by
  obtain⟨i,hi⟩:=Option.isSome_iff_exists.1 hk
  obtain⟨hl,eH⟩:=eQ hg
  obtain⟨b',g1,g2⟩:=eH i k (kZ hi)
  rw[hb]at g1;cases g1
  refine⟨a0 (aT ks) blk,?_,jH _ _,?_⟩
  ·simp only[Cx.call,aT,hi,fT]
   rw[if_pos (by omega)]
   simp[g2]
  ·simp only[Cx.call,aT,hi]
   rw[if_pos (by omega)]
   simp[kZ hi]
theorem Cx.lv {ks:List Nat} {bf:List a9} (hg:getAll Γ.bx ks=some bf) {b:Nat}:(Γ.call ks bf).il b↔∃(i:Nat) (k:Nat),ks[i]? =some k∧Γ.ι k=some b:=by
 obtain⟨hl,eH⟩:=eQ hg
 constructor
 ·rintro⟨k,blk,h1,h2⟩
  simp only[Cx.call]at h2
  split at h2
  ·split at h2
   ·rename_i j hj;exact⟨_,j,hj,h2⟩
   ·simp at h2
  ·simp at h2
 ·rintro⟨i,k,h1,h2⟩
  obtain⟨b',g1,g2⟩:=eH i k h1
  refine⟨KB+i,a0 (aT ks) b',?_,?_⟩
  ·simp only[Cx.call,fT]
   rw[if_pos (by omega)]
   simp[g2]
  ·simp only[Cx.call]
   rw[if_pos (by omega)]
   simp[h1,h2]
theorem Cx.uf (hm:Mem Γ) {ks:List Nat} {bf:List a9} (hg:getAll Γ.bx ks=some bf) (hn:ks.Nodup) (dO:bf.all (af (bg ks))=true):Mem (Γ.call ks bf) where
 blk k blk hk:=by
  obtain⟨hl,eH⟩:=eQ hg
  simp only[Cx.call,fT]at hk
  split at hk
  ·rename_i hle
   rw[List.getElem?_map,mJ]at hk
   obtain⟨b0,AZ,rfl⟩:=hk
   have hi:=(List.getElem?_eq_some_iff.1 AZ).1
   obtain⟨j,hj⟩:∃j,ks[k-KB]? =some j:=⟨_,gJ (by omega)⟩
   obtain⟨b1,g1,g2⟩:=eH _ _ hj
   simp only[Nat.sub_zero]at AZ
   rw[AZ]at g2;cases g2
   have:=(hm.blk j b0 g1).aF (Cx.nP hg) (List.all_eq_true.1 dO b0 (List.mem_of_getElem? AZ))
   have e:(Γ.call ks bf).ι k=Γ.ι j:=by simp only[Cx.call];rw[if_pos (by omega),hj]
   rw[e];exact this
  ·simp at hk
 inj i j b hi hj h1 h2:=by
  obtain⟨hl,eH⟩:=eQ hg
  simp only[Cx.call]at h1 h2
  split at h1
  ·split at h2
   ·split at h1
    ·rename_i x hx
     split at h2
     ·rename_i y hy
      obtain⟨b1,g1,_⟩:=eH _ _ hx
      obtain⟨b2,g2,_⟩:=eH _ _ hy
      have:=hm.inj x y b (by simp[g1]) (by simp[g2]) h1 h2
      subst this
      have e1:=ze hn hx
      have e2:=ze hn hy
      rw[e1]at e2;simp at e2;omega
     ·simp at h2
    ·simp at h1
   ·simp at h2
  ·simp at h1
 ef b h:=by
  rcases h.1 with h|h
  ·exact hm.lt h
  ·exact hm.ef b h
 apart b h hp:=hp.2 ((Cx.lv hg).1 h)
 xC b cs h:=by
  obtain⟨h1,h2⟩:=hm.xC b cs h
  refine⟨λhb=>h1 ?_,h2⟩
  obtain⟨i,k,g1,g2⟩:=(Cx.lv hg).1 hb
  obtain⟨b',g3,_⟩:=(eQ hg).2 i k g1
  exact⟨k,b',g3,g2⟩
theorem tc (hm:Mem Γ) {Γ':Cx} {ks os:List Nat} {bf fp:List a9} (hg:getAll Γ.bx ks=some bf) (hn:(ks++os).Nodup) (PB:∀o∈os,get Γ.bx o=none)
  (sv:Mem Γ') (lY:Γ'.bx=aG 0 fp) (hle:Le (Γ.call ks bf) Γ') (hlen:fp.length=(ks++os).length) (dO:fp.all (af (fR fp.length))=true):
  rm (fR fp.length) (eO (ks++os)) Γ' (Γ.back Γ' (ks++os) fp)∧Le Γ (Γ.back Γ' (ks++os) fp)∧Mem (Γ.back Γ' (ks++os) fp):=by
 obtain⟨hl,eH⟩:=eQ hg
 have hnk:ks.Nodup:=(List.nodup_append.1 hn).1
 have HL:∀k,get (Γ.back Γ' (ks++os) fp).bx k=match idx (ks++os) k with|some i=>(fp.map (a0 (eO (ks++os))))[i]? |none=>get Γ.bx k:=λk=>qk k hn (by simpa using hlen)
 have iu:Γ.heap.size≤Γ'.heap.size:=hle.size
 --a block of a key that is auh Jv or comes back
 have HR:∀ {k i:Nat},idx (ks++os) k=some i->∃b0,fp[i]? =some b0∧get Γ'.bx (KB+i)=some b0:=by
  intro k i hi
  have fZ:=(List.getElem?_eq_some_iff.1 (kZ hi)).1
  have:fp[i]? =some (fp[i]'(by omega)):=gJ (by omega)
  exact⟨_,this,by rw[lY,fT,if_pos (by omega)];simpa using this⟩
 have Jc:Γ'.ef=(Γ.call ks bf).ef:=hle.ef
 have A0:∀ {k b:Nat} {blk:a9},idx (ks++os) k=none->get Γ.bx k=some blk->Γ.ι k=some b->(Γ.call ks bf).ef b:=by
  intro k b blk hi hb hι
  refine⟨.inl ⟨k,blk,hb,hι⟩,?_⟩
  rintro⟨i,k',h1,h2⟩
  obtain⟨b',g1,_⟩:=eH i k' h1
  have:=hm.inj k k' b (by simp[hb]) (by simp[g1]) hι h2
  subst this
  exact Em hi (List.mem_append.2 (.inl (List.mem_of_getElem? h1)))
 have same:rm (fR fp.length) (eO (ks++os)) Γ' (Γ.back Γ' (ks++os) fp):=by
  refine⟨rfl,λb hb HS=> ?_,λk blk hk hb=> ?_⟩
  ·rintro(⟨k,blk,h1,h2⟩|h)
   ·rw[HL]at h1
    simp only[Cx.back]at h2
    cases hi:idx (ks++os) k with
    |
     some i=>
     rw[hi]at h2
     obtain⟨b0,_,g2⟩:=HR hi
     exact HS (.inl ⟨_,b0,g2,h2⟩)
    |
     none=>
     rw[hi]at h1 h2
     exact HS (.inr (by rw[Jc];exact A0 hi h1 h2))
   ·have h':Γ.ef b:=h
    have hpc:(Γ.call ks bf).ef b:=by
     refine⟨.inr h',?_⟩
     rintro⟨i,k',h1,h2⟩
     obtain⟨b',g1,_⟩:=eH i k' h1
     exact hm.apart b ⟨k',b',g1,h2⟩ h'
    exact HS (.inr (by rw[Jc];exact hpc))
  ·simp only[fR,decide_eq_true_eq]at hk
   obtain⟨i,rfl⟩:∃i,k=KB+i:=⟨k-KB,by omega⟩
   have iK:(ks++os)[i]? =some ((ks++os)[i]'(by omega)):=gJ (by omega)
   have hr:eO (ks++os) (KB+i)=(ks++os)[i]'(by omega):=by
    simp only[eO];rw[if_pos (by omega)];simp[iK]
   have ak6:=ze hn iK
   rw[lY,fT,if_pos (by omega)]at hb
   simp only[Nat.add_sub_cancel_left,Nat.sub_zero]at hb
   refine⟨a0 (eO (ks++os)) blk,?_,jH _ _,?_⟩
   ·rw[HL,hr,ak6];simp[hb]
   ·simp only[Cx.back];rw[hr,ak6]
 have le:Le Γ (Γ.back Γ' (ks++os) fp):=by
  refine⟨λb hb HS=> ?_,λb hb h=> ?_,rfl,iu,λk blk hk=> ?_⟩
  ·refine hle.heap b hb (λh=>HS ?_)
   obtain⟨i,k,h1,h2⟩:=(Cx.lv hg).1 h
   obtain⟨b',g1,_⟩:=eH i k h1
   exact⟨k,b',g1,h2⟩
  ·obtain⟨k,blk,h1,h2⟩:=h
   rw[HL]at h1
   simp only[Cx.back]at h2
   cases hi:idx (ks++os) k with
   |
    some i=>
    rw[hi]at h2
    obtain⟨b0,_,g2⟩:=HR hi
    obtain⟨i',k',g3,g4⟩:=(Cx.lv hg).1 (hle.il b hb ⟨_,b0,g2,h2⟩)
    obtain⟨b',g1,_⟩:=eH i' k' g3
    exact⟨k',b',g1,g4⟩
   |
    none=>
    rw[hi]at h1 h2
    exact⟨k,blk,h1,h2⟩
  ·cases hi:idx (ks++os) k with
   |
    some i=>
    obtain⟨b0,g1,g2⟩:=HR hi
    have CF:=kZ hi
    have iK:ks[i]? =some k:=by
     rw[List.getElem?_append]at CF
     split at CF
     ·exact CF
     ·rw[PB k (List.mem_of_getElem? CF)]at hk;simp at hk
    obtain⟨b1,g3,g4⟩:=eH i k iK
    rw[hk]at g3;cases g3
    have hce:get (Γ.call ks bf).bx (KB+i)=some (a0 (aT ks) blk):=by
     simp only[Cx.call,fT];rw[if_pos (by omega)];simp[g4]
    have hcι:(Γ.call ks bf).ι (KB+i)=Γ.ι k:=by
     simp only[Cx.call];rw[if_pos (by omega)];simp[iK]
    obtain⟨b2,g5,g6,g7⟩:=hle.ref _ _ hce
    rw[g2]at g5;cases g5
    refine⟨a0 (eO (ks++os)) b0,by rw[HL,hi];simp[g1],by rw[jH];rw[jH]at g6;exact g6,λht=> ?_⟩
    rw[jH]at ht g7
    obtain⟨g8,g9⟩:=g7 ht
    rw[hcι]at g8 g9
    refine⟨by simp only[Cx.back];rw[hi];exact g8,g9⟩
   |
    none=>
    refine⟨blk,by rw[HL,hi];exact hk,Nat.le_refl _,λ_=>⟨by simp only[Cx.back];rw[hi],λb hb cs e hc=>⟨cs,?_,rfl⟩⟩⟩
    have hp:=A0 hi hk hb
    rw[←hc]
    refine hle.heap b (cX hc) (λh=>hp.2 ((Cx.lv hg).1 h))
 refine⟨same,le,⟨λk blk hk=> ?_,λi j b hi hj h1 h2=> ?_,λb h=>Nat.lt_of_lt_of_le (hm.ef b h) iu,λb h hp=>hm.apart b (le.il b (hm.ef b hp) h) hp,hm.mh le⟩⟩
 ·rw[HL]at hk
  cases hi:idx (ks++os) k with
  |
   some i=>
   rw[hi]at hk
   obtain⟨b0,g1,g2⟩:=HR hi
   simp only[List.getElem?_map,g1,Option.map_some,sJ]at hk
   subst hk
   have:=(sv.blk _ _ g2).aF same (List.all_eq_true.1 dO b0 (List.mem_of_getElem? g1))
   have e:(Γ.back Γ' (ks++os) fp).ι k=Γ'.ι (KB+i):=by simp only[Cx.back];rw[hi]
   rw[e];exact this
  |
   none=>
   rw[hi]at hk
   have e:(Γ.back Γ' (ks++os) fp).ι k=Γ.ι k:=by simp only[Cx.back];rw[hi]
   rw[e]
   have hb:=hm.blk k blk hk
   refine hb.mono le (λb D9=> ?_)
   have hp:=A0 hi hk D9
   rw[D9]at hb
   exact hle.heap b hb.lt (λh=>hp.2 ((Cx.lv hg).1 h))
 ·rw[HL]at hi hj
  simp only[Cx.back]at h1 h2
  cases e1:idx (ks++os) i with
  |
   some x=>
   rw[e1]at h1
   obtain⟨b0,_,g2⟩:=HR e1
   cases e2:idx (ks++os) j with
   |
    some y=>
    rw[e2]at h2
    obtain⟨b1,_,g3⟩:=HR e2
    have:=sv.inj _ _ b (by simp[g2]) (by simp[g3]) h1 h2
    have KU:x=y:=by omega
    subst KU
    have:=kZ e1
    rw[kZ e2]at this
    exact(Option.some.inj this).symm
   |
    none=>
    rw[e2]at hj h2
    obtain⟨b1,hb1⟩:=Option.isSome_iff_exists.1 hj
    have hp:=A0 e2 hb1 h2
    rw[←Jc]at hp
    exact absurd hp (sv.apart b ⟨_,b0,g2,h1⟩)
  |
   none=>
   rw[e1]at hi h1
   obtain⟨b0,AZ⟩:=Option.isSome_iff_exists.1 hi
   cases e2:idx (ks++os) j with
   |
    some y=>
    rw[e2]at h2
    obtain⟨b1,_,g3⟩:=HR e2
    have hp:=A0 e1 AZ h1
    rw[←Jc]at hp
    exact absurd hp (sv.apart b ⟨_,b1,g3,h2⟩)
   |
    none=>
    rw[e2]at hj h2
    exact hm.inj i j b (by simpa[AZ]using hi) hj h1 h2
end Go.Ab
namespace Go.Ab
variable [eg]
variable {P:Program} {nt:Nat} {ds:List Deferred} {s:St} {Γ:Cx} {a:Act} {w:World} {l:Nat} {o:Obj}
abbrev FW (ro:Option Nat):Fence:= {Fence.wide with round:=ro}
theorem Lw {ro:Option Nat} {f:FuncId} {args:Array Value} {R:Ending->World->Prop} (h:Calls P f args w R):CallsIn (FW ro) 0 P f args w R:=
 (callsIn_wide (n:=0)).2 h
theorem Jy {ro:Option Nat} {f:FuncId} {args:Array Value} {R:Ending->World->Prop} (h:CallsIn (FW ro) 0 P f args w R):Calls P f args w R:=
 (callsIn_wide (n:=0)).1 h
def Tu:Obj->Bool
 | .cells .. | .map .. =>true
 |_=>false
def Cx.obj (Γ:Cx) (l:Nat) (o:Obj):Cx:= {Γ with heap:=Γ.heap.setIfInBounds l o}
def Cx.iB (Γ:Cx) (l:Nat):Prop:=∃x,Γ.heap[l]? =some x∧Tu x=false
theorem jl {b:Nat} (h:b≠l):(Γ.obj l o).heap[b]? =Γ.heap[b]? :=by simp[Cx.obj,Array.getElem?_setIfInBounds_ne (Ne.symm h)]
theorem ug (h:l<Γ.heap.size):(Γ.obj l o).heap[l]? =some o:=by simp[Cx.obj,h]
theorem mH:(Γ.obj l o).heap.size=Γ.heap.size:=by simp[Cx.obj]
theorem Cx.iB.lt (h:Γ.iB l):l<Γ.heap.size:=by obtain⟨x,hx,_⟩:=h;exact cX hx
theorem Cx.iB.ne' (h:Γ.iB l) {b:Nat} {x:Obj} (hb:Γ.heap[b]? =some x) (hx:Tu x=true):b≠l:=by
 rintro rfl
 obtain⟨y,hy,hc⟩:=h
 rw[hb]at hy;cases hy;rw[hx]at hc;simp at hc
theorem Cx.iB.ne (h:Γ.iB l) {b:Nat} {c:Array Value} {e:TypeId} {z:Nat×Nat} (hb:Γ.heap[b]? =some (.cells c e z)):b≠l:=h.ne' hb rfl
theorem zf (hm:Mem Γ) {b:Nat} (h:Γ.il b):∃x,Γ.heap[b]? =some x∧Tu x=true:=by
 obtain⟨k,blk,h1,h2⟩:=h
 have:=hm.blk k blk h1
 rw[h2]at this
 cases blk with
 |box v=>obtain⟨b',c,e,e1,e2,_⟩:=this;cases e1;exact⟨_,e2,rfl⟩
 |arr sz l=>obtain⟨_,_,c,e,cs,rest,e2,_⟩:=this;exact⟨_,e2,rfl⟩
 |map b0 ks vs l=>obtain⟨e1,es,clock,e2,_⟩:=this;cases e1;exact⟨_,e2,rfl⟩
theorem zg (hm:Mem Γ) (h:Γ.iB l):¬Γ.il l:=by
 intro hb
 obtain⟨x,hx,hc⟩:=zf hm hb
 exact h.ne' hx hc rfl
theorem H2 (h:Γ.iB l):Lf Γ (Γ.obj l o) where
 cell b i c _ _ hc:=by
  have hb:b≠l:=by
   rintro rfl
   obtain⟨x,hx,hp⟩:=h
   unfold Ab.cell at hc
   rw[hx]at hc
   cases x<;>simp_all [Tu]
  unfold Ab.cell at hc⊢
  rw[jl hb];exact hc
 own b _ ho:=ho
 size:=by rw[mH];exact Nat.le_refl _
 ref k blk hk:=⟨blk,hk,Nat.le_refl _,λ_=>⟨rfl,λb _ cs e hc=>⟨cs,by rw[jl (h.ne hc)];exact hc,rfl⟩⟩⟩
theorem yg (hm:Mem Γ) (h:Γ.iB l):Mem (Γ.obj l o) where
 blk k blk hk:=(hm.blk k blk hk).nc (H2 h) λb hb=>by
  obtain⟨x,hx,hc⟩:=zf hm ⟨k,blk,hk,hb⟩
  exact jl (h.ne' hx hc)
 inj:=hm.inj
 ef b hb:=by rw[mH];exact hm.ef b hb
 apart:=hm.apart
 xC b cs hb:=by
  obtain⟨h1,e,x,h2⟩:=hm.xC b cs hb
  exact⟨h1,e,x,by rw[jl (h.ne h2)];exact h2⟩
theorem BP (h:Γ.iB l) (ho:Tu o=false):(Γ.obj l o).iB l:=⟨o,ug h.lt,ho⟩
theorem Le.plain {A B:Cx} (h:Le A B) (hm:Mem A) {x:Obj} (hx:A.heap[l]? =some x) (hc:Tu x=false):B.heap[l]? =some x:=by
 rw[h.heap l (cX hx) (zg hm ⟨x,hx,hc⟩)];exact hx
theorem xc {A B:Cx} (h:Le A B) (hm:Mem A) (ha:A.iB l) (ho:Tu o=false):Le (A.obj l o) (B.obj l o) where
 heap b hb hn:=by
  rw[mH]at hb
  by_cases e:b=l
  ·subst e;rw[ug hb,ug (Nat.lt_of_lt_of_le hb h.size)]
  ·rw[jl e,jl e];exact h.heap b hb hn
 il b hb hn:=by rw[mH]at hb;exact h.il b hb hn
 ef:=h.ef
 size:=by rw[mH,mH];exact h.size
 ref k blk hk:=by
  obtain⟨cB,h1,h2,h3⟩:=h.ref k blk hk
  refine⟨cB,h1,h2,λht=>⟨(h3 ht).1,λb hb cs e hc=> ?_⟩⟩
  have fc:b≠l:=(BP ha ho).ne hc
  rw[jl fc]at hc⊢
  exact(h3 ht).2 b hb cs e hc
theorem uh {A B:Cx} (h:Le A B) (hl:A.heap.size≤l) (hb:B.iB l):Le A (B.obj l o) where
 heap b fZ hn:=by rw[jl (by omega)];exact h.heap b fZ hn
 il b fZ hn:=h.il b fZ hn
 ef:=h.ef
 size:=by rw[mH];exact h.size
 ref k blk hk:=by
  obtain⟨cB,h1,h2,h3⟩:=h.ref k blk hk
  refine⟨cB,h1,h2,λht=>⟨(h3 ht).1,λb re cs e hc=> ?_⟩⟩
  obtain⟨CC,h4,h5⟩:=(h3 ht).2 b re cs e hc
  exact⟨CC,by rw[jl (hb.ne h4)];exact h4,h5⟩
theorem Lx {o':Obj} (h:Γ.heap[l]? =some o):(Γ.obj l o').obj l o=Γ:=by
 have fZ:=cX h
 have:(Γ.heap.setIfInBounds l o').setIfInBounds l o=Γ.heap:=by
  apply Array.ext
  ·simp
  ·intro i h1 h2
   rw[Array.getElem_setIfInBounds (by simpa using h2)]
   split
   ·subst_vars;exact((Array.getElem?_eq_some_iff.1 h).2).symm
   ·rename_i fc
    rw[Array.getElem_setIfInBounds h2,if_neg fc]
 simp only[Cx.obj,this]
theorem hU.obj (hs:hU nt ds s Γ a) (h:Γ.iB l):hU nt ds s (Γ.obj l o) a:=
 ⟨hs.bx,hs.size,hs.defers,λk p hk=>(hs.env k p hk).nc (H2 h),yg hs.mem h⟩
theorem ui (h:w.heap=Γ.heap):(w.putObj l o).heap=(Γ.obj l o).heap:=by simp[World.putObj,Cx.obj,h]
theorem WF.obj (w:World) (l:Nat) (o:Obj):WF w (w.putObj l o):=⟨rfl,rfl,rfl⟩
theorem WF.alloc (w:World) (o:Obj):WF w (w.alloc o):=⟨rfl,rfl,rfl⟩
def lx (B:Nat) (Γ:Cx) (ds:List Deferred):Prop:=
 ∃Ds:List Nat,ds=Ds.map (λD=> {target:= .collected D,args:= #[]})∧Ds.Nodup∧∀D∈Ds,B≤D∧Γ.heap[D]? =some (.deferred (some []))
theorem lx.nil {B:Nat}:lx B Γ []:=⟨[],rfl,.nil,by simp⟩
theorem lx.le {B:Nat} {Γ':Cx} (h:lx B Γ ds) (hm:Mem Γ) (hle:Le Γ Γ'):lx B Γ' ds:=by
 obtain⟨Ds,h1,h2,h3⟩:=h
 exact⟨Ds,h1,h2,λD hD=>⟨(h3 D hD).1,hle.plain hm (h3 D hD).2 rfl⟩⟩
theorem lx.heap {B:Nat} {Γ':Cx} (h:lx B Γ ds) (he:Γ'.heap=Γ.heap):lx B Γ' ds:=by
 obtain⟨Ds,h1,h2,h3⟩:=h
 exact⟨Ds,h1,h2,λD hD=>⟨(h3 D hD).1,by rw[he];exact(h3 D hD).2⟩⟩
def eD (n:Nat):List Nat:=(List.range n).map (KB+·)
def Ly (P:Program) (l:Nat) (Γc:Cx) (args:List PV) (fp:List a9) (R:List a9->Prop):Prop:=
 ∀
  (Γ:Cx) (w:World) (vs:List Value),w.heap=Γ.heap->Mem Γ->Γ.bx=aG 0 fp->gK Γ args vs->Lf Γc Γ->Γ.heap[l]? =Γc.heap[l]? ->
  YieldAt (FW none) 0 P l vs.toArray w (λe w'=>∃kP Γ',e= .returned (.bool true)∧R kP∧w'.heap=Γ'.heap∧Mem Γ'∧Γ'.bx=aG 0 kP∧Le Γ Γ'∧WF w w')
class iE where
 n:Nat
 spec:Nat->List PV->List a9->(List a9->Prop)->Prop
instance noY:iE:=⟨0,λ_ _ _ _=>False⟩
def zh [Y:iE] (P:Program) (Γ:Cx):Prop:=∀l args fp R,Y.spec l args fp R->
 ∃Γ0 rec,Le Γ0 Γ∧(∀k blk,get Γ0.bx k=some blk->KB≤k∧k<KB+Y.n)∧Γ0.heap[l]? =some (.loop rec)∧Mem Γ0∧Ly P l Γ0 args fp R
theorem zh.le [iE] {Γ':Cx} (h:zh P Γ) (hle:Le Γ Γ'):zh P Γ':=λl args fp R hs=>by
 obtain⟨Γ0,rec,h1,h2⟩:=h l args fp R hs
 exact⟨Γ0,rec,h1.trans hle,h2⟩
theorem zh.no: @zh _ noY P Γ:=λ_ _ _ _ h=>h.elim
def Gu [Y:iE] (s:St) (d:Option Nat) (l:Nat) (args:List PV) (K:St->Prop):Prop:=
 ∃
  bf R,getAll s.bx (eD Y.n)=some bf∧ae (fR Y.n) args=true∧bf.all (af (fR Y.n))=true∧Y.spec l args bf R∧
  ∀fp,R fp->(fp.length=Y.n∧fp.all (af (fR Y.n))=true)∧K ({s with bx:=bC s.bx (eD Y.n) fp}.put d (.bl true))
theorem ny (n:Nat):(eD n).Nodup:=by
 unfold eD
 exact List.Pairwise.map _ (λa b h=>by simp only[ne_eq];omega) List.nodup_range
theorem vO {n i k:Nat}:(eD n)[i]? =some k↔i<n∧k=KB+i:=by
 unfold eD
 simp only[List.getElem?_map,mJ]
 constructor
 ·rintro⟨x,h1,h2⟩
  obtain⟨h3,h4⟩:=List.getElem?_eq_some_iff.1 h1
  simp at h3 h4;subst h4
  exact⟨h3,h2.symm⟩
 ·rintro⟨h1,rfl⟩
  exact⟨i,by simp[h1],rfl⟩
theorem zi {n k:Nat}:idx (eD n) k=if KB≤k∧k<KB+n then some (k-KB)else none:=by
 split
 ·rename_i h
  exact ze (ny n) (vO.2 ⟨by omega,by omega⟩)
 ·rename_i h
  cases hi:idx (eD n) k with
  |none=>rfl
  |some i=>exact absurd (vO.1 (kZ hi)) (by omega)
theorem oE (n:Nat):bg (eD n)=fR n:=by
 funext k
 simp only[bg,zi,fR]
 split<;>simp_all
theorem oF {n k:Nat}:aT (eD n) k=k:=by
 unfold aT
 rw[zi]
 split
 ·rename_i i h
  split at h<;>simp at h
  omega
 ·rfl
mutual
theorem uj {ρ:Nat->Nat} (h:∀k,ρ k=k):∀p,aF ρ p=p
 | .rs k _ _ _ _ _ _=>by simp[aF,h]
 | .pt k _ _=>by simp[aF,h]
 | .st _ l=>by simp[aF,jQ h l]
 | .ar _ _ l=>by simp[aF,jQ h l]
 | .tup l=>by simp[aF,jQ h l]
 | .sl _ l _=>by simp[aF,jQ h l]
 | .fp _ l _=>by simp[aF,jQ h l]
 | .fn _ x y=>by simp[aF,jQ h x,jQ h y]
 | .gd _ p=>by simp[aF,uj h p]
 | .ifc _ p=>by simp[aF,uj h p]
 | .un| .bl _| .int .. | .str _| .np| .nf| .ni| .mp .. =>by simp[aF]
theorem jQ {ρ:Nat->Nat} (h:∀k,ρ k=k):∀l,aK ρ l=l
 |[]=>rfl
 |p::l=>by simp[aK,uj h p,jQ h l]
end
theorem Jz {ρ:Nat->Nat} (h:∀k,ρ k=k) (b:a9):a0 ρ b=b:=by
 cases b<;>simp[a0,uj h,jQ h]
theorem td {ρ:Nat->Nat} (h:∀k,ρ k=k) (l:List a9):l.map (a0 ρ)=l:=by
 induction l<;>simp[Jz h, *]
theorem Lz {Γ0:Cx} {n:Nat} {bf:List a9} (h0:∀k blk,get Γ0.bx k=some blk->KB≤k∧k<KB+n) (hle:Le Γ0 Γ) (hg:getAll Γ.bx (eD n)=some bf):Lf Γ0 (Γ.call (eD n) bf) where
 cell b i c hb hn hc:=by
  have:=hle.heap b hb λh=>hn (.inl h)
  rw[show(Γ.call (eD n) bf).heap=Γ.heap from rfl,tX this];exact hc
 own b hb ho:=by
  have hG:Γ.own b:=by
   rcases ho with ho|ho
   ·obtain⟨i,k,h1,h2⟩:=(Cx.lv hg).1 ho
    obtain⟨_,eH⟩:=eQ hg
    obtain⟨b',g1,_⟩:=eH i k h1
    exact .inl ⟨k,b',g1,h2⟩
   ·exact ho.1
  exact hle.own b hb hG
 size:=hle.size
 ref k blk hk:=by
  obtain⟨h1,h2⟩:=h0 k blk hk
  obtain⟨cB,g1,g2,g3⟩:=hle.ref k blk hk
  have hs:=Cx.nP (Γ:=Γ) hg
  obtain⟨aui,e1,e2,e3⟩:=hs.ref k cB (by rw[oE];simp[fR,h1,h2]) g1
  rw[oF]at e1 e3
  refine⟨aui,e1,by omega,λht=> ?_⟩
  obtain⟨g4,g5⟩:=g3 (by omega)
  exact⟨by rw[e3,g4],g5⟩
end Go.Ab
namespace Go.Ab
variable [eg]
variable {P:Program} {nt:Nat} {ds:List Deferred} {s:St} {Γ:Cx} {a:Act} {w:World}
theorem aD.acB {Δ:Cx}:∀ {l:List PV} {cs:List Value},aD Γ l cs->l.all PV.isNum=true->aD Δ l cs
 |_,_,.nil,_=> .nil
 |_,_,.int k n h,hn=> .int k n (aD.acB h (by simpa[PV.isNum]using hn))
 |_,_,.un _ _,hn=>by simp[PV.isNum]at hn
 |_,_,.bl _ _,hn=>by simp[PV.isNum]at hn
 |_,_,.str _ _ _ _,hn=>by simp[PV.isNum]at hn
 |_,_,.st _ _ _ _ _,hn=>by simp[PV.isNum]at hn
 |_,_,.ar _ _ _ _ _ _ _,hn=>by simp[PV.isNum]at hn
 |_,_,.sl _ _ _ _ _ _ _ _ _ _ _,hn=>by simp[PV.isNum]at hn
 |_,_,.rs _ _ _ _ _ _ _ _ _ _ _ _ _,hn=>by simp[PV.isNum]at hn
 |_,_,.np _,hn=>by simp[PV.isNum]at hn
 |_,_,.pt _ _ _ _ _ _ _ _ _,hn=>by simp[PV.isNum]at hn
 |_,_,.fp _ _ _ _ _ _ _ _ _ _,hn=>by simp[PV.isNum]at hn
 |_,_,.fn _ _ _ _ _ _ _ _,hn=>by simp[PV.isNum]at hn
 |_,_,.nf _,hn=>by simp[PV.isNum]at hn
 |_,_,.ifc _ _ _ _ _,hn=>by simp[PV.isNum]at hn
 |_,_,.ni _,hn=>by simp[PV.isNum]at hn
 |_,_,.mp _ _ _,hn=>by simp[PV.isNum]at hn
def Cx.lit (Γ:Cx) (b:Nat) (o:Obj) (k:Nat) (blk:a9):Cx:=
 {heap:=Γ.heap.setIfInBounds b o,ι:=λi=>if i=k then none else Γ.ι i,bx:=put Γ.bx k blk,ef:=Γ.ef}
theorem CW (hm:Mem Γ) {k b:Nat} {blk cB:a9} {o o':Obj} (hg:get Γ.bx k=some blk) (hb:Γ.ι k=some b) (ho:Γ.heap[b]? =some o) (ht:blk.aC<cB.aC):Le Γ (Γ.lit b o' k cB) where
 heap b' re fc:=by
  have:b≠b':=by intro h;subst h;exact fc ⟨k,blk,hg,hb⟩
  simp only[Cx.lit]
  rw[Array.getElem?_setIfInBounds_ne this]
 il b' re h:=by
  obtain⟨i,bl,YR,hi⟩:=h
  simp only[Cx.lit,fg]at YR hi
  by_cases iK:k=i
  ·subst iK;simp at hi
  ·rw[if_neg iK]at YR
   rw[if_neg (λe=>iK e.symm)]at hi
   exact⟨i,bl,YR,hi⟩
 ef:=rfl
 size:=by simp[Cx.lit]
 ref i bl h:=by
  by_cases iK:k=i
  ·subst iK
   rw[hg]at h;cases h
   exact⟨cB,by simp[Cx.lit,dj],by omega,λe=>by omega⟩
  ·refine⟨bl,by simp only[Cx.lit];rw[cH _ _ _ _ iK];exact h,Nat.le_refl _,λ_=>⟨by simp only[Cx.lit];rw[if_neg (λe=>iK e.symm)],λb2 D9 cs e hc=>⟨cs,?_,rfl⟩⟩⟩
   have fc:b≠b2:=by
    intro h';subst h'
    exact iK (hm.inj k i b (by rw[hg];rfl) (by rw[h];rfl) hb D9)
   simp only[Cx.lit]
   rw[Array.getElem?_setIfInBounds_ne fc];exact hc
theorem PT (hm:Mem Γ) {k b:Nat} {blk cB:a9} {o o':Obj} (hg:get Γ.bx k=some blk) (hb:Γ.ι k=some b) (ho:Γ.heap[b]? =some o) (ht:blk.aC<cB.aC) (hr:cB.vB (Γ.lit b o' k cB) none):Mem (Γ.lit b o' k cB) where
 blk i bl h:=by
  by_cases iK:k=i
  ·subst iK
   simp only[Cx.lit,dj,sJ]at h
   subst h
   have:(Γ.lit b o' k cB).ι k=none:=by simp[Cx.lit]
   rw[this];exact hr
  ·simp only[Cx.lit]at h
   rw[cH _ _ _ _ iK]at h
   have h2:=hm.blk i bl h
   have hi:(Γ.lit b o' k cB).ι i=Γ.ι i:=by simp only[Cx.lit];rw[if_neg (λe=>iK e.symm)]
   rw[hi]
   exact h2.mono (CW hm hg hb ho ht) (λb2 D9=>by
    have fc:b≠b2:=by
     intro h';subst h'
     exact iK (hm.inj k i b (by simp[hg]) (by simp[h]) hb D9)
    simp only[Cx.lit];rw[Array.getElem?_setIfInBounds_ne fc])
 inj i j b2 hi hj h1 h2:=by
  simp only[Cx.lit]at h1 h2
  have CF:¬i=k:=by intro e;rw[if_pos e]at h1;cases h1
  have hkj:¬j=k:=by intro e;rw[if_pos e]at h2;cases h2
  rw[if_neg CF]at h1
  rw[if_neg hkj]at h2
  refine hm.inj i j b2 ?_ ?_ h1 h2
  ·simp only[Cx.lit]at hi;rwa [cH _ _ _ _ (λe=>CF e.symm)]at hi
  ·simp only[Cx.lit]at hj;rwa [cH _ _ _ _ (λe=>hkj e.symm)]at hj
 ef b2 h:=by have:=hm.ef b2 h;simpa[Cx.lit]using this
 apart b2 h hp:=hm.apart b2 ((CW hm (o':=o') hg hb ho ht).il b2 (hm.ef b2 hp) h) hp
 xC:=hm.mh (CW hm hg hb ho ht)
theorem xF (w:World) (t e e':TypeId) (C:Array Value) (b n c:Nat) (ht:P.underlying t=some (.slice e)) (he:P.underlying e=some (.int .u8)) (hb:w.heap[b]? =some (.cells C e' (0,0))):
  (convert t t (.slice (some ⟨b,0,none⟩) n c)).run P w= .ok (.slice (some ⟨b,0,none⟩) n c) {w with heap:=w.heap.setIfInBounds b (.cells C e' (C.size,C.size+1))}:=by
 have DU:w.shape? b=some (e',C.size):=by unfold World.shape?;rw[hb]
 have nr:w.freeze ⟨b,C.size,none⟩ 1= {w with heap:=w.heap.setIfInBounds b (.cells C e' (C.size,C.size+1))}:=by
  unfold World.freeze
  rw[if_neg (by decide)]
  have:∀f:Obj->Obj,w.heap.modify b f=w.heap.setIfInBounds b (f (.cells C e' (0,0))):=by
   intro f
   apply Array.ext_getElem?
   intro i
   rw[Array.getElem?_modify,Array.getElem?_setIfInBounds]
   by_cases h:b=i
   ·subst h
    rw[hb];simp[cX hb]
   ·simp[h]
  rw[this]
  rfl
 simp[convert,run_underlying ht,run_underlying he,markStringish,DU,nr]
theorem JA {o:Oper} {t e:TypeId} {x:Operand} {x':AX} {K:St->Prop} (ho:o.op= .convert t t x) (h1:P.underlying t=some (.slice e)) (h3:P.underlying e=some (.int .u8))
  (hx:gq x=some x') (hs:hU nt ds s Γ a) (hw:w.heap=Γ.heap) (hd:∀k,o.dst=some k->k<nt) (he:ex s o.dst (.convL x') K):kS P nt ds o a w Γ K:=by
 simp only[ex]at he
 obtain⟨p,hp,hr⟩:=cO hx hs rfl he
 cases p<;>simp only at hp<;>first|exact hp.elim|skip
 rename_i k pth off len aC sz c
 split at hp
 ·rename_i bB l hg
  obtain⟨⟨rfl,rfl,rfl,rfl,rfl,rfl,rfl,fc,YX⟩,hK⟩:=hp
  rw[←hs.bx]at hg
  obtain⟨ad,bu,hv,dO⟩:=hr.rs hg rfl
  have KT:=hs.mem.blk _ _ hg
  unfold jc at dO
  have hlen:0<l.length:=by cases l<;>simp at fc⊢
  cases hι:Γ.ι k with
  |none=>rw[hι]at dO;simp only at dO;omega
  |
   some b=>
   rw[hι]at dO
   simp only at dO
   obtain⟨SV,had,_,auk⟩:=dO
   obtain⟨_,Gk,e0,aAR,BB⟩:=auk trivial
   have aul:ad=some ⟨b,0,none⟩:=by
    rcases had with h|h
    ·omega
    ·simpa[cW]using h
   subst aul
   simp only[a9.vB,hι]at KT
   obtain⟨ak7,_,C,e1,cs,rest,hC,DV,Jd,_⟩:=KT
   have tV:w.heap[b]? =some (.cells C e1 (0,0)):=by rw[hw];exact hC
   have ht:(a9.arr 1 l).aC<(a9.arr 1 (l++[.int .u8 0])).aC:=by simp[a9.aC]
   have iN:(execOp a.eval o).run P w= .ok (.value (.slice (some ⟨b,0,none⟩) l.length bu)) {w with heap:=w.heap.setIfInBounds b (.cells C e1 (C.size,C.size+1))}:=by
    have e2:execOp a.eval o=(do Pure.pure (Next.value (←convert t t (a.eval x)))):=by unfold execOp;rw[ho]
    rw[e2,bJ,hv,xF w t e e1 C b l.length bu h1 h3 tV];rfl
   have hle:=CW hs.mem (o':= .cells C e1 (C.size,C.size+1)) hg hι hC ht
   have iZ:=PT hs.mem (o':= .cells C e1 (C.size,C.size+1)) hg hι hC ht ⟨by
    intro y hy
    rcases List.mem_append.1 hy with h|h
    ·exact ak7 y h
    ·simp at h;subst h;rfl,by omega,trivial⟩
   have g1:=hs.le hle iZ (vC:=put s.bx k (.arr 1 (l++[.int .u8 0]))) (by simp[Cx.lit,hs.bx])
   have ak8:¬(Γ.lit b (.cells C e1 (C.size,C.size+1)) k (.arr 1 (l++[.int .u8 0]))).own b:=by
    rintro(⟨i,bl,q1,q2⟩|q)
    ·simp only[Cx.lit]at q1 q2
     by_cases iK:i=k
     ·rw[if_pos iK]at q2;cases q2
     ·rw[if_neg iK]at q2
      rw[cH _ _ _ _ (λe=>iK e.symm)]at q1
      exact iK (hs.mem.inj i k b (by simp[q1]) (by simp[hg]) q2 hι)
    ·exact hs.mem.apart b ⟨k,_,hg,hι⟩ q
   have DX:aN (Γ.lit b (.cells C e1 (C.size,C.size+1)) k (.arr 1 (l++[.int .u8 0]))) (.sl 1 l false) (.slice (some ⟨b,0,none⟩) l.length bu):=by
    simp only[aN]
    refine .sl 1 l false _ bu (Jd.acB YX) ak7 SV (by simp) (λ_=>⟨b,0,rfl,by simp[Cx.lit];exact cX hC,ak8,λi c hc=> ?_⟩) .nil
    simp only[cell,Cx.lit,Nat.zero_add]
    rw[uJ (cX hC)]
    simp only
    rw[←Array.getElem?_toList,DV,List.getElem?_append_left (List.getElem?_eq_some_iff.1 hc).1]
    exact hc
   have g2:=g1.put hd DX
   refine⟨_,_,_,_,_,iN,.inl rfl,g2,by simp[Cx.lit,hw],hle,⟨rfl,rfl,rfl⟩,hK⟩
 ·exact hp.elim
end Go.Ab
namespace Go.Ab
variable [eg]
variable {P:Program} {nt:Nat} {ds:List Deferred} {s:St} {Γ:Cx} {a:Act} {w:World}
theorem En {o:Oper} {t u e:TypeId} {kn:IntKind} {i:TypeInfo} {z:Value} {zz:PV} {x y:Operand} {x' y':AX} {K:St->Prop} (ho:o.op= .call {callee:= .builtin .append,args:= #[x,y],argTypes:= #[t,u]})
  (ht:P.underlying t=some (.slice e)) (hu:P.underlying u=some (.int kn)) (hi:P.info? e=some i) (hz:i.zero=some z) (hzz:zeroOf P e=some zz) (Vx:z.cells.size=i.size) (j1:0<i.size) (YT:z.cells.toList.all fY=true)
  (hx:gq x=some x') (hy:gq y=some y') (hs:hU nt ds s Γ a) (hw:w.heap=Γ.heap) (hd:∀k,o.dst=some k->k<nt) (he:ex s o.dst (.appendZ i.size i.bytes zz x' y') K):kS P nt ds o a w Γ K:=by
 simp only[ex]at he
 obtain⟨p,hp,sG⟩:=cO hx hs rfl he
 obtain⟨q,hq,m7⟩:=cO hy hs rfl hp
 obtain⟨kv,m,hm,hA⟩:=gD hq m7
 obtain⟨zv,Px,Vw,AU,_,aAS⟩:=ld (Γ:=Γ) hzz
 have SM:zz.width=i.size:=by rw[vK hi]at AU;exact(Option.some.inj AU).symm
 have aun:zv=z:=by
  have h1:=Px w
  simp only[zeroValue,typeInfo,bJ]at h1
  simp[hi,hz]at h1
  exact h1.symm
 subst aun
 unfold n5 at hA
 split at hA
 ·exact hA.elim
 rename_i k hk
 split at hA
 case h_2=>exact hA.elim
 rename_i k2 len aC bB n
 split at hA
 case h_2=>exact hA.elim
 rename_i sz'' l hg
 obtain⟨⟨jz,h1,h2,h3,hln,aue,Ox,fZ,h5,h6⟩,hK⟩:=hA
 subst h1 h2 h3
 have kQ:=hg
 rw[←hs.bx]at kQ
 obtain⟨ad,bu,hv,dO⟩:=sG.rs kQ rfl
 obtain⟨lX,_,kO⟩:=hs.mem.blk k2 _ kQ
 have Pz:∀x∈l.take len,x.width=i.size:=λx hx=>lX x (List.mem_of_mem_take hx)
 have Gl:(l.take len).length=len:=by rw[lJ];omega
 have Gp:bu=n:=by
  unfold jc at dO
  split at dO
  ·exact dO.2.2
  ·exact dO.2.2.1
 subst Gp
 obtain⟨mn,rfl⟩:∃mn:Nat,m=mn:=⟨m.toNat,by omega⟩
 simp only[Int.toNat_natCast]at fZ h5 h6 hK
 --the old cells
 obtain⟨cs,A8,lW⟩:∃cs,aD Γ (l.take len) cs∧(0<len->∃b o,ad=some ⟨b,o,none⟩∧∀j x,cs[j]? =some x->cell Γ.heap b (o+j)=some x):=by
  unfold jc at dO
  cases hι:Γ.ι k2 with
  |
   none=>
   rw[hι]at dO
   obtain⟨rfl,_,_⟩:=dO
   exact⟨[],by simpa using aD.nil,by simp⟩
  |
   some b=>
   rw[hι]at dO kO
   obtain⟨o1,o2,_,_⟩:=dO
   obtain⟨c,ce,cs,rest,h7,h8,h9,Gj⟩:=kO
   refine⟨cs.take (len*i.size),h9.El lX len (by omega),λhp=> ?_⟩
   rcases o2 with o2|rfl
   ·omega
   refine⟨b,_,rfl,λj x hj=> ?_⟩
   have hb:=lr h7 cs rest h8
   have DW:cs[j]? =some x:=by
    rw[List.getElem?_take]at hj;split at hj
    ·exact hj
    ·cases hj
   simpa[cW]using hb j x DW
 have sI:cs.length=len*i.size:=by rw[A8.length,bP Pz,Gl]
 obtain⟨w',cap,r1,r2,r3,r4⟩:=vM (P:=P) (w:=w) (ty:=o.type) (kv:=kv) ht hu hi hz (ad:=ad) (sLen:=len) (sCap:=bu) (n:=mn) (olds:=cs)
  (.inl ⟨ad,bu,rfl,λj1=>by rw[hw];exact lW (by omega)⟩) sI (by omega) j1 fZ h6 h5
 rw[←hv,←hm]at r1
 have hzl:(Builtin.zeroCells zv.cells mn).toList=(List.replicate mn zv.cells.toList).flatten:=by
  have:=kY zv.cells mn
  simpa[Builtin.zeroCells]using this
 have hrz:=jk Vw mn
 rw[←hzl]at hrz
 exact n6 (cap:=cap) (l:=l.take len++List.replicate mn zz) (cs:=cs++(Builtin.zeroCells zv.cells mn).toList) (rest:=(Builtin.zeroCells zv.cells (cap-(len+mn))).toList) hs hw hk (hd k hk) jz j1 (A8.append hrz)
  (λx hx=>(List.mem_append.1 hx).elim (Pz x) (λhx=>by rw[(List.mem_replicate.1 hx).2];exact SM))
  (by simp only[List.length_append,Array.length_toList,pD,Vx,sI,←Nat.add_mul];congr 1;omega)
  (by rw[List.length_append,Gl,List.length_replicate];exact r2) (sL (by omega) YT)
  (by rw[List.length_append,Gl,List.length_replicate];exact j5 ho r1) r3 r4
  (by rw[List.length_append,Gl,List.length_replicate];exact hK)
end Go.Ab
