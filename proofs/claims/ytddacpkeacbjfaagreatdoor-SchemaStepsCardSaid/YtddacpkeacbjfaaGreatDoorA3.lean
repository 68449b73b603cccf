/- Each acting operation and each call does what its abstract reading says. No condition. -/
import Derived.Test.YtddacpkeacbjfaaGreatDoorA2
import Derived.Laws.Append
import Derived.Laws.IdiomStrings
import Derived.OrdersIn
import Derived.RangeFuncSeq
import Derived.RangeFuncLeaves
import Derived.RangeFuncRecord
set_option linter.all false
namespace Go.Ab
variable [cM]
variable {P:Program} {nt:Nat} {ds:List Deferred} {s:St} {Γ:Cx} {a:Act} {w:World}
structure WF (w w':World):Prop where
 os:w'.os=w.os
 tape:w'.tape=w.tape
 output:w'.output=w.output
def WF.refl (w:World):WF w w:=⟨rfl,rfl,rfl⟩
def WF.trans {a b c:World} (h:WF a b) (k:WF b c):WF a c:=⟨k.os.trans h.os,k.tape.trans h.tape,k.output.trans h.output⟩
theorem aN.py {Γ Γ':Cx} (hle:PJ Γ Γ'):∀ {p:PV} {v:Value},aN Γ p v->aN Γ' p v:=by
 have h1:∀ {p:PV} {v:Value},iK Γ p v->iK Γ' p v:=by
  intro p v h;cases p
  case un=>trivial
  case st w l=>obtain⟨cs,h1,h2⟩:=h;exact⟨cs,h1,h2.py hle⟩
  case ar sz n l=>obtain⟨cs,h1,h2⟩:=h;exact⟨cs,h1,h2.py hle⟩
  all_goals exact aC.py hle h
 have h2:∀ {l:WG} {vs:UE},jU Γ l vs->jU Γ' l vs:=by
  intro l;induction l with
  |nil=>intro vs h;cases vs<;>simp_all [jU]
  |
   cons p l ih=>
   intro vs h
   cases vs with
   |nil=>simp[jU]at h
   |cons v vs=>simp only[jU]at h⊢;exact⟨h1 h.1,ih h.2⟩
 intro p;induction p using PV.rec (motive_2:=λ_=>True)with
 |gd b p ih=>intro v h;rw[aN]at h⊢;exact⟨λhb=>ih (h.1 hb),h.2⟩
 |tup l=>intro v h;simp only[aN]at h⊢;obtain⟨vs,e,h⟩:=h;exact⟨vs,e,h2 h⟩
 |un=>intro v h;simp[aN]
 |st w l=>intro v h;obtain⟨cs,e,h⟩:=h;exact⟨cs,e,h.py hle⟩
 |ar sz n l=>intro v h;obtain⟨cs,e,h⟩:=h;exact⟨cs,e,h.py hle⟩
 |nil=>trivial
 |cons=>trivial
 |_=>intro v h;exact aC.py hle h
theorem aU.xe.py {Γ Γ':Cx} (hle:PJ Γ Γ') {ob:Option Nat} {blk:aU} (hh:∀b,ob=some b->Γ'.heap[b]? =Γ.heap[b]?) (h:blk.xe Γ ob):blk.xe Γ' ob:=by
 cases blk with
 |
  box v=>
  obtain⟨b,c,e,h1,h2,h3⟩:=h
  exact⟨b,c,e,h1,by rw[hh b h1];exact h2,h3.py hle⟩
 |
  arr sz l=>
  obtain⟨h1,h2,h3⟩:=h
  refine⟨h1,h2,?_⟩
  cases ob with
  |none=>exact h3
  |
   some b=>
   obtain⟨c,e,cs,rest,h4,h5,h6,h7⟩:=h3
   exact⟨c,e,cs,rest,by rw[hh b rfl];exact h4,h5,h6.py hle,h7⟩
 |
  map b ks vs l=>
  obtain⟨h1,h2⟩:=h
  exact⟨h1,by rw[hh b h1];exact h2⟩
def aN.mono {Γ Γ':Cx} (hle:Le Γ Γ') {p:PV} {v:Value} (h:aN Γ p v):aN Γ' p v:=h.py hle.c
def aU.xe.mono {Γ Γ':Cx} (hle:Le Γ Γ') {ob:Option Nat} {blk:aU} (hh:∀b,ob=some b->Γ'.heap[b]? =Γ.heap[b]?) (h:blk.xe Γ ob):blk.xe Γ' ob:=h.py hle.c hh
def b9 {h:Array Obj} {b:Nat} {o:Obj} (e:h[b]? =some o):b<h.size:=(Array.getElem?_eq_some_iff.1 e).1
theorem aU.xe.lt {blk:aU} {b:Nat} (h:blk.xe Γ (some b)):b<Γ.heap.size:=by
 cases blk with
 |box v=>obtain⟨b',c,e,h1,h2,h3⟩:=h;cases h1;exact b9 h2
 |arr sz l=>obtain⟨_,_,c,e,cs,rest,h4,_⟩:=h;exact b9 h4
 |map b0 ks vs l=>obtain⟨h1,es,clock,h2,_⟩:=h;cases h1;exact b9 h2
def Mem.lt (hm:Mem Γ) {b:Nat} (h:Γ.fM b):b<Γ.heap.size:=by
 obtain⟨k,blk,hg,hb⟩:=h;have:=hm.blk k blk hg;rw[hb]at this;exact this.lt
def Mem.An (hm:Mem Γ):¬Γ.own Γ.heap.size:=by
 rintro(h|h)
 ·exact Nat.lt_irrefl _ (hm.lt h)
 ·exact Nat.lt_irrefl _ (hm.cI _ h)
def Cx.push (Γ:Cx) (o:Obj):Cx:= {Γ with heap:=Γ.heap.push o}
def Cx.ext (Γ:Cx) (o:Obj) (k:Nat) (blk:aU):Cx:=
 {heap:=Γ.heap.push o,ι:=λi=>if i=k then some Γ.heap.size else Γ.ι i,bx:=put Γ.bx k blk,cI:=Γ.cI}
def Cx.lR (Γ:Cx) (k:Nat) (blk:aU):Cx:=
 {Γ with ι:=λi=>if i=k then none else Γ.ι i,bx:=put Γ.bx k blk}
def lZ (h:Array Obj) (o:Obj) {b:Nat} (hb:b<h.size):(h.push o)[b]? =h[b]? :=by
 rw[Array.getElem?_push,if_neg (by omega)]
theorem xo (Γ:Cx) (o:Obj):Le Γ (Γ.push o) where
 heap b hb _:=lZ _ _ hb
 fM b _ h:=h
 cI:=rfl
 size:=by simp[Cx.push]
 ref k blk h:=⟨blk,h,JaQ _,λ_=>⟨rfl,λb _ cs e hc=>⟨cs,by rw[←hc];exact lZ _ _ (b9 hc),rfl⟩⟩⟩
theorem B3 (Γ:Cx) (o:Obj) {k:Nat} (blk:aU) (hk:get Γ.bx k=none):Le Γ (Γ.ext o k blk) where
 heap b hb _:=lZ _ _ hb
 fM b hb h:=by
  obtain⟨i,bl,hg,hi⟩:=h;simp only[Cx.ext]at hg hi;by_cases gP:i=k
  ·subst gP;simp at hi;omega
  ·rw[if_neg gP]at hi;rw[bG _ _ _ _ (λh=>gP h.symm)]at hg;exact⟨i,bl,hg,hi⟩
 cI:=rfl
 size:=by simp[Cx.ext]
 ref i bl h:=by
  have gP:i≠k:=by intro h';subst h';rw[hk]at h;simp at h
  refine⟨bl,by simp only[Cx.ext];rw[bG _ _ _ _ (λh=>gP h.symm)];exact h,JaQ _,λ_=>⟨by simp[Cx.ext,gP],λb _ cs e hc=>⟨cs,by rw[←hc];exact lZ _ _ (b9 hc),rfl⟩⟩⟩
theorem u5 (Γ:Cx) {k:Nat} (blk:aU) (hk:get Γ.bx k=none):Le Γ (Γ.lR k blk) where
 heap b hb _:=rfl
 fM b hb h:=by
  obtain⟨i,bl,hg,hi⟩:=h;simp only[Cx.lR]at hg hi;by_cases gP:i=k
  ·subst gP;simp at hi
  ·rw[if_neg gP]at hi;rw[bG _ _ _ _ (λh=>gP h.symm)]at hg;exact⟨i,bl,hg,hi⟩
 cI:=rfl
 size:=JaQ _
 ref i bl h:=by
  have gP:i≠k:=by intro h';subst h';rw[hk]at h;simp at h
  exact⟨bl,by simp only[Cx.lR];rw[bG _ _ _ _ (λh=>gP h.symm)];exact h,JaQ _,λ_=>⟨by simp[Cx.lR,gP],λb _ cs e hc=>⟨cs,hc,rfl⟩⟩⟩
def Mem.kH {Γ Γ':Cx} (hm:Mem Γ) (hl:Le Γ Γ') (b:Nat) (cs:Array Value) (h:cM.xj b=some cs):¬Γ'.fM b∧∃e x,Γ'.heap[b]? =some (.cells cs e x):=by
 obtain⟨h1,e,x,h2⟩:=hm.xj b cs h;refine⟨λhb=>h1 (hl.fM b (b9 h2) hb),e,x,?_⟩;rw[hl.heap b (b9 h2) h1];exact h2
def mem_push (hm:Mem Γ) (o:Obj):Mem (Γ.push o) where
 blk k blk h:=by
  have:=hm.blk k blk h
  exact this.mono (xo Γ o) (λb hb=>by
   rw[show(Γ.push o).ι k=Γ.ι k from rfl]at hb;rw[hb]at this;exact lZ _ _ this.lt)
 inj:=hm.inj
 cI b h:=by have:=hm.cI b h;simp only[Cx.push,Array.size_push];omega
 apart:=hm.apart
 xj:=hm.kH (xo Γ o)
def LQ (hm:Mem Γ) {o:Obj} {k:Nat} {blk:aU} (hk:get Γ.bx k=none) (hr:blk.xe (Γ.ext o k blk) (some Γ.heap.size)):Mem (Γ.ext o k blk) where
 blk i bl h:=by
  by_cases gP:i=k
  ·subst gP;simp only[Cx.ext,cm,sJ]at h;subst h;have:(Γ.ext o i blk).ι i=some Γ.heap.size:=by simp[Cx.ext]
   rw[this];exact hr
  ·simp only[Cx.ext]at h;rw[bG _ _ _ _ (λh=>gP h.symm)]at h;have:=hm.blk i bl h;have e:(Γ.ext o k blk).ι i=Γ.ι i:=by simp[Cx.ext,gP]
   rw[e];exact this.mono (B3 Γ o blk hk) (λb hb=>by rw[hb]at this;exact lZ _ _ this.lt)
 inj i j b hi hj h1 h2:=by
  simp only[Cx.ext,dc]at hi hj h1 h2;by_cases gP:i=k<;>by_cases wa:j=k
  ·rw[gP,wa]
  ·rw[if_pos gP]at h1;rw[if_neg wa]at h2;rw[if_neg (λh=>wa h.symm)]at hj;obtain⟨bl,JB⟩:=JaZ.1 hj;have:=hm.lt ⟨j,bl,JB,h2⟩;simp at h1;omega
  ·rw[if_neg gP]at h1;rw[if_pos wa]at h2;rw[if_neg (λh=>gP h.symm)]at hi;obtain⟨bl,JB⟩:=JaZ.1 hi;have:=hm.lt ⟨i,bl,JB,h1⟩;simp at h2;omega
  ·rw[if_neg gP]at h1;rw[if_neg wa]at h2;rw[if_neg (λh=>gP h.symm)]at hi;rw[if_neg (λh=>wa h.symm)]at hj;exact hm.inj i j b hi hj h1 h2
 cI b h:=by have:=hm.cI b h;simp only[Cx.ext,Array.size_push];omega
 apart b h hp:=by
  have dx:=hm.cI b hp;exact hm.apart b ((B3 Γ o blk hk).fM b dx h) hp
 xj:=hm.kH (B3 Γ o blk hk)
def B4 (hm:Mem Γ) {k:Nat} {blk:aU} (hk:get Γ.bx k=none) (hr:blk.xe (Γ.lR k blk) none):Mem (Γ.lR k blk) where
 blk i bl h:=by
  by_cases gP:i=k
  ·subst gP;simp only[Cx.lR,cm,sJ]at h;subst h;have:(Γ.lR i blk).ι i=none:=by simp[Cx.lR]
   rw[this];exact hr
  ·simp only[Cx.lR]at h;rw[bG _ _ _ _ (λh=>gP h.symm)]at h;have:=hm.blk i bl h;have e:(Γ.lR k blk).ι i=Γ.ι i:=by simp[Cx.lR,gP]
   rw[e];exact this.mono (u5 Γ blk hk) (λb hb=>rfl)
 inj i j b hi hj h1 h2:=by
  simp only[Cx.lR,dc]at hi hj h1 h2;by_cases gP:i=k
  ·rw[if_pos gP]at h1;simp at h1
  ·by_cases wa:j=k
   ·rw[if_pos wa]at h2;simp at h2
   ·rw[if_neg gP]at h1;rw[if_neg wa]at h2;rw[if_neg (λh=>gP h.symm)]at hi;rw[if_neg (λh=>wa h.symm)]at hj;exact hm.inj i j b hi hj h1 h2
 cI b h:=hm.cI b h
 apart b h hp:=by
  have dx:=hm.cI b hp;exact hm.apart b ((u5 Γ blk hk).fM b dx h) hp
 xj:=hm.kH (u5 Γ blk hk)
def Cx.jK (Γ:Cx) (b:Nat) (o:Obj) (k:Nat) (blk:aU):Cx:=
 {Γ with heap:=Γ.heap.setIfInBounds b o,bx:=put Γ.bx k blk}
theorem ma {k b:Nat} {blk bL:aU} {c c':Array Value} {e:TypeId} (hg:get Γ.bx k=some blk) (hb:Γ.ι k=some b) (hc:Γ.heap[b]? =some (.cells c e (0,0))) (hs:c'.size=c.size) (ht:blk.aD≤bL.aD):
  Le Γ (Γ.jK b (.cells c' e (0,0)) k bL) where
 heap b' tB bY:=by
  have:b≠b':=by intro h;subst h;exact bY ⟨k,blk,hg,hb⟩
  simp only[Cx.jK];rw[Array.getElem?_setIfInBounds_ne this]
 fM b' tB h:=by
  obtain⟨i,bl,hgi,hi⟩:=h;simp only[Cx.jK,dc]at hgi hi;by_cases gP:k=i
  ·subst gP;exact⟨k,blk,hg,hi⟩
  ·rw[if_neg gP]at hgi;exact⟨i,bl,hgi,hi⟩
 cI:=rfl
 size:=by simp[Cx.jK]
 ref i bl h:=by
  have keep:∀b2,Γ.ι i=some b2->∀cs e',Γ.heap[b2]? =some (.cells cs e' (0,0))->∃Fi,(Γ.jK b (.cells c' e (0,0)) k bL).heap[b2]? =some (.cells Fi e' (0,0))∧Fi.size=cs.size:=by
   intro b2 vM cs e' Fj;by_cases hbb:b=b2
   ·subst hbb;rw[hc]at Fj;simp only[sJ,Obj.cells.injEq]at Fj;obtain⟨rfl,rfl,_⟩:=Fj;exact⟨c',by simp only[Cx.jK];rw[uJ (b9 hc)],hs⟩
   ·exact⟨cs,by simp only[Cx.jK];rw[Array.getElem?_setIfInBounds_ne hbb];exact Fj,rfl⟩
  by_cases gP:k=i
  ·subst gP;rw[hg]at h;cases h;exact⟨bL,by simp[Cx.jK,cm],ht,λ_=>⟨rfl,keep⟩⟩
  ·exact⟨bl,by simp only[Cx.jK];rw[bG _ _ _ _ gP];exact h,JaQ _,λ_=>⟨rfl,keep⟩⟩
def oC (hm:Mem Γ) {k b:Nat} {blk bL:aU} {c c':Array Value} {e:TypeId} (hg:get Γ.bx k=some blk) (hb:Γ.ι k=some b) (hc:Γ.heap[b]? =some (.cells c e (0,0))) (hs:c'.size=c.size) (ht:blk.aD≤bL.aD)
  (hr:bL.xe (Γ.jK b (.cells c' e (0,0)) k bL) (some b)):Mem (Γ.jK b (.cells c' e (0,0)) k bL) where
 blk i bl h:=by
  by_cases gP:k=i
  ·subst gP;simp only[Cx.jK,cm,sJ]at h;subst h;have:(Γ.jK b (.cells c' e (0,0)) k bL).ι k=some b:=hb;rw[this];exact hr
  ·simp only[Cx.jK]at h;rw[bG _ _ _ _ gP]at h;have:=hm.blk i bl h
   exact this.mono (ma hg hb hc hs ht) (λb2 vM=>by
    have bY:b≠b2:=by
     intro h';subst h';exact gP (hm.inj k i b (by simp[hg]) (by simp[h]) hb vM)
    simp only[Cx.jK];rw[Array.getElem?_setIfInBounds_ne bY])
 inj i j b2 hi hj h1 h2:=by
  refine hm.inj i j b2 ?_ ?_ h1 h2
  ·simp only[Cx.jK,dc]at hi;split at hi
   ·subst_vars;simp[hg]
   ·exact hi
  ·simp only[Cx.jK,dc]at hj;split at hj
   ·subst_vars;simp[hg]
   ·exact hj
 cI b2 h:=by have:=hm.cI b2 h;simpa[Cx.jK]using this
 apart b2 h hp:=hm.apart b2 ((ma hg hb hc hs ht).fM b2 (hm.cI b2 hp) h) hp
 xj:=hm.kH (ma hg hb hc hs ht)
end Go.Ab
namespace Go.Ab
variable [cM]
variable {P:Program} {nt:Nat} {ds:List Deferred} {s:St} {Γ:Cx} {a:Act} {w:World}
def JL (v:Value):v.oneCell'=ew v:=by cases v<;>rfl
def FE {b o:Nat} {c:Array Value} {e:TypeId} {v:Value} (h:w.heap[b]? =some (.cells c e (0,0))):
  (w.setCell ⟨b,o,none⟩ v).heap=w.heap.setIfInBounds b (.cells (c.setIfInBounds o v) e (0,0)):=by
 have hb:=b9 h;have he:w.heap[b]= .cells c e (0,0):=(Array.getElem?_eq_some_iff.1 h).2;simp only[World.setCell];apply Array.ext
 ·simp
 ·intro i h1 h2;rw[Array.getElem_modify,JlW];split
  ·subst_vars;simp[he]
  ·rfl
def WF.setCell (w:World) (ad:Addr) (v:Value):WF w (w.setCell ad v):=⟨rfl,rfl,rfl⟩
def FF {b o:Nat} {c:Array Value} {e:TypeId} {v:Value} (h:w.heap[b]? =some (.cells c e (0,0))) (ho:o<c.size) (hv:ew v=true):
  (store ⟨b,o,none⟩ v).run P w= .ok () (w.setCell ⟨b,o,none⟩ v):=by
 rw[run_store P w _ v _ (by rw[JL];exact hv)];rw[cell?_eq];simp[cell,h,ho,World.frozen?]
theorem jY:∀(vs:UE) (w:World) (b o i:Nat) (c:Array Value) (e:TypeId),w.heap[b]? =some (.cells c e (0,0))->o+i+vs.length≤c.size->(∀v∈vs,ew v=true)->
  ∃w',(storeCells ⟨b,o,none⟩ vs i).run P w= .ok () w'∧w'.heap=w.heap.setIfInBounds b (.cells (bC c.toList (o+i) vs).toArray e (0,0))∧WF w w'
 |
  [],w,b,o,i,c,e,h,hl,hv=>by
  refine⟨w,rfl,?_,WF.refl w⟩
  have:(bC c.toList (o+i) []).toArray=c:=by simp[bC]
  rw[this]
  have he:w.heap[b]? =some (.cells c e (0,0)):=h
  apply Array.ext
  ·simp
  ·intro j h1 h2
   rw[JlW]
   split
   ·subst_vars;exact(Array.getElem?_eq_some_iff.1 he).2
   ·rfl
 |
  v::vs,w,b,o,i,c,e,h,hl,hv=>by
  simp only[JbZ]at hl
  have hb:=b9 h
  have h1:=FF (P:=P) h (show o+i<c.size by omega) (hv v (by simp))
  have hh:=FE (v:=v) (o:=o+i) h
  have cA:(w.setCell ⟨b,o+i,none⟩ v).heap[b]? =some (.cells (c.setIfInBounds (o+i) v) e (0,0)):=by
   rw[hh,uJ hb]
  obtain⟨w',h2,h3,h4⟩:=jY vs (w.setCell ⟨b,o+i,none⟩ v) b o (i+1) (c.setIfInBounds (o+i) v) e cA (by simp;omega) (λx hx=>hv x (by simp[hx]))
  refine⟨w',?_,?_,(WF.setCell w _ v).trans h4⟩
  ·simp only[storeCells,bJ,iR,h1,rJ]
   exact h2
  ·rw[h3,hh]
   have G1:bC (c.setIfInBounds (o+i) v).toList (o+(i+1)) vs=bC c.toList (o+i) (v::vs):=by
    rw[Array.toList_setIfInBounds];have dx:o+i<c.toList.length:=by simp;omega
    obtain⟨A,x,B,hA,mN⟩:∃A x B,A.length=o+i∧c.toList=A++x::B:=
     ⟨c.toList.take (o+i),c.toList[o+i],c.toList.drop (o+i+1),by rw[lJ];omega,by rw[JoQ,JbV]⟩
    rw[mN,←hA,JhV (h:=JaQ _)];rw[show o+(i+1)=A.length+1 by omega];simp only[Nat.sub_self,JjW,bC,JbZ];have e1:(A++v::B).take (A.length+1)=A++[v]:=by rw[List.take_append,tJ (by omega)];simp
    have e2:(A++v::B).drop (A.length+1+vs.length)=B.drop vs.length:=by
     rw[List.drop_append,List.drop_eq_nil_of_le (by omega),show A.length+1+vs.length-A.length=vs.length+1 by omega];simp
    have e3:(A++x::B).drop (A.length+(vs.length+1))=B.drop vs.length:=by
     rw[←JlX];simp
    rw[e1,e2,e3];simp
   rw[G1]
   simp
def FG {t:TypeId} {b o n:Nat} {c:Array Value} {e:TypeId} {v:Value} (h:w.heap[b]? =some (.cells c e (0,0))) (hn:eK P t=some n) (hs:v.cells.size=n) (ho:o+n≤c.size) (hv:∀x∈v.cells.toList,ew x=true):
  ∃w',(storeVar t ⟨b,o,none⟩ v).run P w= .ok () w'∧w'.heap=w.heap.setIfInBounds b (.cells (bC c.toList o v.cells.toList).toArray e (0,0))∧WF w w':=by
 obtain⟨w',h1,h2,h3⟩:=jY (P:=P) v.cells.toList w b o 0 c e h (by simp;omega) hv;refine⟨w',?_,by simpa using h2,h3⟩;simp only[storeVar,bJ,run_sizeOf hn,rJ];rw[if_neg (by simp[hs])];exact h1
def rF (w:World) (size n:Nat) (v:Value) (cs:UE):Prop:=
 (∃ad rc,v= .slice ad n rc∧(0<n->∃b o,ad=some ⟨b,o,none⟩∧∀i c,cs[i]? =some c->cell w.heap b (o+i)=some c))∨
 (∃str,v= .string str∧n=str.size∧size=1∧cs=str.data.toList.map λb=> .int .u8 b.toNat)
def jZ {size n:Nat} {v:Value} {cs:UE} (h:rF w size n v cs) (hl:cs.length=n*size):(Builtin.firstCells size n v).run P w= .ok cs.toArray w:=by
 rcases h with⟨ad,rc,rfl,h⟩|⟨str,rfl,rfl,rfl,rfl⟩
 ·cases ad with
  |
   none=>
   have:n=0:=by
    rcases JnX n with h0|h0
    ·exact h0
    ·obtain⟨b,o,h1,_⟩:=h h0;simp at h1
   subst this
   have:cs=[]:=JdJ (by simpa using hl)
   subst this;rfl
  |
   some ad=>
   simp only[Builtin.firstCells]
   rw[←hl]
   by_cases h0:0<n
   ·obtain⟨b,o,h1,h2⟩:=h h0
    simp only[sJ]at h1;subst h1
    exact run_loadCells_list w _ cs (λj v hj=>by rw[iR,cell?_eq];exact h2 j v hj)
   ·have:n=0:=by omega
    subst this
    have:cs=[]:=JdJ (by simpa using hl)
    subst this;rfl
 ·simp only[Builtin.firstCells,JcZ];congr 1;apply Array.ext';rw[JlZ];congr 2;have:str.extract 0 str.size=str:=by simp
  rw[this]
def rG {size n:Nat} {v:Value} {cs:UE} (h:rF w size n v cs):(Builtin.lenOf v).run P w= .ok n w:=by
 rcases h with⟨ad,rc,rfl,_⟩|⟨str,rfl,rfl,_⟩<;>rfl
def rH (z:Array Value) (n:Nat):(Builtin.zeroCells z n).size=n*z.size:=by simp[Builtin.zeroCells]
def rI {t u e:TypeId} {d:TypeDesc} {i:TypeInfo} {ty:TypeId} (ht:P.underlying t=some (.slice e)) (hu:P.underlying u=some d) (hd:(∃x,d= .slice x)∨d= .string) (hi:P.info? e=some i)
  {b o sLen sCap n:Nat} {y:Value} {news:UE} {c:Array Value} {ce:TypeId} (hy:rF w i.size n y news) (hl:news.length=n*i.size) (h1:∀v∈news,ew v=true) (we:sLen+n≤sCap)
  (hb:w.heap[b]? =some (.cells c ce (0,0))) (Al:o+sLen*i.size+n*i.size≤c.size):
  ∃
   w',(Builtin.append_ #[t,u] ty #[.slice (some ⟨b,o,none⟩) sLen sCap,y]).run P w= .ok (.slice (some ⟨b,o,none⟩) (sLen+n) sCap) w'∧
   w'.heap=w.heap.setIfInBounds b (.cells (bC c.toList (o+sLen*i.size) news).toArray ce (0,0))∧WF w w':=by
 obtain⟨w',g1,g2,g3⟩:=jY (P:=P) news w b (o+sLen*i.size) 0 c ce hb (by omega) h1;refine⟨w',?_,by simpa using g2,g3⟩;have hf:=jZ (P:=P) hy hl;have hlen:=rG (P:=P) hy;rcases hd with⟨x,rfl⟩|rfl
 ·simp[Builtin.append_,run_underlying ht,run_underlying hu,sizeOf,typeInfo,hi,hlen,we,hf,iR,g1]
 ·simp[Builtin.append_,run_underlying ht,run_underlying hu,sizeOf,typeInfo,hi,hlen,we,hf,iR,g1]
def na {t u e:TypeId} {d:TypeDesc} {i:TypeInfo} {ty:TypeId} (ht:P.underlying t=some (.slice e)) (hu:P.underlying u=some d) (hd:(∃x,d= .slice x)∨d= .string) (hi:P.info? e=some i)
  {ad:Option Addr} {sLen sCap:Nat} {y:Value} (hy:rF w i.size 0 y []) (hle:sLen≤sCap):
  (Builtin.append_ #[t,u] ty #[.slice ad sLen sCap,y]).run P w= .ok (.slice ad sLen sCap) w:=by
 have hf:=jZ (P:=P) hy (by simp);have hlen:=rG (P:=P) hy;rcases hd with⟨x,rfl⟩|rfl
 ·cases ad<;>simp[Builtin.append_,run_underlying ht,run_underlying hu,sizeOf,typeInfo,hi,hlen,hle,hf,storeCells]
 ·cases ad<;>simp[Builtin.append_,run_underlying ht,run_underlying hu,sizeOf,typeInfo,hi,hlen,hle,hf,storeCells]
def yH {t u e:TypeId} {d:TypeDesc} {i:TypeInfo} {z:Value} {ty:TypeId} (ht:P.underlying t=some (.slice e)) (hu:P.underlying u=some d) (hd:(∃x,d= .slice x)∨d= .string) (hi:P.info? e=some i) (hz:i.zero=some z)
  {ad:Option Addr} {sLen sCap n:Nat} {y:Value} {olds news:UE} (hs:rF w i.size sLen (.slice ad sLen sCap) olds) (LC:olds.length=sLen*i.size)
  (hy:rF w i.size n y news) (hl:news.length=n*i.size) (hg:sCap<sLen+n) (h63:sLen+n≤9223372036854775807) (afG:(sLen+n)*i.bytes≤140737488355328):
  ∃
   w' cap,(Builtin.append_ #[t,u] ty #[.slice ad sLen sCap,y]).run P w= .ok (.slice (some ⟨w.heap.size,0,none⟩) (sLen+n) cap) w'∧sLen+n≤cap∧
   w'.heap=w.heap.push (.cells (olds++news++(Builtin.zeroCells z.cells (cap-(sLen+n))).toList).toArray e (0,0))∧WF w w':=by
 have hn:¬(sLen+n≤sCap):=by omega
 have YV:¬(9223372036854775807<((sLen:Int)+(n:Int))):=by omega
 have YW:¬(281474976710656<Builtin.nextslicecap (sLen+n) sCap*i.bytes):=by have:=growslice_fits hg afG;omega
 have Dv:rF w.drew i.size sLen (.slice ad sLen sCap) olds:=hs;have hy':rF w.drew i.size n y news:=hy;have hfo:=jZ (P:=P) Dv LC;have hf:=jZ (P:=P) hy' hl;have hlen:=rG (P:=P) hy;refine⟨w.drew.alloc (.cells (olds++news++(Builtin.zeroCells z.cells (grownCap w (sLen+n) sCap e-(sLen+n))).toList).toArray e),grownCap w (sLen+n) sCap e,?_,grownCap_ge w _ _ _,rfl,⟨rfl,rfl,rfl⟩⟩;rcases hd with⟨x,rfl⟩|rfl
 ·simp[Builtin.append_,run_underlying ht,run_underlying hu,sizeOf,typeInfo,zeroValue,hi,hz,hlen,hn,YV,YW,Question.forced,hf,hfo,newRow,grownCap];congr 2;apply Array.ext';simp
 ·simp[Builtin.append_,run_underlying ht,run_underlying hu,sizeOf,typeInfo,zeroValue,hi,hz,hlen,hn,YV,YW,Question.forced,hf,hfo,newRow,grownCap];congr 2;apply Array.ext';simp
def yI {t u e:TypeId} {kn kv:IntKind} {i:TypeInfo} {z:Value} {ty:TypeId} (ht:P.underlying t=some (.slice e)) (hu:P.underlying u=some (.int kn)) (hi:P.info? e=some i) (hz:i.zero=some z)
  {ad:Option Addr} {sLen sCap n:Nat} {olds:UE} (hs:rF w i.size sLen (.slice ad sLen sCap) olds) (LC:olds.length=sLen*i.size) (h0:0<n) (jh:0<i.size)
  (hg:sCap<sLen+n) (h63:sLen+n≤9223372036854775807) (afG:(sLen+n)*i.bytes≤140737488355328):
  ∃
   w' cap,(Builtin.append_ #[t,u] ty #[.slice ad sLen sCap,.int kv n]).run P w= .ok (.slice (some ⟨w.heap.size,0,none⟩) (sLen+n) cap) w'∧sLen+n≤cap∧
   w'.heap=w.heap.push (.cells (olds++(Builtin.zeroCells z.cells n).toList++(Builtin.zeroCells z.cells (cap-(sLen+n))).toList).toArray e (0,0))∧WF w w':=by
 have hn:¬(sLen+n≤sCap):=by omega
 have YV:¬(9223372036854775807<((sLen:Int)+(n:Int))):=by omega
 have YW:¬(281474976710656<Builtin.nextslicecap (sLen+n) sCap*i.bytes):=by have:=growslice_fits hg afG;omega
 have aBE:¬(281474976710656<(n:Int)*(i.bytes:Int)):=by
  rw[←Int.natCast_mul];have:n*i.bytes≤(sLen+n)*i.bytes:=JeZ _ (by omega);omega
 have hw:IntKind.i64.wrap (n:Int)=n:=by rw[IntKind.wrap_i64];omega
 have T3:¬((n:Int)<0):=by omega
 have hns:¬(n*i.size=0):=Nat.mul_ne_zero (by omega) (by omega);have Dv:rF w.drew i.size sLen (.slice ad sLen sCap) olds:=hs;have hfo:=jZ (P:=P) Dv LC;refine⟨w.drew.alloc (.cells (olds++(Builtin.zeroCells z.cells n).toList++(Builtin.zeroCells z.cells (grownCap w (sLen+n) sCap e-(sLen+n))).toList).toArray e),grownCap w (sLen+n) sCap e,?_,grownCap_ge w _ _ _,rfl,⟨rfl,rfl,rfl⟩⟩;simp[Builtin.append_,run_underlying ht,run_underlying hu,sizeOf,typeInfo,zeroValue,hi,hz,asInt,asIntOf,hw,hn,T3,hns,YV,YW,aBE,Question.forced,hfo,newRow,grownCap];congr 2;apply Array.ext';simp
def Es {t u e:TypeId} {ty:TypeId} {sz:Nat} (ht:P.underlying t=some (.slice e)) (fP:eK P e=some sz)
  {b o dLen dCap n:Nat} {y:Value} {news:UE} {c:Array Value} {ce:TypeId} {ysz:Nat} (hy:rF w sz ysz y news) (hl:news.length=ysz*sz) (hn:n=min ysz dLen) (h1:∀v∈news,ew v=true)
  (hb:w.heap[b]? =some (.cells c ce (0,0))) (Al:o+n*sz≤c.size):
  ∃
   w',(Builtin.copy_ #[t,u] ty #[.slice (some ⟨b,o,none⟩) dLen dCap,y]).run P w= .ok (.int .i64 n) w'∧
   w'.heap=w.heap.setIfInBounds b (.cells (bC c.toList o (news.take (n*sz))).toArray ce (0,0))∧WF w w':=by
 have dx:(news.take (n*sz)).length=n*sz:=by
  rw[lJ,hl];exact JdZ (JeZ _ (by omega))
 obtain⟨w',g1,g2,g3⟩:=jY (P:=P) (news.take (n*sz)) w b o 0 c ce hb (by omega) (λv hv=>h1 v (JaW hv));refine⟨w',?_,by simpa using g2,g3⟩;have hlen:=rG (P:=P) hy
 have hf:(Builtin.firstCells sz n y).run P w= .ok (news.take (n*sz)).toArray w:=by
  rcases hy with⟨ad,rc,rfl,h⟩|⟨str,rfl,h2,rfl,rfl⟩
  ·by_cases h0:0<n
   ·obtain⟨b',o',h3,h4⟩:=h (by omega);subst h3;simp only[Builtin.firstCells]
    have:=run_loadCells_list (P:=P) w ⟨b',o',none⟩ (news.take (n*sz)) (λj v hj=>by
     rw[iR,cell?_eq];rw[List.getElem?_take]at hj;split at hj
     ·exact h4 j v hj
     ·simp at hj)
    rw[dx]at this;exact this
   ·have:n=0:=by omega
    rw[this];cases ad<;>simp[Builtin.firstCells,loadCells,loadCellsFrom]
  ·simp only[Builtin.firstCells,JcZ];congr 1;apply Array.ext';rw[JlZ];simp[ByteArray.data_extract]
 have Hb:Nat.min ysz dLen=n:=hn.symm;simp[Builtin.copy_,run_underlying ht,run_sizeOf fP,hlen,Hb,hf,g1,goInt]
end Go.Ab
namespace Go.Ab
variable [cM]
variable {P:Program} {nt:Nat} {ds:List Deferred} {s:St} {Γ:Cx} {a:Act} {w:World}
def St.put (s:St) (d:Option Nat) (p:PV):St:=
 match d with
 |some d=> {s with env:=Ab.put s.env d p}
 |none=>s
mutual
def wk:PV->PV
 | .sl sz l _=> .sl sz (gI l) false
 | .st w l=> .st w (gI l)
 | .ar z n l=> .ar z n (gI l)
 | .tup l=> .tup (gI l)
 |p=>p
def gI:WG->WG
 |[]=>[]
 |p::l=>wk p::gI l
end
def Zp:aU->PV->PV
 | .arr _ _,v=>wk v
 | .box _,v=>v
 | .map ..,v=>v
def u8 (b:UInt8):PV:= .int .u8 b.toNat
def eO (s:St) (d:Option Nat) (sz bytes:Nat) (p:PV) (ys:WG) (K:UD):Prop:=
 match d with
 |none=>False
 |
  some d=>match p with
  | .sl sz0 l true=>(get s.bx d=none∧(l=[]∨(sz0=sz∧ys≠[]))∧(l.length+ys.length)*bytes≤140737488355328∧l.length+ys.length≤9223372036854775807)∧
    K {env:=put s.env d (.rs d [] 0 (l.length+ys.length) (l.length+ys.length) sz .tip),bx:=put s.bx d (.arr sz (l++ys))}
  |
   .rs k [] 0 len aD bu .tip=>(match get s.bx k with
   |
    some (.arr sz'' l)=>(aD=l.length∧len=l.length∧bu=sz∧sz''=sz∧(l.length+ys.length)*bytes≤140737488355328∧l.length+ys.length≤9223372036854775807)∧
    K {env:=put s.env d (.rs k [] 0 (l.length+ys.length) (l.length+ys.length) sz .tip),bx:=put s.bx k (.arr sz (l++ys))}
   |_=>False)
  |
   .rs k [] 0 len aD bu (.full n)=>(match get s.bx k with
   |
    some (.arr sz'' l)=>(aD=l.length∧bu=sz∧sz''=sz∧len≤n∧n≤l.length∧ys≠[]∧get s.bx d=none∧(len+ys.length)*bytes≤140737488355328∧len+ys.length≤9223372036854775807)∧
    (len+ys.length≤n->K {env:=put s.env d (.rs k [] 0 (len+ys.length) aD sz (.full n)),bx:=put s.bx k (.arr sz (l.take len++ys++l.drop (len+ys.length)))})∧
    (n<len+ys.length->K {env:=put s.env d (.rs d [] 0 (len+ys.length) (len+ys.length) sz .tip),bx:=put s.bx d (.arr sz (l.take len++ys))})
   |_=>False)
  | .rs k p off len aD bu .clip=>content s (.rs k p off len aD bu .clip) λsz'' l=>(get s.bx d=none∧sz''=sz∧ys≠[]∧(l.length+ys.length)*bytes≤140737488355328∧l.length+ys.length≤9223372036854775807)∧
    K {env:=put s.env d (.rs d [] 0 (l.length+ys.length) (l.length+ys.length) sz .tip),bx:=put s.bx d (.arr sz (l++ys))}
  |_=>False
def pA (s:St) (d:Option Nat) (sz bytes:Nat) (z p:PV) (m:Int) (K:UD):Prop:=
 match d with
 |none=>False
 |
  some d=>match p with
  |
   .rs k [] 0 len aD bu (.full n)=>(match get s.bx k with
   |
    some (.arr sz'' l)=>(get s.bx d=none∧aD=l.length∧bu=sz∧sz''=sz∧len≤n∧n≤l.length∧0<m∧n<len+m.toNat∧(len+m.toNat)*bytes≤140737488355328∧len+m.toNat≤9223372036854775807)∧
    K {env:=put s.env d (.rs d [] 0 (len+m.toNat) (len+m.toNat) sz .tip),bx:=put s.bx d (.arr sz (l.take len++List.replicate m.toNat z))}
   |_=>False)
  |_=>False
def src (s:St) (str:Bool) (sz:Nat) (q:PV) (K:WG->Prop):Prop:=
 if str then(match q with| .str bs=>sz=1∧K (bs.map u8)|_=>False)
 else content s q λbu ys=>(ys=[]∨bu=sz)∧K ys
def iE (s:St) (d:Option Nat) (sz:Nat) (p:PV) (ys:WG) (K:UD):Prop:=
 match p with
 |
  .rs k pth off len aD bu _=>(match get s.bx k with
  |some (.arr sz'' l)=>(aD=l.length∧pth=[]∧bu=sz∧sz''=sz∧off+len≤l.length)∧
    K ({s with bx:=put s.bx k (.arr sz (l.take off++ys.take (min ys.length len)++l.drop (off+min ys.length len)))}.put d (.int .i64 (min ys.length len:Nat)))
  |
   some (.box v)=>(match aO v pth with
   |
    some (.ar sz'' n l)=>(match cu v pth (.ar sz'' n (l.take off++ys.take (min ys.length len)++l.drop (off+min ys.length len)))with
    |some v'=>(aD=0∧bu=sz∧sz''=sz∧off+len≤n)∧K ({s with bx:=put s.bx k (.box v')}.put d (.int .i64 (min ys.length len:Nat)))
    |none=>False)
   |_=>False)
  |_=>False)
 |_=>False
def P3 (s:St) (d:Option Nat) (sz:Nat) (z p:PV) (K:UD):Prop:=
 d=none∧match p with
 | .rs k pth off len aD bu c=>iE s none sz (.rs k pth off len aD bu c) (List.replicate len z) K
 |_=>False
def lkp (p:PV):List (PV×PV)->Option PV
 |[]=>none
 |(k,v)::r=>if PV.beq p k=true then some v else lkp p r
def ajp (p v:PV):List (PV×PV)->List (PV×PV)
 |[]=>[(p,v)]
 |(k,w)::r=>if PV.beq p k=true then(p,v)::r else(k,w)::ajp p v r
def ex (s:St) (d:Option Nat):AK->(UD)->Prop
 |
  .alloc z,K=>(match d with
  |some k=>get s.bx k=none∧K {env:=put s.env k (.pt k [] 0),bx:=put s.bx k (.box z)}
  |none=>False)
 |
  .box x,K=>(match d with
  |some k=>vg true s x λp=>(get s.bx k=none∧p.aV=true)∧K {env:=put s.env k (.pt k [] 0),bx:=put s.bx k (.box p)}
  |none=>False)
 |
  .buildSlice own sz z n parts,K=>Bf true s parts λps=>(match cD (List.replicate n z) (ps.map λx=>(x.1,wk x.2))with
  |some l=>if own=true then(match d with
    |some k=>get s.bx k=none∧K {env:=put s.env k (.rs k [] 0 n n sz .tip),bx:=put s.bx k (.arr sz l)}
    |none=>False)else K (s.put d (.sl sz l true))
  |none=>False)
 |
  .makeSlice sz bytes z len cap,K=>vg true s len λp=>mS p λl=>vg true s cap λq=>mS q λc=>
  (match d with
  |some k=>(get s.bx k=none∧0≤l∧l≤c∧c*bytes≤281474976710656∧c≤9223372036854775807)∧
    K {env:=put s.env k (.rs k [] 0 l.toNat l.toNat sz .tip),bx:=put s.bx k (.arr sz (List.replicate l.toNat z))}
  |none=>False)
 |
  .store n x y,K=>vg true s x λp=>vg true s y λv=>(match p with
  |
   .pt k pth aD=>(match get s.bx k with
   |
    some blk=>(match rz blk pth (Zp blk v)with
    |some bL=>(aD=blk.aD∧v.width=n∧v.aV=true)∧K {s with bx:=put s.bx k bL}
    |none=>False)
   |none=>False)
  |_=>False)
 |
  .isNil ng x,K=>vg true s x λp=>(match p with
  | .sl _ l _=>∀b:Bool,(b=true->l=[])->K (s.put d (.bl (b !=ng)))
  | .rs k _ _ len aD _ _=>(match get s.bx k with|some blk=>aD=blk.aD∧∀b:Bool,(b=true->len=0)->K (s.put d (.bl (b !=ng)))|none=>False)
  |_=>False)
 | .append sz bytes str x y,K=>vg true s x λp=>vg true s y λq=>src s str sz q λys=>eO s d sz bytes p ys K
 | .appendZ sz bytes z x y,K=>vg true s x λp=>vg true s y λq=>mS q λm=>pA s d sz bytes z p m K
 |
  .copy sz x y,K=>vg true s x λp=>vg true s y λq=>(match q with
  | .str _=>src s true sz q λys=>iE s d sz p ys K
  |_=>src s false sz q λys=>iE s d sz p ys K)
 | .fill sz z x,K=>vg true s x λp=>P3 s d sz z p K
 |
  .mkMap ks vs,K=>(match d with
  |some k=>get s.bx k=none∧∀b:Nat,K {env:=put s.env k (.mp k b),bx:=put s.bx k (.map b ks vs [])}
  |none=>False)
 |
  .mapGet ks vs z ok m x,K=>vg true s m λpm=>vg true s x λp=>(match pm with
  |
   .mp k b=>(match get s.bx k with
   |some (.map b' ks' vs' l)=>(b'=b∧ks'=ks∧vs'=vs∧fits ks p=true)∧K (s.put d (if ok=true then .tup [(lkp p l).getD z,.bl (lkp p l).isSome]else(lkp p l).getD z))
   |_=>False)
  |_=>False)
 |
  .mapSet ks vs m x y,K=>vg true s m λpm=>vg true s x λp=>vg true s y λv=>(match pm with
  |
   .mp k b=>(match get s.bx k with
   |some (.map b' ks' vs' l)=>(d=none∧b'=b∧ks'=ks∧vs'=vs∧fits ks p=true∧plP v=true)∧K {s with bx:=put s.bx k (.map b' ks' vs' (ajp p v l))}
   |_=>False)
  |_=>False)
 | .convB x,K=>vg true s x λp=>(match p with| .str bs=>K (s.put d (.sl 1 (bs.map u8) false))|_=>False)
 |
  .convL x,K=>vg true s x λp=>(match p with
  |
   .rs k pth off len aD sz c=>(match get s.bx k with
   |some (.arr bu l)=>(pth=[]∧off=0∧sz=1∧bu=1∧c= .tip∧len=l.length∧aD=l.length∧l≠[]∧l.all PV.isNum=true)∧
     K (St.put {s with bx:=put s.bx k (.arr 1 (l++[.int .u8 0]))} d (.sl 1 l false))
   |_=>False)
  |_=>False)
 |_,_=>False
def kS (P:Program) (nt:Nat) (ds:List Deferred) (o:Oper) (a:Act) (w:World) (Γ:Cx) (K:UD):Prop:=
 ∃nx v w' s' Γ',(execOp a.eval o).run P w= .ok nx w'∧(nx= .value v∨nx= .skip∧v=undef)∧fW nt ds s' Γ' (a.put o.dst v)∧w'.heap=Γ'.heap∧Le Γ Γ'∧WF w w'∧K s'
theorem fW.put (hs:fW nt ds s Γ a) {d:Option Nat} (hd:∀k,d=some k->k<nt) {p:PV} {v:Value} (hr:aN Γ p v):fW nt ds (s.put d p) Γ (a.put d v):=by
 cases d with
 |none=>exact hs
 |
  some d=>
  refine⟨hs.bx,by simp[Act.put,hs.size],hs.defers,λk q hk=> ?_,hs.mem⟩
  simp only[St.put,dc]at hk
  have dx:=hd d rfl
  split at hk
  ·rename_i hdk
   simp only[sJ]at hk;subst hk hdk
   simp only[Act.put]
   have:(a.tmps.setIfInBounds d v).getD d undef=v:=by
    rw[JbQ,uJ (by rw[hs.size];exact dx)];rfl
   rw[this];exact hr
  ·rename_i bY
   have:=hs.env k q hk
   simp only[Act.put]
   rw[JbQ,Array.getElem?_setIfInBounds_ne bY,←JbQ]
   exact this
def fW.le (hs:fW nt ds s Γ a) {Γ':Cx} {yJ:List (Nat×aU)} (hle:Le Γ Γ') (hm:Mem Γ') (hb:Γ'.bx=yJ):fW nt ds {s with bx:=yJ} Γ' a:=
 ⟨hb,hs.size,hs.defers,λk p h=>(hs.env k p h).mono hle,hm⟩
def Vi {k:Nat} {b:Nat} {v:PV} (hb:get Γ.bx k=some (.box v)) (hι:Γ.ι k=some b):aN Γ (.pt k [] 0) (.pointer (some ⟨b,0,none⟩)):=
 aN.PM hb rfl hι rfl
def Hq {o:Oper} {k:Nat} {p:PV} {cs:Array Value} {e:TypeId} {K:UD} (hs:fW nt ds s Γ a) (hw:w.heap=Γ.heap) (hk:o.dst=some k) (dx:k<nt) (jl:get s.bx k=none)
  (hr:aC Γ [p] cs.toList) (ia:(execOp a.eval o).run P w= .ok (.value (.pointer (some ⟨w.heap.size,0,none⟩))) (w.alloc (.cells cs e))) (hK:K {env:=put s.env k (.pt k [] 0),bx:=put s.bx k (.box p)}):
  kS P nt ds o a w Γ K:=by
 rw[←hs.bx]at jl;have hle:=B3 Γ (.cells cs e) (k:=k) (.box p) jl;have fQ:Mem (Γ.ext (.cells cs e) k (.box p)):=LQ hs.mem jl ⟨Γ.heap.size,cs,e,rfl,by simp[Cx.ext],hr.mono hle⟩;have h1:=hs.le hle fQ (yJ:=put s.bx k (.box p)) (by simp[Cx.ext,hs.bx])
 have h2:aN (Γ.ext (.cells cs e) k (.box p)) (.pt k [] 0) (.pointer (some ⟨w.heap.size,0,none⟩)):=by
  rw[hw];exact Vi (v:=p) (by simp[Cx.ext,cm]) (by simp[Cx.ext])
 have h3:=h1.put (d:=some k) (λj hj=>by cases hj;exact dx) h2;exact⟨_,_,_,_,_,ia,.inl rfl,by rw[hk];exact h3,by simp[World.alloc,Cx.ext,hw],hle,⟨rfl,rfl,rfl⟩,hK⟩
def pB {o:Oper} {k sz:Nat} {l:WG} {cs rest:UE} {e:TypeId} {cap:Nat} {w':World} {K:UD} (hs:fW nt ds s Γ a) (hw:w.heap=Γ.heap) (hk:o.dst=some k) (dx:k<nt) (jl:get s.bx k=none) (fP:0<sz)
  (hr:aC Γ l cs) (mM:∀x∈l,x.width=sz) (Eh:cap*sz=(cs++rest).length) (Ee:l.length≤cap) (JC:∀v∈rest,ew v=true)
  (ia:(execOp a.eval o).run P w= .ok (.value (.slice (some ⟨w.heap.size,0,none⟩) l.length cap)) w') (uW:w'.heap=w.heap.push (.cells (cs++rest).toArray e (0,0))) (ss:WF w w')
  (hK:K {env:=put s.env k (.rs k [] 0 l.length l.length sz .tip),bx:=put s.bx k (.arr sz l)}):kS P nt ds o a w Γ K:=by
 rw[←hs.bx]at jl;have hle:=B3 Γ (.cells (cs++rest).toArray e (0,0)) (k:=k) (.arr sz l) jl;have hh:(Γ.ext (.cells (cs++rest).toArray e (0,0)) k (.arr sz l)).heap[Γ.heap.size]? =some (.cells (cs++rest).toArray e (0,0)):=by simp[Cx.ext]
 have fQ:Mem (Γ.ext (.cells (cs++rest).toArray e (0,0)) k (.arr sz l)):=LQ hs.mem jl ⟨mM,fP,_,e,cs,rest,hh,rfl,hr.mono hle,JC⟩;have h1:=hs.le hle fQ (yJ:=put s.bx k (.arr sz l)) (by simp[Cx.ext,hs.bx])
 have h2:aN (Γ.ext (.cells (cs++rest).toArray e (0,0)) k (.arr sz l)) (.rs k [] 0 l.length l.length sz .tip) (.slice (some ⟨w.heap.size,0,none⟩) l.length cap):=by
  rw[hw];simp only[aN];refine .rs k [] 0 _ _ sz _ _ (.arr sz l) ⟨by simp[Cx.ext,cm],by simp[aU.aD]⟩ rfl (λ_=>⟨_,_,rfl,?_⟩) .nil;unfold iD;have:(Γ.ext (.cells (cs++rest).toArray e (0,0)) k (.arr sz l)).ι k=some Γ.heap.size:=by simp[Cx.ext]
  rw[this];exact⟨Ee,.inr (by simp[bU]),trivial,λ_=>⟨rfl,_,e,hh,by simpa using Eh⟩⟩
 have h3:=h1.put (d:=some k) (λj hj=>by cases hj;exact dx) h2;exact⟨_,_,_,_,_,ia,.inl rfl,by rw[hk];exact h3,by rw[uW,hw];rfl,hle,ss,hK⟩
def NF {o:Oper} {k sz:Nat} {ad:Option Addr} {K:UD} (hs:fW nt ds s Γ a) (hw:w.heap=Γ.heap) (hk:o.dst=some k) (dx:k<nt) (jl:get s.bx k=none) (fP:0<sz)
  (ia:(execOp a.eval o).run P w= .ok (.value (.slice ad 0 0)) w)
  (hK:K {env:=put s.env k (.rs k [] 0 0 0 sz .tip),bx:=put s.bx k (.arr sz [])}):kS P nt ds o a w Γ K:=by
 rw[←hs.bx]at jl;have hle:=u5 Γ (k:=k) (.arr sz []) jl;have fQ:Mem (Γ.lR k (.arr sz [])):=B4 hs.mem jl ⟨by simp,fP,trivial⟩;have h1:=hs.le hle fQ (yJ:=put s.bx k (.arr sz [])) (by simp[Cx.lR,hs.bx])
 have h2:aN (Γ.lR k (.arr sz [])) (.rs k [] 0 0 0 sz .tip) (.slice ad 0 0):=by
  simp only[aN];refine .rs k [] 0 _ _ sz _ _ (.arr sz []) ⟨by simp[Cx.lR,cm],by simp[aU.aD]⟩ rfl (λ_=>⟨_,_,rfl,?_⟩) .nil;unfold iD;have:(Γ.lR k (.arr sz [])).ι k=none:=by simp[Cx.lR]
  rw[this];exact⟨rfl,rfl,trivial⟩
 have h3:=h1.put (d:=some k) (λj hj=>by cases hj;exact dx) h2;exact⟨_,_,_,_,Γ.lR k (.arr sz []),ia,.inl rfl,by rw[hk];exact h3,hw,hle,WF.refl w,hK⟩
def sA {o:Oper} {p:PV} {v:Value} {w':World} {Γ':Cx} {K:UD} (hs:fW nt ds s Γ a) (hd:∀k,o.dst=some k->k<nt) (hle:Le Γ Γ') (hm:Mem Γ') (hb:Γ'.bx=Γ.bx)
  (ia:(execOp a.eval o).run P w= .ok (.value v) w') (hh:w'.heap=Γ'.heap) (ss:WF w w') (hr:aN Γ' p v) (hK:K (s.put o.dst p)):kS P nt ds o a w Γ K:=by
 have h1:=hs.le hle hm (yJ:=s.bx) (by rw[hb,hs.bx]);exact⟨_,v,w',_,_,ia,.inl rfl,h1.put hd hr,hh,hle,ss,hK⟩
def P4 (p:PV):(wk p).width=p.width:=by cases p<;>simp[wk,PV.width]
def wo (l:WG):(gI l).length=l.length:=by induction l<;>simp[gI, *]
def B5 (l:WG):gI l=l.map wk:=by induction l<;>simp[gI, *]
def Vj {l:WG} {q:PV} (h:q∈gI l):∃p∈l,q=wk p:=by
 rw[B5]at h;obtain⟨p,hp,e⟩:=JcV.1 h;exact⟨p,hp,e.symm⟩
def Et {l:WG} {sz:Nat} (h:∀x∈l,x.width=sz):∀x∈gI l,x.width=sz:=by
 intro x hx;obtain⟨p,hp,rfl⟩:=Vj hx;rw[P4];exact h p hp
theorem aC.gI {l:WG} {cs:UE} (h:aC Γ l cs):aC Γ (gI l) cs:=by
 induction h with
 |nil=>exact .nil
 |un h hr ih=>simp only[Ab.gI,Ab.wk];exact .un h ih
 |bl x hr ih=>simp only[Ab.gI,Ab.wk];exact .bl x ih
 |int k n hr ih=>simp only[Ab.gI,Ab.wk];exact .int k n ih
 |str l s h hr ih=>simp only[Ab.gI,Ab.wk];exact .str l s h ih
 |st w l hl hw hr ihl ih=>simp only[Ab.gI,Ab.wk];exact .st w _ ihl hw ih
 |ar sz n l hl hn hs hr ihl ih=>simp only[Ab.gI,Ab.wk];exact .ar sz n _ ihl (by rw[wo];exact hn) (Et hs) ih
 |
  sl sz l clip a bg hl hw hc hk hb hr ihl ih=>
  simp only[Ab.gI,Ab.wk]
  have:=aC.sl sz (Ab.gI l) false a bg ihl (Et hw) (by rw[wo];exact hc) (by simp) (λbY=>hb (λhe=>bY (by rw[he];rfl))) ih
  rwa [wo]at this
 |rs k p off len aD sz c v blk hg h1 hv hr ih=>simp only[Ab.gI,Ab.wk];exact .rs k p off len aD sz c v blk hg h1 hv ih
 |np hr ih=>simp only[Ab.gI,Ab.wk];exact .np ih
 |pt k p aD v blk hg h1 hv hr ih=>simp only[Ab.gI,Ab.wk];exact .pt k p aD v blk hg h1 hv ih
 |fp sz l p b o hl hw hm hc hr ihl ih=>simp only[Ab.gI,Ab.wk];exact .fp sz l p b o hl hw hm hc ih
 |fn f first cap h1 h2 h3 h4 hr i1 i2 ih=>simp only[Ab.gI,Ab.wk];exact .fn f first cap h1 h2 h3 h4 ih
 |nf hr ih=>simp only[Ab.gI,Ab.wk];exact .nf ih
 |ifc t v h1 h2 hr i1 ih=>simp only[Ab.gI,Ab.wk];exact .ifc t v h1 h2 ih
 |ni hr ih=>simp only[Ab.gI,Ab.wk];exact .ni ih
 |mp k b hr ih=>simp only[Ab.gI,Ab.wk];exact .mp k b ih
def aC.wk {p:PV} {cs:UE} (h:aC Γ [p] cs):aC Γ [wk p] cs:=by
 have:=h.gI;simpa[Ab.gI]using this
def iK.wk {p:PV} {v:Value} (h:iK Γ p v):iK Γ (wk p) v:=by
 cases p
 case st w l=>obtain⟨cs,h1,h2⟩:=h;simp only[Ab.wk];exact⟨cs,h1,by simpa[Ab.wk]using aC.wk h2⟩
 case ar z n l=>obtain⟨cs,h1,h2⟩:=h;simp only[Ab.wk];exact⟨cs,h1,by simpa[Ab.wk]using aC.wk h2⟩
 case sl z l c=>have:=aC.wk (show aC Γ [.sl z l c] [v] from h);simp only[Ab.wk]at this⊢;exact this
 case tup l=>have:=aC.wk (show aC Γ [.tup l] [v] from h);cases h
 all_goals (simp only[Ab.wk];exact h)
theorem jU.gI:∀ {l:WG} {vs:UE},jU Γ l vs->jU Γ (Ab.gI l) vs
 |[],[],_=>trivial
 |[],_::_,h=>by simp[jU]at h
 |_::_,[],h=>by simp[jU]at h
 |p::l,v::vs,h=>by simp only[jU,Ab.gI]at h⊢;exact⟨h.1.wk,jU.gI h.2⟩
def aN.wk {p:PV} {v:Value} (h:aN Γ p v):aN Γ (wk p) v:=by
 cases p
 case st w l=>obtain⟨cs,h1,h2⟩:=h;simp only[Ab.wk];exact⟨cs,h1,by simpa[Ab.wk]using aC.wk h2⟩
 case ar z n l=>obtain⟨cs,h1,h2⟩:=h;simp only[Ab.wk];exact⟨cs,h1,by simpa[Ab.wk]using aC.wk h2⟩
 case sl z l c=>simp only[aN,Ab.wk]at h⊢;simpa[Ab.wk]using aC.wk h
 case tup l=>simp only[aN,Ab.wk]at h⊢;obtain⟨vs,e,h⟩:=h;exact⟨vs,e,h.gI⟩
 all_goals (simp only[Ab.wk];exact h)
def NG {o:Oper} {t:TypeId} {z:PV} {K:UD} (ho:o.op= .alloc t) (hz:zeroOf P t=some z) (hs:fW nt ds s Γ a) (hw:w.heap=Γ.heap) (hd:∀k,o.dst=some k->k<nt) (he:ex s o.dst (.alloc z) K):
  kS P nt ds o a w Γ K:=by
 simp only[ex]at he;split at he
 ·rename_i k hk;obtain⟨v,hv,hr,_,_,_⟩:=lp (Γ:=Γ) hz;refine Hq (cs:=v.cells) (e:=t) hs hw hk (hd k hk) he.1 hr ?_ he.2;simp only[execOp,ho,Instr.alloc,bJ,hv,rJ,newVar,newRow];rfl
 ·exact he.elim
def Vk {o:Oper} {t:TypeId} {x:Operand} {y:AX} {K:UD} (ho:o.op= .box t x) (hx:eH x=some y) (hs:fW nt ds s Γ a) (hw:w.heap=Γ.heap) (hd:∀k,o.dst=some k->k<nt) (he:ex s o.dst (.box y) K):
  kS P nt ds o a w Γ K:=by
 simp only[ex]at he;split at he
 ·rename_i k hk;obtain⟨p,⟨⟨h1,h2⟩,h3⟩,hr⟩:=bR hx hs rfl he;refine Hq (cs:=(a.eval x).cells) (e:=t) hs hw hk (hd k hk) h1 (hr.BW h2) ?_ h3;simp only[execOp,ho,Instr.box,bJ,newVar,newRow];rfl
 ·exact he.elim
theorem iS {z:PV} {cs:UE} (h:aC Γ [z] cs):∀n,aC Γ (List.replicate n z) (List.replicate n cs).flatten
 |0=> .nil
 |n+1=>by rw[List.replicate_succ,List.replicate_succ,List.flatten_cons];exact h.cons (iS h n)
theorem k8 (z:Array Value) (n:Nat):((Array.range (n*z.size)).map (z[·%z.size]!)).toList=(List.replicate n z.toList).flatten:=by
 induction n with
 |zero=>simp
 |
  succ n ih=>
  have e:(n+1)*z.size=n*z.size+z.size:=by rw[JgV];omega
  rw[List.replicate_succ',List.flatten_append,←ih,e]
  simp only[JlZ,Array.toList_range,List.range_add,List.map_append,List.map_map,List.flatten_cons,List.flatten_nil,JdW]
  congr 1
  apply List.ext_getElem?
  intro i
  by_cases hi:i<z.size
  ·simp[hi,JkQ hi,Nat.add_mod,Nat.mul_mod_left]
  ·simp[hi]
end Go.Ab
namespace Go.Ab
variable [cM]
variable {P:Program} {nt:Nat} {ds:List Deferred} {s:St} {Γ:Cx} {a:Act} {w:World}
def B6 {o:Oper} {t e:TypeId} {n sz:Nat} {parts:Array (Nat×Operand)} {ps:List (Nat×AX)} {z:PV} {own:Bool} {K:UD} (ho:o.op= .buildSlice t n parts) (hu:P.underlying t=some (.slice e))
  (hp:oB parts.toList=some ps) (hz:zeroOf P e=some z) (fP:eK P e=some sz) (jh:0<sz) (aIg:n*sz≤2^24)
  (hs:fW nt ds s Γ a) (hw:w.heap=Γ.heap) (hd:∀k,o.dst=some k->k<nt) (he:ex s o.dst (.buildSlice own sz z n ps) K):kS P nt ds o a w Γ K:=by
 simp only[ex]at he;obtain⟨qs,hq,hlen,cU⟩:=Bg hs rfl hp he;obtain⟨zv,U0,hzr,DA,_,hzs⟩:=lp (Γ:=Γ) hz;have YX:z.width=sz:=by rw[fP]at DA;exact(Option.some.inj DA).symm
 split at hq
 ·rename_i l hl;have hzc:zv.cells.size=sz:=by rw[hzs,YX]
  have ar6:aC Γ (List.replicate n z) ((Array.range (n*sz)).map (zv.cells[·%zv.cells.size]!)).toList:=by
   have:=k8 zv.cells n;rw[hzc]at this⊢;rw[this];exact iS hzr n
  have hwr:∀x∈List.replicate n z,x.width=sz:=by intro x hx;rw[(JnV.1 hx).2];exact YX
  obtain⟨cells,h1,h2⟩:=xn (Γ:=Γ) (qs.map λx=>(x.1,wk x.2)) (parts.toList.map λp=>(p.1,a.eval p.2)) (λi=>some (i*sz,sz)) (List.replicate n z) l _ ar6 hl (by simp[hlen])
   (λi j p k u h3 h4=>by
    rw[List.getElem?_map,mJ]at h3 h4;obtain⟨⟨k',x⟩,h5,h6⟩:=h4;obtain⟨⟨j',q⟩,h7,h8⟩:=h3;simp only[Prod.mk.injEq]at h6 h8;obtain⟨rfl,rfl⟩:=h6;obtain⟨rfl,rfl⟩:=h8;have:=cU i j' q k' x h7 h5;exact⟨this.1,this.2.wk⟩)
   (λi q hi=>by
    have hil:=(iJ.1 hi).1;rw[fR hwr (by omega),hwr q (JcX hi)])
  have JD:l.length=n:=by rw[yF.setParts_length hl];simp
  have U1:=yF.setParts_width hl hwr;have Fj:cells.toList.length=n*sz:=by rw[h2.length,bD U1,JD]
  have dx:¬n*sz>2^24:=by omega
  have Nk:Instr.fill (λi=>some (i*sz,sz)) ((Array.range (n*sz)).map ((if n*sz=0 then #[]else zv.cells)[·%(if n*sz=0 then #[]else zv.cells).size]!)) (parts.map λp=>(p.1,a.eval p.2)).toList=some cells:=by
   have e1:(parts.map λp=>(p.1,a.eval p.2)).toList=parts.toList.map λp=>(p.1,a.eval p.2):=by simp
   rw[e1];by_cases h0:n*sz=0
   ·rw[if_pos h0];rw[h0]at h1⊢;have em:∀f:Nat->Value,Array.map f (Array.range 0)= #[]:=λf=>by apply Array.ext';simp
    rw[em]at h1⊢;exact h1
   ·rw[if_neg h0];exact h1
  have hb:(Instr.buildSlice t n (parts.map λp=>(p.1,a.eval p.2))).run P w= .ok (.slice (some ⟨w.heap.size,0,none⟩) n n) (w.alloc (.cells cells e)):=by
   simp only[Instr.buildSlice,bJ,run_underlying hu,rJ,run_sizeOf fP];rw[if_neg dx];by_cases h0:n*sz=0
   ·rw[if_pos h0];rw[if_pos h0]at Nk;simp only[bJ,JcZ,rJ];rw[Nk];rfl
   ·rw[if_neg h0];rw[if_neg h0]at Nk;simp only[bJ,U0,JcZ,rJ];rw[Nk];rfl
  have ia:(execOp a.eval o).run P w= .ok (.value (.slice (some ⟨w.heap.size,0,none⟩) n n)) (w.alloc (.cells cells e)):=by
   have e2:execOp a.eval o=(do Pure.pure (Next.value (←Instr.buildSlice t n (parts.map λp=>(p.1,a.eval p.2))))):=by unfold execOp;rw[ho]
   rw[e2,bJ,hb];rfl
  split at hq
  ·rename_i YS;split at hq
   ·rename_i k hk;refine pB (P:=P) (cs:=cells.toList) (rest:=[]) (e:=e) (cap:=n) (w':=w.alloc (.cells cells e)) hs hw hk (hd k hk) hq.1 jh h2 U1 (by rw[JdW];exact Fj.symm) (by omega) (by simp) (by rw[JD];exact ia) (by rw[JdW];rfl) ⟨rfl,rfl,rfl⟩ (by rw[JD];exact hq.2)
   ·exact hq.elim
  ·refine sA hs hd (xo Γ (.cells cells e)) (mem_push hs.mem _) rfl ia (by show w.heap.push _=Γ.heap.push _;rw[hw]) ⟨rfl,rfl,rfl⟩ ?_ hq;simp only[aN]
   have:=aC.sl (Γ:=Γ.push (.cells cells e)) sz l true (some ⟨w.heap.size,0,none⟩) n (h2.mono (xo Γ _)) U1 (by omega) (λ_=>JD.symm) (λ_=>⟨w.heap.size,0,rfl,by simp[Cx.push,hw],by
    rw[hw];have:=hs.mem.An
    exact this,λi c hc=>by
     have hi:=(iJ.1 hc).1;simp only[cell,Cx.push,hw,JhX,Array.getElem?_push_size];rw[←Array.getElem?_toList];exact hc⟩) .nil
   rw[JD]at this;exact this
 ·exact hq.elim
def DQ {o:Oper} {t e:TypeId} {i:TypeInfo} {ln cp:Operand} {ln' cp':AX} {z:PV} {K:UD} (ho:o.op= .makeSlice t ln cp) (hu:P.underlying t=some (.slice e)) (hl:eH ln=some ln') (hc:eH cp=some cp')
  (hz:zeroOf P e=some z) (hi:P.info? e=some i) (jh:0<i.size)
  (hs:fW nt ds s Γ a) (hw:w.heap=Γ.heap) (hd:∀k,o.dst=some k->k<nt) (he:ex s o.dst (.makeSlice i.size i.bytes z ln' cp') K):kS P nt ds o a w Γ K:=by
 simp only[ex]at he;obtain⟨p,hp,vJ⟩:=bR hl hs rfl he;obtain⟨k1,l,yB,hp⟩:=eN hp vJ;obtain⟨q,hq,od⟩:=bR hc hs rfl hp;obtain⟨k2,c,mQ,hK⟩:=eN hq od;obtain⟨zv,U0,hzr,DA,_,hzs⟩:=lp (Γ:=Γ) hz;have YX:z.width=i.size:=by rw[yG hi]at DA;exact(Option.some.inj DA).symm
 have hzc:zv.cells.size=i.size:=by rw[hzs,YX]
 split at hK
 ·rename_i k hk;obtain⟨⟨h1,h2,h3,h4,h5⟩,hK⟩:=hK
  have Ni:IntKind.i64.wrap l=l:=by
   have e1:(2:Int)^IntKind.i64.bits=18446744073709551616:=by decide
   have e2:(2:Int)^(IntKind.i64.bits-1)=9223372036854775808:=by decide
   simp only[IntKind.wrap,e1,e2];have:l%18446744073709551616=l:=Int.emod_eq_of_lt h2 (by omega);rw[this];rw[if_neg (by simp;intro _;omega)]
  have hwc:IntKind.i64.wrap c=c:=by
   have e1:(2:Int)^IntKind.i64.bits=18446744073709551616:=by decide
   have e2:(2:Int)^(IntKind.i64.bits-1)=9223372036854775808:=by decide
   simp only[IntKind.wrap,e1,e2];have:c%18446744073709551616=c:=Int.emod_eq_of_lt (by omega) (by omega);rw[this];rw[if_neg (by simp;intro _;omega)]
  have mN:((Array.range (c.toNat*i.size)).map (zv.cells[·%zv.cells.size]!)).toList=(List.replicate c.toNat zv.cells.toList).flatten:=by
   have:=k8 zv.cells c.toNat;rw[hzc]at this⊢;exact this
  have G2:(List.replicate c.toNat zv.cells.toList).flatten=(List.replicate l.toNat zv.cells.toList).flatten++(List.replicate (c.toNat-l.toNat) zv.cells.toList).flatten:=by
   rw[←List.flatten_append,List.replicate_append_replicate,show l.toNat+(c.toNat-l.toNat)=c.toNat by omega]
  refine pB (P:=P) (l:=List.replicate l.toNat z) (cs:=(List.replicate l.toNat zv.cells.toList).flatten) (rest:=(List.replicate (c.toNat-l.toNat) zv.cells.toList).flatten) (e:=e) (cap:=c.toNat) (w':=w.alloc (.cells ((Array.range (c.toNat*i.size)).map (zv.cells[·%zv.cells.size]!)) e)) hs hw hk (hd k hk) h1 jh (iS hzr _)
   (by intro x hx;rw[(JnV.1 hx).2];exact YX) ?_ (by simp;omega) (iS hzr _).one ?_ ?_ ⟨rfl,rfl,rfl⟩ (by simpa using hK)
  ·rw[←G2,←mN];simp
  ·simp only[JkX]
   have hb:¬((i.bytes:Int)*c>2^48):=by
    have:(2:Int)^48=281474976710656:=by decide
    rw[this,Int.mul_comm];omega
   have hm:(Instr.makeSlice t (a.eval ln) (a.eval cp)).run P w= .ok (.slice (some ⟨w.heap.size,0,none⟩) l.toNat c.toNat) (w.alloc (.cells ((Array.range (c.toNat*i.size)).map (zv.cells[·%zv.cells.size]!)) e)):=by
    have Dx:((decide (c<0)||decide ((i.bytes:Int)*c>2^48))||decide (l<0)||decide (l>c))=false:=by
     have e1:decide (c<0)=false:=decide_eq_false (by omega);have e2:decide ((i.bytes:Int)*c>2^48)=false:=decide_eq_false hb;have e3:decide (l<0)=false:=decide_eq_false (by omega);have e4:decide (l>c)=false:=decide_eq_false (by omega);rw[e1,e2,e3,e4];rfl
    have fP:=yG hi;have YY:(typeInfo e).run P w= .ok i w:=by simp[typeInfo,hi]
    simp only[Instr.makeSlice,bJ,run_underlying hu,rJ,yB,mQ,asInt,asIntOf,JcZ,YY,Ni,hwc];rw[if_neg (by rw[Dx];simp)];simp only[bJ,run_askRoom,rJ,run_sizeOf fP];by_cases h0:c.toNat*i.size=0
    ·rw[if_pos h0];have em:∀f:Nat->Value,Array.map f (Array.range (c.toNat*i.size))= #[]:=by intro f;rw[h0];apply Array.ext';simp
     simp only[bJ,JcZ,rJ,em];rfl
    ·rw[if_neg h0];simp only[bJ,U0,rJ,JcZ];rfl
   have e2:execOp a.eval o=(do Pure.pure (Next.value (←Instr.makeSlice t (a.eval ln) (a.eval cp)))):=by unfold execOp;rw[ho]
   rw[e2,bJ,hm];rfl
  ·rw[←G2,←mN];rfl
 ·exact hK.elim
theorem P5 (l:Zz):aC Γ (l.map u8) (l.map λb=>Value.int .u8 b.toNat):=by
 induction l with
 |nil=>exact .nil
 |cons b l ih=>exact .int .u8 _ ih
def NH {o:Oper} {t d e:TypeId} {x:Operand} {x':AX} {K:UD} (ho:o.op= .convert t d x) (h1:P.underlying t=some .string) (h2:P.underlying d=some (.slice e)) (h3:P.underlying e=some (.int .u8))
  (hx:eH x=some x') (hs:fW nt ds s Γ a) (hw:w.heap=Γ.heap) (hd:∀k,o.dst=some k->k<nt) (he:ex s o.dst (.convB x') K):kS P nt ds o a w Γ K:=by
 simp only[ex]at he;obtain⟨p,hp,hr⟩:=bR hx hs rfl he;cases p<;>simp only at hp<;>first|exact hp.elim|skip
 rename_i l;simp only[aN]at hr
 obtain⟨bs,hv,hl⟩:∃bs:ByteArray,a.eval x= .string bs∧bs.data.toList=l:=by
  generalize a.eval x=v at hr;cases hr with
  |str l s h _=>exact⟨s,rfl,h⟩
 subst hl;have abP:=run_bytes_of_string (P:=P) w t d e bs h1 h2 h3;generalize hC:bytesRow bs (grownCap w bs.size 0 e)=C at abP
 have ia:(execOp a.eval o).run P w= .ok (.value (.slice (some ⟨w.heap.size,0,none⟩) bs.size (grownCap w bs.size 0 e))) (w.drew.alloc (.cells C e (C.size,C.size+1))):=by
  have e2:execOp a.eval o=(do Pure.pure (Next.value (←convert t d (a.eval x)))):=by unfold execOp;rw[ho]
  rw[e2,bJ,hv,abP];rfl
 refine sA hs hd (xo Γ (.cells C e (C.size,C.size+1))) (mem_push hs.mem _) rfl ia (by show w.heap.push _=Γ.heap.push _;rw[hw]) ⟨rfl,rfl,rfl⟩ ?_ hp;simp only[aN];have fP:(bs.data.toList.map u8).length=bs.size:=by rw[JeW,JbX];rfl
 have:=aC.sl (Γ:=Γ.push (.cells C e (C.size,C.size+1))) 1 (bs.data.toList.map u8) false (some ⟨w.heap.size,0,none⟩) (grownCap w bs.size 0 e) (P5 _) (by
   intro x hx;obtain⟨b,_,rfl⟩:=JcV.1 hx
   rfl) (by rw[fP];have:=grownCap_ge w bs.size 0 e;omega) (by simp) (λ_=>⟨w.heap.size,0,rfl,by simp[Cx.push,hw],by
    rw[hw]
    exact hs.mem.An,λi c hc=>by
     simp only[cell,Cx.push,hw,JhX,Array.getElem?_push_size];rw[←hC];simp only[bytesRow];have hi:=(iJ.1 hc).1;rw[Array.getElem?_append_left (by simpa using hi)];rw[←hc];simp⟩) .nil
 rw[fP]at this;exact this
end Go.Ab
namespace Go.Ab
variable [cM]
variable {P:Program} {nt:Nat} {ds:List Deferred} {s:St} {Γ:Cx} {a:Act} {w:World}
theorem tV (hm:Mem Γ) {k b:Nat} {blk bL:aU} {pth:Zy} {x:PV} {us:UE} (hg:get Γ.bx k=some blk) (hb:Γ.ι k=some b) (hx:aC Γ [x] us) (ky:rz blk pth x=some bL):
  ∃
   c e,Γ.heap[b]? =some (.cells c e (0,0))∧bU pth+us.length≤c.size∧bL.aD=blk.aD∧
   ∀c',c'.toList=bC c.toList (bU pth) us->bL.xe (Γ.jK b (.cells c' e (0,0)) k bL) (some b):=by
 have h:=hm.blk k blk hg;cases blk with
 |
  box v=>
  obtain⟨b',c,e,h1,h2,h3⟩:=h
  rw[hb]at h1;cases h1
  simp only[rz]at ky
  split at ky
  ·rename_i v' hv'
   simp only[sJ]at ky;subst ky
   obtain⟨g1,g2,g3⟩:=BT hx pth h3 hv'
   refine⟨c,e,h2,by simpa using g1,rfl,λc' GY=> ?_⟩
   have fP:c'.size=c.size:=by rw[←JbX,GY,dW g1,JbX]
   refine⟨b,c',e,rfl,by simp only[Cx.jK];rw[uJ (b9 h2)],?_⟩
   rw[GY]
   exact g3.mono (ma (bL:= .box v') hg hb h2 fP (JaQ _))
  ·simp at ky
 |
  arr sz l=>
  obtain⟨h1,h2,h3⟩:=h
  rw[hb]at h3
  obtain⟨c,e,cs,rest,h4,h5,h6,JC⟩:=h3
  cases pth with
  |nil=>simp[rz]at ky
  |cons st r=>
  cases st with
  |f=>simp[rz]at ky
  |
   i j sz''=>
   simp only[rz]at ky
   split at ky
   ·rename_i hs;subst hs
    split at ky
    ·rename_i cj hc
     split at ky
     ·rename_i c2 Eg
      simp only[sJ]at ky;subst ky
      have r3:=h6.at hc
      obtain⟨g4,g5,g6⟩:=BT hx r r3 Eg
      have g7:=r3.gn
      have:=BS h6 hc (by omega) g5 g6
      have hj:=(iJ.1 hc).1
      rw[fR h1 (by omega)]at this
      have hle:bU (Step.i j sz''::r)+us.length≤cs.length:=by simp only[bU];exact this.1
      have T4:c.size=cs.length+rest.length:=by rw[←JbX,h5];simp
      refine⟨c,e,h4,by omega,by simp[aU.aD],λc' GY=> ?_⟩
      have fP:c'.size=c.size:=by rw[←JbX,GY,dW (by simp;omega),JbX]
      have T5:=ma (Γ:=Γ) (bL:= .arr sz'' (l.set j c2)) hg hb h4 fP (by simp[aU.aD])
      refine⟨qM h1 (by rw[g5];exact h1 cj (JcX hc)),h2,c',e,bC cs (bU (Step.i j sz''::r)) us,rest,by simp only[Cx.jK];rw[uJ (b9 h4)],?_,?_,JC⟩
      ·rw[GY,h5];exact splice_append hle
      ·exact(by simpa only[bU]using this.2:aC Γ _ _).mono T5
     ·simp at ky
    ·simp at ky
   ·simp at ky
  |w o n s=>simp[rz]at ky
 |map b0 ks vs l=>simp[rz]at ky
where
 splice_append {cs rest us:UE} {o:Nat} (h:o+us.length≤cs.length):bC (cs++rest) o us=bC cs o us++rest:=by
  simp only[bC];rw[JjV (by omega),JlQ (by omega)];simp
def NI {o:Oper} {t:TypeId} {n:Nat} {x y:Operand} {x' y':AX} {K:UD} (ho:o.op= .store t x y) (hn:eK P t=some n) (hx:eH x=some x') (hy:eH y=some y')
  (hs:fW nt ds s Γ a) (hw:w.heap=Γ.heap) (hd:o.dst=none) (he:ex s o.dst (.store n x' y') K):kS P nt ds o a w Γ K:=by
 simp only[ex]at he;obtain⟨p,hp,vJ⟩:=bR hx hs rfl he;obtain⟨v,hv,od⟩:=bR hy hs rfl hp;split at hv
 ·rename_i k pth aD;split at hv
  ·rename_i blk hg;split at hv
   ·rename_i bL ky;obtain⟨⟨h1,h2,h3⟩,hK⟩:=hv;rw[←hs.bx]at hg;obtain⟨b,hι,hpv⟩:=vJ.pt hg h1;have mN:=od.BW h3
    have YZ:aC Γ [Zp blk v] (a.eval y).cells.toList:=by
     cases blk
     ·exact mN
     ·exact mN.wk
     ·exact mN
    obtain⟨c,e,g1,g2,g3,g4⟩:=tV hs.mem hg hι YZ ky;have hvs:(a.eval y).cells.size=n:=by rw[←h2,←mN.gn];simp
    obtain⟨w',r1,r2,r3⟩:=FG (P:=P) (w:=w) (t:=t) (b:=b) (o:=bU pth) (c:=c) (e:=e) (v:=a.eval y) (by rw[hw];exact g1) hn hvs (by have:=g2;simp at this;omega) (λz hz=>mN.one z hz);have fP:(bC c.toList (bU pth) (a.eval y).cells.toList).toArray.size=c.size:=by simp[dW (show bU pth+(a.eval y).cells.toList.length≤c.toList.length by simpa using g2)]
    have hle:=ma (Γ:=Γ) (bL:=bL) hg hι g1 fP (by omega);have fQ:=oC (Γ:=Γ) (bL:=bL) hs.mem hg hι g1 fP (by omega) (g4 _ (by simp));have h1:=hs.le hle fQ (yJ:=put s.bx k bL) (by simp[Cx.jK,hs.bx]);refine⟨.skip,undef,w',_,_,?_,.inr ⟨rfl,rfl⟩,by rw[hd];exact h1,by rw[r2,hw];rfl,hle,r3,hK⟩;have e2:execOp a.eval o=(do Instr.storeAt t (a.eval x) (a.eval y);Pure.pure Next.skip):=by unfold execOp;rw[ho]
    rw[e2,bJ];simp only[Instr.storeAt,hpv,Instr.sureAddr,bJ,JcZ,rJ,r1]
   ·exact hv.elim
  ·exact hv.elim
 ·exact hv.elim
def FH {str:Bool} {sz:Nat} {q:PV} {v:Value} {K:WG->Prop} (hs:fW nt ds s Γ a) (hw:w.heap=Γ.heap) (h:src s str sz q K) (hr:aN Γ q v):
  ∃ys news,K ys∧rF w sz ys.length v news∧aC Γ ys news∧(∀x∈ys,x.width=sz):=by
 unfold src at h;split at h
 ·split at h
  ·rename_i bs;obtain⟨st,hv,hd⟩:=hr.str;obtain⟨rfl,hK⟩:=h;have hlen:bs.length=st.size:=by rw[←hd];exact JbX
   refine⟨_,_,hK,.inr ⟨st,hv,by simp[hlen],rfl,rfl⟩,?_,?_⟩
   ·rw[hd];clear hK hlen hd hv hr;induction bs with
    |nil=>exact .nil
    |cons b bs ih=>exact .int _ _ ih
   ·intro x hx;obtain⟨b,_,rfl⟩:=JcV.1 hx;rfl
  ·exact h.elim
 ·obtain⟨bu,l,cs,ad,bg,⟨h1,hK⟩,hv,hl,mL,hle,mM⟩:=qn hs h hr;refine⟨l,cs,hK,.inl ⟨ad,bg,hv,λjh=> ?_⟩,hl,λx hx=> ?_⟩
  ·obtain⟨b,o,e1,e2⟩:=mL (by intro h;subst h;simp at jh);exact⟨b,o,e1,by rw[hw];exact e2⟩
  ·rcases h1 with rfl|rfl
   ·simp at hx
   ·exact mM x hx
end Go.Ab
namespace Go.Ab
variable [cM]
variable {P:Program} {nt:Nat} {ds:List Deferred} {s:St} {Γ:Cx} {a:Act} {w:World}
theorem Bh (Γ:Cx) (o:Obj) {k:Nat} {blk bL:aU} (hk:get Γ.bx k=some blk) (ht:blk.aD<bL.aD):Le Γ (Γ.ext o k bL) where
 heap b hb _:=lZ _ _ hb
 fM b hb h:=by
  obtain⟨i,bl,hg,hi⟩:=h;simp only[Cx.ext]at hg hi;by_cases gP:i=k
  ·subst gP;simp at hi;omega
  ·rw[if_neg gP]at hi;rw[bG _ _ _ _ (λh=>gP h.symm)]at hg;exact⟨i,bl,hg,hi⟩
 cI:=rfl
 size:=by simp[Cx.ext]
 ref i bl h:=by
  by_cases gP:i=k
  ·subst gP;rw[hk]at h;cases h;exact⟨bL,by simp[Cx.ext,cm],by omega,λe=>by omega⟩
  ·exact⟨bl,by simp only[Cx.ext];rw[bG _ _ _ _ (λh=>gP h.symm)];exact h,JaQ _,λ_=>⟨by simp[Cx.ext,gP],λb _ cs e hc=>⟨cs,by rw[←hc];exact lZ _ _ (b9 hc),rfl⟩⟩⟩
def P6 (hm:Mem Γ) {o:Obj} {k:Nat} {blk bL:aU} (hk:get Γ.bx k=some blk) (ht:blk.aD<bL.aD) (hr:bL.xe (Γ.ext o k bL) (some Γ.heap.size)):Mem (Γ.ext o k bL) where
 blk i bl h:=by
  by_cases gP:i=k
  ·subst gP;simp only[Cx.ext,cm,sJ]at h;subst h;have:(Γ.ext o i bL).ι i=some Γ.heap.size:=by simp[Cx.ext]
   rw[this];exact hr
  ·simp only[Cx.ext]at h;rw[bG _ _ _ _ (λh=>gP h.symm)]at h;have:=hm.blk i bl h;have e:(Γ.ext o k bL).ι i=Γ.ι i:=by simp[Cx.ext,gP]
   rw[e];exact this.mono (Bh Γ o hk ht) (λb hb=>by rw[hb]at this;exact lZ _ _ this.lt)
 inj i j b hi hj h1 h2:=by
  simp only[Cx.ext,dc]at hi hj h1 h2;by_cases gP:i=k<;>by_cases wa:j=k
  ·rw[gP,wa]
  ·rw[if_pos gP]at h1;rw[if_neg wa]at h2;rw[if_neg (λh=>wa h.symm)]at hj;obtain⟨bl,JB⟩:=JaZ.1 hj;have:=hm.lt ⟨j,bl,JB,h2⟩;simp at h1;omega
  ·rw[if_neg gP]at h1;rw[if_pos wa]at h2;rw[if_neg (λh=>gP h.symm)]at hi;obtain⟨bl,JB⟩:=JaZ.1 hi;have:=hm.lt ⟨i,bl,JB,h1⟩;simp at h2;omega
  ·rw[if_neg gP]at h1;rw[if_neg wa]at h2;rw[if_neg (λh=>gP h.symm)]at hi;rw[if_neg (λh=>wa h.symm)]at hj;exact hm.inj i j b hi hj h1 h2
 cI b h:=by have:=hm.cI b h;simp only[Cx.ext,Array.size_push];omega
 apart b h hp:=by
  have dx:=hm.cI b hp;exact hm.apart b ((Bh Γ o hk ht).fM b dx h) hp
 xj:=hm.kH (Bh Γ o hk ht)
theorem pC {bx:List (Nat×aU)} (h:∀i,get bx i=get Γ.bx i):Le Γ {Γ with bx:=bx} where
 heap _ _ _:=rfl
 fM b _ hm:=by obtain⟨k,blk,hg,hk⟩:=hm;exact⟨k,blk,by rw[←h];exact hg,hk⟩
 cI:=rfl
 size:=JaQ _
 ref k blk hg:=⟨blk,by show get bx k=_;rw[h];exact hg,JaQ _,λ_=>⟨rfl,λ_ _ cs _ hc=>⟨cs,hc,rfl⟩⟩⟩
def B7 (hm:Mem Γ) {bx:List (Nat×aU)} (h:∀i,get bx i=get Γ.bx i):Mem {Γ with bx:=bx} where
 blk k blk hg:=(hm.blk k blk (by rw[←h];exact hg)).mono (pC h) (λ_ _=>rfl)
 inj i j b hi hj h1 h2:=hm.inj i j b (by rw[←h];exact hi) (by rw[←h];exact hj) h1 h2
 cI:=hm.cI
 apart b hb:=hm.apart b ((pC h).fM b (hm.lt (by obtain⟨k,blk,hg,hk⟩:=hb;exact⟨k,blk,by rw[←h];exact hg,hk⟩)) hb)
 xj:=hm.kH (pC h)
def mc {α:Type} {l:List (Nat×α)} {k:Nat} {x:α} (h:get l k=some x):∀i,get (put l k x) i=get l i:=by
 intro i;rw[dc];split
 ·subst_vars;exact h.symm
 ·rfl
def Eu {o:Oper} {k d sz:Nat} {blk:aU} {l:WG} {cs rest:UE} {e:TypeId} {cap:Nat} {w':World} {K:UD} (hs:fW nt ds s Γ a) (hw:w.heap=Γ.heap) (hk:o.dst=some d) (dx:d<nt) (hg:get s.bx k=some blk)
  (ht:blk.aD<l.length) (fP:0<sz) (hr:aC Γ l cs) (mM:∀x∈l,x.width=sz) (Eh:cap*sz=(cs++rest).length) (Ee:l.length≤cap) (JC:∀v∈rest,ew v=true)
  (ia:(execOp a.eval o).run P w= .ok (.value (.slice (some ⟨w.heap.size,0,none⟩) l.length cap)) w') (uW:w'.heap=w.heap.push (.cells (cs++rest).toArray e (0,0))) (ss:WF w w')
  (hK:K {env:=put s.env d (.rs k [] 0 l.length l.length sz .tip),bx:=put s.bx k (.arr sz l)}):kS P nt ds o a w Γ K:=by
 rw[←hs.bx]at hg;have hle:=Bh Γ (.cells (cs++rest).toArray e (0,0)) (k:=k) (bL:= .arr sz l) hg (by simpa[aU.aD]using ht);have hh:(Γ.ext (.cells (cs++rest).toArray e (0,0)) k (.arr sz l)).heap[Γ.heap.size]? =some (.cells (cs++rest).toArray e (0,0)):=by simp[Cx.ext]
 have fQ:Mem (Γ.ext (.cells (cs++rest).toArray e (0,0)) k (.arr sz l)):=P6 hs.mem hg (by simpa[aU.aD]using ht) ⟨mM,fP,_,e,cs,rest,hh,rfl,hr.mono hle,JC⟩;have h1:=hs.le hle fQ (yJ:=put s.bx k (.arr sz l)) (by simp[Cx.ext,hs.bx])
 have h2:aN (Γ.ext (.cells (cs++rest).toArray e (0,0)) k (.arr sz l)) (.rs k [] 0 l.length l.length sz .tip) (.slice (some ⟨w.heap.size,0,none⟩) l.length cap):=by
  rw[hw];simp only[aN];refine .rs k [] 0 _ _ sz _ _ (.arr sz l) ⟨by simp[Cx.ext,cm],by simp[aU.aD]⟩ rfl (λ_=>⟨_,_,rfl,?_⟩) .nil;unfold iD;have:(Γ.ext (.cells (cs++rest).toArray e (0,0)) k (.arr sz l)).ι k=some Γ.heap.size:=by simp[Cx.ext]
  rw[this];exact⟨Ee,.inr (by simp[bU]),trivial,λ_=>⟨rfl,_,e,hh,by simpa using Eh⟩⟩
 have h3:=h1.put (d:=some d) (λj hj=>by cases hj;exact dx) h2;exact⟨_,_,_,_,_,ia,.inl rfl,by rw[hk];exact h3,by rw[uW,hw];rfl,hle,ss,hK⟩
def vN {o:Oper} {b:Builtin} {x y:Operand} {t u:TypeId} {f:Array TypeId->TypeId->Array Value->Sem Value} (ho:o.op= .call {callee:= .builtin b,args:= #[x,y],argTypes:= #[t,u]})
  (hb:∀ {c:Array Bool} {args:Array Value},builtin b #[t,u] o.type c args=(do Pure.pure (Next.value (←f #[t,u] o.type args)))):
  execOp a.eval o=(do Pure.pure (Next.value (←f #[t,u] o.type #[a.eval x,a.eval y]))):=by
 have e1:Array.map a.eval #[x,y]= #[a.eval x,a.eval y]:=by simp
 rw[←e1,←hb (c:=(#[x,y]:Array Operand).map λ| .const _=>true|_=>false)];unfold execOp;rw[ho];rfl
def j1 {o:Oper} {x y:Operand} {t u:TypeId} (ho:o.op= .call {callee:= .builtin .append,args:= #[x,y],argTypes:= #[t,u]}) {r:Value} {w':World}
  (h:(Builtin.append_ #[t,u] o.type #[a.eval x,a.eval y]).run P w= .ok r w'):(execOp a.eval o).run P w= .ok (.value r) w':=by
 have e2:execOp a.eval o=(do Pure.pure (Next.value (←Builtin.append_ #[t,u] o.type #[a.eval x,a.eval y]))):=vN ho rfl;rw[e2,bJ,h];rfl
def aC.Hr {l:WG} {cs:UE} {sz:Nat} (h:aC Γ l cs) (hw:∀x∈l,x.width=sz) (n:Nat) (hn:n≤l.length):aC Γ (l.take n) (cs.take (n*sz)):=by
 have e1:l=l.take n++l.drop n:=by rw[JbV]
 rw[e1]at h;obtain⟨c1,v1,rfl,r1,r2⟩:=h.split;have l1:c1.length=n*sz:=by rw[r1.length,fR hw hn]
 rw[←l1,List.take_left];exact r1
def aC.Zq {l:WG} {cs:UE} {sz:Nat} (h:aC Γ l cs) (hw:∀x∈l,x.width=sz) (n:Nat) (hn:n≤l.length):aC Γ (l.drop n) (cs.drop (n*sz)):=by
 have e1:l=l.take n++l.drop n:=by rw[JbV]
 rw[e1]at h;obtain⟨c1,v1,rfl,r1,r2⟩:=h.split;have l1:c1.length=n*sz:=by rw[r1.length,fR hw hn]
 rw[←l1,List.drop_left];exact r2
def aC.over {l ys:WG} {cs news:UE} {sz:Nat} (h:aC Γ l cs) (hw:∀x∈l,x.width=sz) (hy:aC Γ ys news) (hyw:∀x∈ys,x.width=sz) (off n:Nat) (hn:n≤ys.length) (ho:off+n≤l.length):
  aC Γ (l.take off++ys.take n++l.drop (off+n)) (bC cs (off*sz) (news.take (n*sz))):=by
 have hl:(news.take (n*sz)).length=n*sz:=by
  rw[lJ,hy.length,bD hyw];exact JdZ (JeZ _ hn)
 simp only[bC,hl];rw[show off*sz+n*sz=(off+n)*sz by rw[JgV]];exact((h.Hr hw off (by omega)).append (hy.Hr hyw n hn)).append (h.Zq hw (off+n) ho)
def B8 {cs rest us:UE} {o:Nat} (h:o+us.length≤cs.length):bC (cs++rest) o us=bC cs o us++rest:=by
 simp only[bC];rw[JjV (by omega),JlQ h,JfX,JfX,JfX]
def vO {z:Array Value} (h0:0<z.size) (h:z.toList.all ew=true) {n:Nat}:∀v∈(Builtin.zeroCells z n).toList,ew v=true:=by
 intro v hv;simp only[Builtin.zeroCells,JlZ,JcV]at hv;obtain⟨j,_,rfl⟩:=hv;have dx:j%z.size<z.size:=Nat.mod_lt _ h0;rw[getElem!_pos z _ dx];exact JbJ.1 h _ (by simp)
def B9 {o:Oper} {t u e:TypeId} {d:TypeDesc} {i:TypeInfo} {z:Value} {x y:Operand} {x' y':AX} {str:Bool} {K:UD} (ho:o.op= .call {callee:= .builtin .append,args:= #[x,y],argTypes:= #[t,u]})
  (ht:P.underlying t=some (.slice e)) (hu:P.underlying u=some d) (PC:(∃x,d= .slice x)∨d= .string) (hi:P.info? e=some i) (hz:i.zero=some z) (hzs:z.cells.size=i.size) (jh:0<i.size) (afH:z.cells.toList.all ew=true)
  (hx:eH x=some x') (hy:eH y=some y') (hs:fW nt ds s Γ a) (hw:w.heap=Γ.heap) (hd:∀k,o.dst=some k->k<nt) (he:ex s o.dst (.append i.size i.bytes str x' y') K):kS P nt ds o a w Γ K:=by
 simp only[ex]at he;obtain⟨p,hp,vJ⟩:=bR hx hs rfl he;obtain⟨q,hq,od⟩:=bR hy hs rfl hp;obtain⟨ys,news,hA,Ej,Bc,BM⟩:=FH hs hw hq od;have kZ:news.length=ys.length*i.size:=by rw[Bc.length,bD BM]
 have abQ:=Bc.one;have hz1:∀ {n:Nat},∀v∈(Builtin.zeroCells z.cells n).toList,ew v=true:=vO (by omega) afH
 --a fresh array out of what is there and what comes
 have fresh:∀ {k:Nat} {ad:Option Addr} {l:WG} {cs:UE} {bg:Nat},o.dst=some k->a.eval x= .slice ad l.length bg->bg<l.length+ys.length->aC Γ l cs->(∀x∈l,x.width=i.size)->
   (l≠[]->∃b o,ad=some ⟨b,o,none⟩∧∀i c,cs[i]? =some c->cell Γ.heap b (o+i)=some c)->(l.length+ys.length)*i.bytes≤140737488355328->l.length+ys.length≤9223372036854775807->
   ∃
    w' cap,(execOp a.eval o).run P w= .ok (.value (.slice (some ⟨w.heap.size,0,none⟩) (l++ys).length cap)) w'∧(l++ys).length≤cap∧WF w w'∧
    w'.heap=w.heap.push (.cells ((cs++news)++(Builtin.zeroCells z.cells (cap-(l.length+ys.length))).toList).toArray e (0,0))∧cap*i.size=((cs++news)++(Builtin.zeroCells z.cells (cap-(l.length+ys.length))).toList).length:=by
  intro k ad l cs bg hk hv dx hl mM mL hb h63
  have vL:cs.length=l.length*i.size:=by rw[hl.length,bD mM]
  obtain⟨w',cap,r1,r2,r3,r4⟩:=yH (P:=P) (w:=w) (ty:=o.type) ht hu PC hi hz (ad:=ad) (sLen:=l.length) (sCap:=bg) (n:=ys.length) (y:=a.eval y) (olds:=cs) (news:=news)
   (.inl ⟨ad,bg,rfl,λjh=>by rw[hw];exact mL (by intro h;subst h;simp at jh)⟩) vL Ej kZ dx h63 hb
  refine⟨w',cap,?_,by simpa using r2,r4,by simpa using r3,?_⟩
  ·rw[←hv]at r1
   rw[JaV]
   exact j1 ho r1
  ·simp only[JaV,JbX,rH,hzs,vL,kZ,←JgV]
   congr 1;omega
 unfold eO at hA;split at hA
 ·exact hA.elim
 ·rename_i k hk;split at hA
  ·rename_i sz0 l;obtain⟨⟨h1,h2,h3,h4⟩,hK⟩:=hA;obtain⟨ad,bg,cs,hv,hl,mM,hc,TY,hb⟩:=vJ.sl;have hrc:=TY rfl;subst hrc;by_cases Fl:ys=[]
   ·subst Fl;have Jz:l=[]:=by rcases h2 with h2|h2;exact h2;exact absurd rfl h2.2
    subst Jz;have T6:news=[]:=JdJ (by simpa using kZ);subst T6;have:=na (P:=P) (w:=w) (ty:=o.type) ht hu PC hi (ad:=ad) (sLen:=0) (sCap:=0) Ej (JaQ _);rw[show Value.slice ad 0 0=a.eval x from hv.symm]at this;exact NF (ad:=ad) hs hw hk (hd k hk) h1 jh (by rw[j1 ho this,hv];rfl) hK
   ·have ar7:∀x∈l,x.width=i.size:=by
     rcases h2 with h2|h2
     ·subst h2;simp
     ·rw[←h2.1];exact mM
    have Fm:0<ys.length:=JiV.2 Fl;obtain⟨w',cap,r1,r2,r3,r4,r5⟩:=fresh hk hv (by omega) hl ar7 (λbY=>let⟨b,o,g1,_,_,g4⟩:=hb bY;⟨b,o,g1,g4⟩) h3 h4;exact pB hs hw hk (hd k hk) h1 jh (hl.append Bc) (λx hx=>(JaX.1 hx).elim (ar7 x) (BM x)) r5 r2 hz1 r1 r4 r3 (by rw[JaV];exact hK)
  ·rename_i k2 len aD bu;split at hA
   ·rename_i sz'' l hg;obtain⟨⟨h1,h2,h3,h4,h5,h6⟩,hK⟩:=hA;subst h1 h2 h3 h4;have kQ:=hg;rw[←hs.bx]at kQ;obtain⟨ad,bg,hv,cL⟩:=vJ.rs kQ rfl;obtain⟨mM,_,kP⟩:=hs.mem.blk k2 _ kQ;unfold iD at cL;cases hι:Γ.ι k2 with
    |
     none=>
     rw[hι]at cL
     have Jz:l=[]:=JdJ cL.1
     subst Jz
     obtain⟨_,rfl,_⟩:=cL
     by_cases Fl:ys=[]
     ·subst Fl
      have T6:news=[]:=JdJ (by simpa using kZ)
      subst T6
      have:=na (P:=P) (w:=w) (ty:=o.type) ht hu PC hi (ad:=ad) (sLen:=0) (sCap:=0) Ej (JaQ _)
      rw[show Value.slice ad 0 0=a.eval x from hv.symm]at this
      have kF:=mc kQ
      have q1:=hs.le (pC kF) (B7 hs.mem kF) (yJ:=put s.bx k2 (.arr i.size [])) (by rw[hs.bx])
      have q2:=(vJ.mono (pC kF))
      have q3:=q1.put (d:=some k) (λj hj=>by cases hj;exact hd k hk) q2
      exact⟨_,_,w,_,{Γ with bx:=put Γ.bx k2 (.arr i.size [])},j1 ho this,.inl rfl,by rw[hk];exact q3,hw,pC kF,WF.refl w,hK⟩
     ·have Fm:0<ys.length:=JiV.2 Fl
      obtain⟨w',cap,r1,r2,r3,r4,r5⟩:=fresh (l:=[]) (cs:=[]) hk hv (by simpa using Fm) .nil (by simp) (by simp) (by simpa using h5) (by simpa using h6)
      exact Eu (l:=[]++ys) hs hw hk (hd k hk) hg (by simpa[aU.aD]using Fm) jh (aC.nil.append Bc) (by simpa using BM) r5 r2 hz1 r1 r4 r3 (by rw[JaV];exact hK)
    |
     some b=>
     rw[hι]at cL kP
     obtain⟨o1,o2,_,o4⟩:=cL
     obtain⟨_,JE,e0,q1,q2⟩:=o4 rfl
     obtain⟨c,ce,cs,rest,h7,h8,h9,JC⟩:=kP
     rw[q1]at h7
     simp only[sJ,Obj.cells.injEq]at h7
     obtain⟨rfl,rfl,_⟩:=h7
     have vL:cs.length=l.length*i.size:=by rw[h9.length,bD mM]
     have T4:JE.size=cs.length+rest.length:=by rw[←JbX,h8];simp
     simp only[JhX]at q2
     by_cases we:l.length+ys.length≤bg
     ·by_cases hz0:bg=0
      ·have Jz:l=[]:=JdJ (by omega)
       have hy0:ys=[]:=JdJ (by omega)
       subst Jz hy0 hz0
       have T6:news=[]:=JdJ (by simpa using kZ)
       subst T6
       have:=na (P:=P) (w:=w) (ty:=o.type) ht hu PC hi (ad:=ad) (sLen:=0) (sCap:=0) Ej (JaQ _)
       rw[show Value.slice ad 0 0=a.eval x from hv.symm]at this
       have kF:=mc kQ
       have q1:=hs.le (pC kF) (B7 hs.mem kF) (yJ:=put s.bx k2 (.arr i.size [])) (by rw[hs.bx])
       have q2:=(vJ.mono (pC kF))
       have q3:=q1.put (d:=some k) (λj hj=>by cases hj;exact hd k hk) q2
       exact⟨_,_,w,_,{Γ with bx:=put Γ.bx k2 (.arr i.size [])},j1 ho this,.inl rfl,by rw[hk];exact q3,hw,pC kF,WF.refl w,hK⟩
      ·rcases o2 with o2|rfl
       ·exact absurd o2 hz0
       simp only[bU,Nat.zero_mul,JmZ]at hv
       have Al:0+l.length*i.size+ys.length*i.size≤JE.size:=by
        rw[←q2,JhX,←JgV];exact JeZ _ we
       obtain⟨w',r1,r2,r3⟩:=rI (P:=P) (w:=w) (ty:=o.type) ht hu PC hi (b:=b) (o:=0) (sLen:=l.length) (sCap:=bg) (n:=ys.length) (c:=JE) (ce:=e0) Ej kZ abQ we (by rw[hw];exact q1) Al
       rw[←hv]at r1
       have LD:bC JE.toList (0+l.length*i.size) news=(cs++news)++rest.drop news.length:=by
        rw[h8,JhX,←vL];simp only[bC];rw[List.take_left,←JlX,List.drop_left]
       have Pm:(bC JE.toList (0+l.length*i.size) news).toArray.size=JE.size:=by
        have:=dW (cs:=JE.toList) (us:=news) (o:=0+l.length*i.size) (by rw[kZ];simpa using Al);simpa using this
       have hle:=ma (Γ:=Γ) (bL:= .arr i.size (l++ys)) kQ hι q1 Pm (by simp[aU.aD])
       have Pn:(aU.arr i.size (l++ys)).xe (Γ.jK b (.cells (bC JE.toList (0+l.length*i.size) news).toArray e0 (0,0)) k2 (.arr i.size (l++ys))) (some b):=
        ⟨λx hx=>(JaX.1 hx).elim (mM x) (BM x),jh,_,e0,cs++news,rest.drop news.length,by simp only[Cx.jK];rw[uJ (b9 q1)],by simpa using LD,(h9.append Bc).mono hle,λv hv=>JC v (JbW hv)⟩
       have fQ:=oC (Γ:=Γ) (bL:= .arr i.size (l++ys)) hs.mem kQ hι q1 Pm (by simp[aU.aD]) Pn
       have t1:=hs.le hle fQ (yJ:=put s.bx k2 (.arr i.size (l++ys))) (by simp[Cx.jK,hs.bx])
       have t2:aN (Γ.jK b (.cells (bC JE.toList (0+l.length*i.size) news).toArray e0 (0,0)) k2 (.arr i.size (l++ys))) (.rs k2 [] 0 (l.length+ys.length) (l.length+ys.length) i.size .tip) (.slice (some ⟨b,0,none⟩) (l.length+ys.length) bg):=by
        simp only[aN];refine .rs k2 [] 0 _ _ i.size _ _ (.arr i.size (l++ys)) ⟨by simp[Cx.jK,cm],by simp[aU.aD]⟩ rfl (λ_=>⟨_,_,rfl,?_⟩) .nil;unfold iD;rw[show(Γ.jK b (.cells (bC JE.toList (0+l.length*i.size) news).toArray e0 (0,0)) k2 (.arr i.size (l++ys))).ι k2=some b from hι];refine⟨we,.inr (by simp[bU]),trivial,λ_=>⟨rfl,_,e0,by simp only[Cx.jK];rw[uJ (b9 q1)],by rw[Pm,JhX];exact q2⟩⟩
       have t3:=t1.put (d:=some k) (λj hj=>by cases hj;exact hd k hk) t2
       exact⟨_,_,w',_,_,j1 ho r1,.inl rfl,by rw[hk];exact t3,by rw[r2,hw];rfl,hle,r3,hK⟩
     ·have mL:l≠[]->∃b o,ad=some ⟨b,o,none⟩∧∀i c,cs[i]? =some c->cell Γ.heap b (o+i)=some c:=by
       intro bY;have:=JiV.2 bY;rcases o2 with o2|rfl
       ·omega
       exact⟨b,_,rfl,by simpa[bU]using lE q1 cs rest h8⟩
      obtain⟨w',cap,r1,r2,r3,r4,r5⟩:=fresh hk hv (by omega) h9 mM mL h5 h6;have hy0:0<ys.length:=by omega
      exact Eu (l:=l++ys) hs hw hk (hd k hk) hg (by simp[aU.aD];omega) jh (h9.append Bc) (λx hx=>(JaX.1 hx).elim (mM x) (BM x)) r5 r2 hz1 r1 r4 r3 (by rw[JaV];exact hK)
   ·exact hA.elim
  ·rename_i k2 len aD bu n;split at hA
   ·rename_i sz'' l hg;obtain⟨⟨h1,h2,h3,hln,aBK,Fl,jl,h5,h6⟩,hK1,yu⟩:=hA;subst h1 h2 h3;have kQ:=hg;rw[←hs.bx]at kQ;obtain⟨ad,bg,hv,cL⟩:=vJ.rs kQ rfl;obtain⟨mM,_,kP⟩:=hs.mem.blk k2 _ kQ;have Fm:0<ys.length:=JiV.2 Fl;have hwt:∀x∈l.take len,x.width=i.size:=λx hx=>mM x (JaW hx);have JF:(l.take len).length=len:=by rw[lJ];omega
    unfold iD at cL;cases hι:Γ.ι k2 with
    |
     none=>
     rw[hι]at cL
     obtain⟨rfl,rfl,Jq⟩:=cL
     simp only[oy]at Jq
     subst Jq
     obtain⟨w',cap,r1,r2,r3,r4,r5⟩:=fresh (l:=[]) (cs:=[]) hk hv (by simpa using Fm) .nil (by simp) (by simp) (by simpa using h5) (by simpa using h6)
     exact pB (l:=[]++ys) hs hw hk (hd k hk) jl jh (aC.nil.append Bc) (by simpa using BM) r5 r2 hz1 r1 r4 r3 (by
      have:=yu (by omega);rw[List.take_zero]at this;rw[JaV];simpa using this)
    |
     some b=>
     rw[hι]at cL kP
     obtain⟨o1,o2,Jq,_⟩:=cL
     simp only[oy]at Jq
     subst Jq
     obtain⟨c,ce,cs,rest,h7,h8,h9,JC⟩:=kP
     have vL:cs.length=l.length*i.size:=by rw[h9.length,bD mM]
     have T4:c.size=cs.length+rest.length:=by rw[←JbX,h8];simp
     have h9t:=h9.Hr mM len (by omega)
     by_cases we:len+ys.length≤bg
     ·have hz0:bg≠0:=by omega
      rcases o2 with o2|rfl
      ·exact absurd o2 hz0
      simp only[bU,Nat.zero_mul,JmZ]at hv
      have Al:0+len*i.size+ys.length*i.size≤cs.length:=by
       rw[vL,JhX,←JgV];exact JeZ _ (by omega)
      obtain⟨w',r1,r2,r3⟩:=rI (P:=P) (w:=w) (ty:=o.type) ht hu PC hi (b:=b) (o:=0) (sLen:=len) (sCap:=bg) (n:=ys.length) (c:=c) (ce:=ce) Ej kZ abQ we (by rw[hw];exact h7) (by omega)
      rw[←hv]at r1
      have hov:=h9.over mM Bc BM len ys.length (JaQ _) (by omega)
      rw[JmV]at hov
      have LD:bC c.toList (0+len*i.size) news=bC cs (len*i.size) news++rest:=by
       rw[h8,JhX];exact B8 (by rw[kZ];omega)
      have Pm:(bC c.toList (0+len*i.size) news).toArray.size=c.size:=by
       have:=dW (cs:=c.toList) (us:=news) (o:=0+len*i.size) (by simp only[JbX,kZ];omega);simpa using this
      have afI:(aU.arr i.size l).aD=(aU.arr i.size (l.take len++ys++l.drop (len+ys.length))).aD:=by simp[aU.aD];omega
      have hle:=ma (Γ:=Γ) (bL:= .arr i.size (l.take len++ys++l.drop (len+ys.length))) kQ hι h7 Pm (by omega)
      have aBL:∀x∈l.take len++ys++l.drop (len+ys.length),x.width=i.size:=by
       intro x hx;rcases JaX.1 hx with hx|hx
       ·rcases JaX.1 hx with hx|hx
        ·exact hwt x hx
        ·exact BM x hx
       ·exact mM x (JbW hx)
      rw[show news.take (ys.length*i.size)=news from tJ (by omega)]at hov
      have Pn:(aU.arr i.size (l.take len++ys++l.drop (len+ys.length))).xe (Γ.jK b (.cells (bC c.toList (0+len*i.size) news).toArray ce (0,0)) k2 (.arr i.size (l.take len++ys++l.drop (len+ys.length)))) (some b):=
       ⟨aBL,jh,_,ce,bC cs (len*i.size) news,rest,by simp only[Cx.jK];rw[uJ (b9 h7)],by simpa using LD,hov.mono hle,JC⟩
      have fQ:=oC (Γ:=Γ) (bL:= .arr i.size (l.take len++ys++l.drop (len+ys.length))) hs.mem kQ hι h7 Pm (by omega) Pn
      have t1:=hs.le hle fQ (yJ:=put s.bx k2 (.arr i.size (l.take len++ys++l.drop (len+ys.length)))) (by simp[Cx.jK,hs.bx])
      have t2:aN (Γ.jK b (.cells (bC c.toList (0+len*i.size) news).toArray ce (0,0)) k2 (.arr i.size (l.take len++ys++l.drop (len+ys.length)))) (.rs k2 [] 0 (len+ys.length) l.length i.size (.full bg)) (.slice (some ⟨b,0,none⟩) (len+ys.length) bg):=by
       simp only[aN];refine .rs k2 [] 0 _ _ i.size _ _ (.arr i.size (l.take len++ys++l.drop (len+ys.length))) ⟨by simp[Cx.jK,cm],by rw[←afI];simp[aU.aD]⟩ rfl (λ_=>⟨_,_,rfl,?_⟩) .nil;unfold iD;rw[show(Γ.jK b (.cells (bC c.toList (0+len*i.size) news).toArray ce (0,0)) k2 (.arr i.size (l.take len++ys++l.drop (len+ys.length)))).ι k2=some b from hι];exact⟨we,.inr (by simp[bU]),rfl,λhc=>by cases hc⟩
      have t3:=t1.put (d:=some k) (λj hj=>by cases hj;exact hd k hk) t2
      exact⟨_,_,w',_,_,j1 ho r1,.inl rfl,by rw[hk];exact t3,by rw[r2,hw];rfl,hle,r3,hK1 we⟩
     ·have mL:l.take len≠[]->∃b o,ad=some ⟨b,o,none⟩∧∀j x,(cs.take (len*i.size))[j]? =some x->cell Γ.heap b (o+j)=some x:=by
       intro bY;have:=JiV.2 bY;rcases o2 with o2|rfl
       ·omega
       refine⟨b,_,rfl,λj x hj=> ?_⟩;have hb:=lE h7 cs rest h8
       have Ek:cs[j]? =some x:=by
        rw[List.getElem?_take]at hj;split at hj
        ·exact hj
        ·cases hj
       simpa[bU]using hb j x Ek
      obtain⟨w',cap,r1,r2,r3,r4,r5⟩:=fresh (l:=l.take len) hk (by rw[JF];exact hv) (by rw[JF];omega) h9t hwt mL (by rw[JF];exact h5) (by rw[JF];exact h6);exact pB (l:=l.take len++ys) hs hw hk (hd k hk) jl jh (h9t.append Bc) (λx hx=>(JaX.1 hx).elim (hwt x) (BM x)) r5 r2 hz1 r1 r4 r3 (by rw[JaV,JF];exact yu (by omega))
   ·exact hA.elim
  ·rename_i k2 p off len aD bu;obtain⟨sz'',l,cs,ad,bg,⟨⟨h1,rfl,h3,h4,h5⟩,hK⟩,hv,hl,mL,hle,mM⟩:=qn hs hA vJ
   have hrc:bg=l.length:=by
    have U2:=hA;simp only[content]at U2;split at U2
    ·rename_i hb;rw[←hs.bx]at hb;obtain⟨ad2,ar8,mQ,cL⟩:=vJ.rs hb (by simpa[aU.aD]using U2.1.1);rw[hv]at mQ;simp only[Value.slice.injEq]at mQ;obtain⟨rfl,T5,rfl⟩:=mQ;unfold iD at cL;split at cL
     ·omega
     ·have:=cL.2.2.1.clip rfl;omega
    ·rename_i hb;split at U2
     ·rw[←hs.bx]at hb;obtain⟨ad2,ar8,mQ,cL⟩:=vJ.rs hb (by simpa[aU.aD]using U2.1.1);rw[hv]at mQ;simp only[Value.slice.injEq]at mQ;obtain⟨rfl,T5,rfl⟩:=mQ;unfold iD at cL;split at cL
      ·omega
      ·have:=cL.2.2.1.clip rfl;omega
     ·exact U2.elim
    ·exact U2.elim
   have Fm:0<ys.length:=JiV.2 h3;obtain⟨w',cap,r1,r2,r3,r4,r5⟩:=fresh hk hv (by omega) hl mM mL h4 h5;exact pB hs hw hk (hd k hk) h1 jh (hl.append Bc) (λx hx=>(JaX.1 hx).elim (mM x) (BM x)) r5 r2 hz1 r1 r4 r3 (by rw[JaV];exact hK)
  ·exact hA.elim
end Go.Ab
namespace Go.Ab
variable [cM]
variable {P:Program} {nt:Nat} {ds:List Deferred} {s:St} {Γ:Cx} {a:Act} {w:World}
theorem P7 {o:Oper} {t u e:TypeId} {sz:Nat} {x y:Operand} {x' y':AX} {K:UD} (ho:o.op= .call {callee:= .builtin .copy,args:= #[x,y],argTypes:= #[t,u]})
  (ht:P.underlying t=some (.slice e)) (fP:eK P e=some sz) (hx:eH x=some x') (hy:eH y=some y') (hs:fW nt ds s Γ a) (hw:w.heap=Γ.heap) (hd:∀k,o.dst=some k->k<nt) (he:ex s o.dst (.copy sz x' y') K):kS P nt ds o a w Γ K:=by
 simp only[ex]at he;obtain⟨p,hp,vJ⟩:=bR hx hs rfl he;obtain⟨q,hq,od⟩:=bR hy hs rfl hp
 have hA:∃ys news,iE s o.dst sz p ys K∧rF w sz ys.length (a.eval y) news∧aC Γ ys news∧(∀x∈ys,x.width=sz):=by
  split at hq
  ·exact FH hs hw hq od
  ·exact FH hs hw hq od
 obtain⟨ys,news,hA,Ej,Bc,BM⟩:=hA;have kZ:news.length=ys.length*sz:=by rw[Bc.length,bD BM]
 have DB:∀ {r:Value} {w':World},(Builtin.copy_ #[t,u] o.type #[a.eval x,a.eval y]).run P w= .ok r w'->(execOp a.eval o).run P w= .ok (.value r) w':=by
  intro r w' h;rw[vN ho rfl,bJ,h];rfl
 --nothing copied
 have none:∀ {ad:Option Addr} {len cap:Nat},a.eval x= .slice ad len cap->min ys.length len=0->(execOp a.eval o).run P w= .ok (.value (.int .i64 0)) w:=by
  intro ad len cap hv h0;refine DB ?_;have hlen:=rG (P:=P) Ej
  have hf:(Builtin.firstCells sz 0 (a.eval y)).run P w= .ok #[] w:=by
   rcases Ej with⟨ad2,rc,mQ,h⟩|⟨str,mQ,h2,rfl,rfl⟩
   ·rw[mQ];cases ad2<;>simp[Builtin.firstCells,loadCells,loadCellsFrom]
   ·rw[mQ];simp[Builtin.firstCells]
  have Hb:Nat.min ys.length len=0:=h0;rw[hv];cases ad<;>simp[Builtin.copy_,run_underlying ht,run_sizeOf fP,hlen,Hb,hf,goInt,storeCells]
 unfold iE at hA;split at hA
 ·rename_i k pth off len aD bu ck;split at hA
  ·rename_i sz'' l hg;obtain⟨⟨h1,rfl,rfl,rfl,h4⟩,hK⟩:=hA;have kQ:=hg;rw[←hs.bx]at kQ;obtain⟨ad,bg,hv,cL⟩:=vJ.rs kQ (by simpa[aU.aD]using h1);obtain⟨mM,jh,kP⟩:=hs.mem.blk k _ kQ;by_cases h0:min ys.length len=0
   ·rw[h0]at hK;have kF:∀i,get (put Γ.bx k (.arr sz'' (l.take off++ys.take 0++l.drop (off+0)))) i=get Γ.bx i:=mc (by simpa using kQ);have q1:=hs.le (pC kF) (B7 hs.mem kF) (yJ:=put s.bx k (.arr sz'' (l.take off++ys.take 0++l.drop (off+0)))) (by rw[hs.bx]);have q3:=q1.put (p:= .int .i64 0) (v:= .int .i64 0) hd cH;exact⟨_,_,w,_,_,none hv h0,.inl rfl,q3,hw,pC kF,WF.refl w,hK⟩
   ·unfold iD at cL;cases hι:Γ.ι k with
    |none=>rw[hι]at cL;omega
    |
     some b=>
     rw[hι]at cL kP
     obtain⟨o1,o2,_,_⟩:=cL
     rcases o2 with o2|rfl
     ·omega
     obtain⟨c,ce,cs,rest,h7,h8,h9,JC⟩:=kP
     have vL:cs.length=l.length*sz'':=by rw[h9.length,bD mM]
     have T4:c.size=cs.length+rest.length:=by rw[←JbX,h8];simp
     have Al:off*sz''+(min ys.length len)*sz''≤cs.length:=by
      rw[vL,←JgV];exact JeZ _ (by omega)
     simp only[bU,JhX]at hv
     obtain⟨w',r1,r2,r3⟩:=Es (P:=P) (w:=w) (u:=u) (ty:=o.type) ht fP (b:=b) (o:=off*sz'') (dLen:=len) (dCap:=bg) (n:=min ys.length len) (c:=c) (ce:=ce) Ej kZ rfl Bc.one (by rw[hw];exact h7) (by omega)
     rw[←hv]at r1
     have dx:(news.take (min ys.length len*sz'')).length=min ys.length len*sz'':=by rw[lJ,kZ];exact JdZ (JeZ _ (by omega))
     have LD:bC c.toList (off*sz'') (news.take (min ys.length len*sz''))=bC cs (off*sz'') (news.take (min ys.length len*sz''))++rest:=by
      rw[h8];exact tV.splice_append (by omega)
     have DC:(bC c.toList (off*sz'') (news.take (min ys.length len*sz''))).toArray.size=c.size:=by
      have:=dW (cs:=c.toList) (us:=news.take (min ys.length len*sz'')) (o:=off*sz'') (by simp only[JbX];omega);simpa using this
     have afI:(aU.arr sz'' (l.take off++ys.take (min ys.length len)++l.drop (off+min ys.length len))).aD=(aU.arr sz'' l).aD:=by simp[aU.aD];omega
     have hle:=ma (Γ:=Γ) (bL:= .arr sz'' (l.take off++ys.take (min ys.length len)++l.drop (off+min ys.length len))) kQ hι h7 DC (by omega)
     have fQ:=oC (Γ:=Γ) (bL:= .arr sz'' (l.take off++ys.take (min ys.length len)++l.drop (off+min ys.length len))) hs.mem kQ hι h7 DC (by omega)
      ⟨λx hx=>by
       rcases JaX.1 hx with hx|hx
       ·rcases JaX.1 hx with hx|hx
        ·exact mM x (JaW hx)
        ·exact BM x (JaW hx)
       ·exact mM x (JbW hx),jh,_,ce,_,rest,by simp only[Cx.jK];rw[uJ (b9 h7)],by simpa using LD,
       (h9.over mM Bc BM off (min ys.length len) (by omega) (by omega)).mono hle,JC⟩
     have t1:=hs.le hle fQ (yJ:=put s.bx k (.arr sz'' (l.take off++ys.take (min ys.length len)++l.drop (off+min ys.length len)))) (by simp[Cx.jK,hs.bx])
     have t3:=t1.put (p:= .int .i64 (min ys.length len:Nat)) (v:= .int .i64 (min ys.length len:Nat)) hd cH
     exact⟨_,_,w',_,_,DB r1,.inl rfl,t3,by rw[r2,hw];rfl,hle,r3,hK⟩
  ·rename_i v hg;split at hA
   ·rename_i sz'' n l LB;split at hA
    ·rename_i v' G1;obtain⟨⟨h1,rfl,rfl,h4⟩,hK⟩:=hA;have kQ:=hg;rw[←hs.bx]at kQ;obtain⟨ad,bg,hv,cL⟩:=vJ.rs kQ (by simpa[aU.aD]using h1);unfold iD at cL;obtain⟨b,c,ce,hι,h7,h8⟩:=hs.mem.blk k _ kQ;rw[hι]at cL;obtain⟨o1,o2,_,_⟩:=cL;obtain⟨g1,g2⟩:=rB pth h8 LB;obtain⟨hl,hn,mM⟩:=g2.px;have afJ:PV.width (.ar sz'' n l)=n*sz'':=rfl;rw[afJ]at g1 g2 hl;have T7:=hl.over mM Bc BM off (min ys.length len) (by omega) (by omega);have dx:(news.take (min ys.length len*sz'')).length=min ys.length len*sz'':=by rw[lJ,kZ];exact JdZ (JeZ _ (by omega))
     have Al:off*sz''+(min ys.length len)*sz''≤n*sz'':=by rw[←JgV];exact JeZ _ (by omega)
     have Y0:aC Γ [.ar sz'' n (l.take off++ys.take (min ys.length len)++l.drop (off+min ys.length len))] (bC ((c.toList.drop (bU pth)).take (n*sz'')) (off*sz'') (news.take (min ys.length len*sz''))):=
      T7.Zo (by simp;omega) (λx hx=>by
       rcases JaX.1 hx with hx|hx
       ·rcases JaX.1 hx with hx|hx
        ·exact mM x (JaW hx)
        ·exact BM x (JaW hx)
       ·exact mM x (JbW hx))
     obtain⟨c2,e2,k1,k2,k3,k4⟩:=tV (bL:= .box v') (pth:=pth) hs.mem kQ hι Y0 (by simp only[rz,G1]);rw[h7]at k1;simp only[sJ,Obj.cells.injEq]at k1;obtain⟨rfl,rfl,_⟩:=k1;have T8:=qL (cs:=c.toList) (us:=news.take (min ys.length len*sz'')) (o:=bU pth) (m:=n*sz'') (p:=off*sz'') g1 (by omega);by_cases h0:min ys.length len=0
     ·rw[h0]at hK;have afK:news.take (min ys.length len*sz'')=[]:=by rw[h0];simp
      have oA:(bC c.toList (bU pth) (bC ((c.toList.drop (bU pth)).take (n*sz'')) (off*sz'') (news.take (min ys.length len*sz''))))=c.toList:=by
       rw[T8,afK];simp[bC]
      have hle:=ma (Γ:=Γ) (c':=c) (bL:= .box v') kQ hι h7 rfl (JaQ _);have fQ:=oC (Γ:=Γ) (c':=c) (bL:= .box v') hs.mem kQ hι h7 rfl (JaQ _) (k4 c oA.symm);have t1:=hs.le hle fQ (yJ:=put s.bx k (.box v')) (by simp[Cx.jK,hs.bx]);have t3:=t1.put (p:= .int .i64 0) (v:= .int .i64 0) hd cH;refine⟨_,_,w,_,_,none hv h0,.inl rfl,t3,?_,hle,WF.refl w,hK⟩;simp only[Cx.jK];rw[hw];apply Array.ext_getElem?;intro j;by_cases hj:b=j
      ·subst hj;rw[uJ (b9 h7)];exact h7
      ·rw[Array.getElem?_setIfInBounds_ne hj]
     ·rcases o2 with o2|rfl
      ·omega
      obtain⟨w',r1,r2,r3⟩:=Es (P:=P) (w:=w) (u:=u) (ty:=o.type) ht fP (b:=b) (o:=bU pth+off*sz'') (dLen:=len) (dCap:=bg) (n:=min ys.length len) (c:=c) (ce:=ce) Ej kZ rfl Bc.one (by rw[hw];exact h7) (by simp only[JbX]at g1;omega);rw[←hv]at r1;rw[←T8]at r2
      have DC:(bC c.toList (bU pth) (bC ((c.toList.drop (bU pth)).take (n*sz'')) (off*sz'') (news.take (min ys.length len*sz'')))).toArray.size=c.size:=by
       rw[T8];have:=dW (cs:=c.toList) (us:=news.take (min ys.length len*sz'')) (o:=bU pth+off*sz'') (by simp only[JbX]at g1⊢;omega);simpa using this
      have hle:=ma (Γ:=Γ) (bL:= .box v') kQ hι h7 DC (JaQ _);have fQ:=oC (Γ:=Γ) (bL:= .box v') hs.mem kQ hι h7 DC (JaQ _) (k4 _ (by simp));have t1:=hs.le hle fQ (yJ:=put s.bx k (.box v')) (by simp[Cx.jK,hs.bx]);have t3:=t1.put (p:= .int .i64 (min ys.length len:Nat)) (v:= .int .i64 (min ys.length len:Nat)) hd cH;exact⟨_,_,w',_,_,DB r1,.inl rfl,t3,by rw[r2,hw];rfl,hle,r3,hK⟩
    ·exact hA.elim
   ·exact hA.elim
  ·exact hA.elim
 ·exact hA.elim
def DR {z:PV} {zv:Value} (h:aC Γ [z] zv.cells.toList) (n:Nat):aC Γ (List.replicate n z) (Builtin.zeroCells zv.cells n).toList:=by
 have e:(Builtin.zeroCells zv.cells n).toList=(List.replicate n zv.cells.toList).flatten:=k8 zv.cells n;rw[e];exact iS h n
def Ca {t e:TypeId} {ty:TypeId} {zv:Value} (ht:P.underlying t=some (.slice e)) (U0:∀w,(zeroValue e).run P w= .ok zv w)
  {b o dLen dCap m:Nat} {news:UE} {c:Array Value} {ce:TypeId} (hm:news.take m=news) (h0:0<dLen) (hn:news=(Builtin.zeroCells zv.cells dLen).toList) (h1:∀v∈news,ew v=true)
  (hb:w.heap[b]? =some (.cells c ce (0,0))) (Al:o+news.length≤c.size):
  ∃
   w',(Builtin.clear_ #[t] ty #[.slice (some ⟨b,o,none⟩) dLen dCap]).run P w= .ok (.tuple #[]) w'∧
   w'.heap=w.heap.setIfInBounds b (.cells (bC c.toList o (news.take m)).toArray ce (0,0))∧WF w w':=by
 rw[hm];obtain⟨w',g1,g2,g3⟩:=jY (P:=P) news w b o 0 c ce hb (by omega) h1;refine⟨w',?_,by simpa using g2,g3⟩;obtain⟨m,rfl⟩:∃m,dLen=m+1:=⟨dLen-1,by omega⟩
 rw[hn]at g1;simp[Builtin.clear_,run_underlying ht,U0,g1]
theorem P8 {o:Oper} {t e:TypeId} {sz:Nat} {z:PV} {x:Operand} {x':AX} {K:UD} (ho:o.op= .call {callee:= .builtin .clear,args:= #[x],argTypes:= #[t]})
  (ht:P.underlying t=some (.slice e)) (fP:eK P e=some sz) (hz:zeroOf P e=some z) (hx:eH x=some x') (hs:fW nt ds s Γ a) (hw:w.heap=Γ.heap) (he:ex s o.dst (.fill sz z x') K):kS P nt ds o a w Γ K:=by
 simp only[ex]at he;obtain⟨p,hp,vJ⟩:=bR hx hs rfl he;obtain⟨hdn,hp⟩:=hp;split at hp
 case h_2=>exact hp.elim
 rename_i k pth off len aD bu ck;obtain⟨zv,U0,hzr,DA,_,hzs⟩:=lp (Γ:=Γ) hz;have YX:z.width=sz:=by rw[fP]at DA;exact(Option.some.inj DA).symm
 obtain⟨ys,Fl⟩:∃ys,ys=List.replicate len z:=⟨_,rfl⟩
 obtain⟨news,T9⟩:∃news,news=(Builtin.zeroCells zv.cells len).toList:=⟨_,rfl⟩
 have Bc:aC Γ ys news:=by rw[Fl,T9];exact DR hzr len
 have BM:∀x∈ys,x.width=sz:=by rw[Fl];intro x hx;rw[JhZ hx];exact YX
 have kZ:news.length=ys.length*sz:=by rw[Bc.length,bD BM]
 have Y1:ys.length=len:=by rw[Fl];simp
 have hA:iE s none sz (.rs k pth off len aD bu ck) ys K:=by rw[Fl];exact hp
 have DB:∀ {r:Value} {w':World},(Builtin.clear_ #[t] o.type #[a.eval x]).run P w= .ok r w'->(execOp a.eval o).run P w= .ok (.value r) w':=by
  intro r w' h
  have e1:execOp a.eval o=(do Pure.pure (Next.value (←Builtin.clear_ #[t] o.type #[a.eval x]))):=by
   have e0:Array.map a.eval #[x]= #[a.eval x]:=by simp
   rw[←e0];have hb:builtin .clear #[t] o.type ((#[x]:Array Operand).map λ| .const _=>true|_=>false) (Array.map a.eval #[x])=(do Pure.pure (Next.value (←Builtin.clear_ #[t] o.type (Array.map a.eval #[x])))):=rfl;rw[←hb];unfold execOp;rw[ho];rfl
  rw[e1,bJ,h];rfl
 have none:∀ {ad:Option Addr} {len cap:Nat},a.eval x= .slice ad len cap->len=0->(execOp a.eval o).run P w= .ok (.value (.tuple #[])) w:=by
  intro ad len cap hv h0;refine DB ?_;rw[hv,h0];cases ad<;>simp[Builtin.clear_,run_underlying ht]
 unfold kS;rw[hdn];have hyl:min ys.length len=len:=by rw[Y1,Nat.min_self]
 have Hc:news.take (min ys.length len*sz)=news:=tJ (by rw[kZ,hyl,Y1];exact JaQ _);unfold iE at hA;simp only at hA
 ·skip
  split at hA
  ·rename_i sz'' l hg;obtain⟨⟨h1,rfl,rfl,rfl,h4⟩,hK⟩:=hA;have kQ:=hg;rw[←hs.bx]at kQ;obtain⟨ad,bg,hv,cL⟩:=vJ.rs kQ (by simpa[aU.aD]using h1);obtain⟨mM,jh,kP⟩:=hs.mem.blk k _ kQ;by_cases h0:min ys.length len=0
   ·rw[h0]at hK;have kF:∀i,get (put Γ.bx k (.arr sz'' (l.take off++ys.take 0++l.drop (off+0)))) i=get Γ.bx i:=mc (by simpa using kQ);have q1:=hs.le (pC kF) (B7 hs.mem kF) (yJ:=put s.bx k (.arr sz'' (l.take off++ys.take 0++l.drop (off+0)))) (by rw[hs.bx]);exact⟨_,_,w,_,_,none hv (by omega),.inl rfl,q1,hw,pC kF,WF.refl w,hK⟩
   ·unfold iD at cL;cases hι:Γ.ι k with
    |none=>rw[hι]at cL;omega
    |
     some b=>
     rw[hι]at cL kP
     obtain⟨o1,o2,_,_⟩:=cL
     rcases o2 with o2|rfl
     ·omega
     obtain⟨c,ce,cs,rest,h7,h8,h9,JC⟩:=kP
     have vL:cs.length=l.length*sz'':=by rw[h9.length,bD mM]
     have T4:c.size=cs.length+rest.length:=by rw[←JbX,h8];simp
     have Al:off*sz''+(min ys.length len)*sz''≤cs.length:=by
      rw[vL,←JgV];exact JeZ _ (by omega)
     simp only[bU,JhX]at hv
     obtain⟨w',r1,r2,r3⟩:=Ca (P:=P) (w:=w) (ty:=o.type) ht U0 (b:=b) (o:=off*sz'') (dLen:=len) (dCap:=bg) (m:=min ys.length len*sz'') (c:=c) (ce:=ce) Hc (by omega) T9 Bc.one (by rw[hw];exact h7) (by rw[kZ,Y1];rw[hyl]at Al;omega)
     rw[←hv]at r1
     have dx:(news.take (min ys.length len*sz'')).length=min ys.length len*sz'':=by rw[lJ,kZ];exact JdZ (JeZ _ (by omega))
     have LD:bC c.toList (off*sz'') (news.take (min ys.length len*sz''))=bC cs (off*sz'') (news.take (min ys.length len*sz''))++rest:=by
      rw[h8];exact tV.splice_append (by omega)
     have DC:(bC c.toList (off*sz'') (news.take (min ys.length len*sz''))).toArray.size=c.size:=by
      have:=dW (cs:=c.toList) (us:=news.take (min ys.length len*sz'')) (o:=off*sz'') (by simp only[JbX];omega);simpa using this
     have afI:(aU.arr sz'' (l.take off++ys.take (min ys.length len)++l.drop (off+min ys.length len))).aD=(aU.arr sz'' l).aD:=by simp[aU.aD];omega
     have hle:=ma (Γ:=Γ) (bL:= .arr sz'' (l.take off++ys.take (min ys.length len)++l.drop (off+min ys.length len))) kQ hι h7 DC (by omega)
     have fQ:=oC (Γ:=Γ) (bL:= .arr sz'' (l.take off++ys.take (min ys.length len)++l.drop (off+min ys.length len))) hs.mem kQ hι h7 DC (by omega)
      ⟨λx hx=>by
       rcases JaX.1 hx with hx|hx
       ·rcases JaX.1 hx with hx|hx
        ·exact mM x (JaW hx)
        ·exact BM x (JaW hx)
       ·exact mM x (JbW hx),jh,_,ce,_,rest,by simp only[Cx.jK];rw[uJ (b9 h7)],by simpa using LD,
       (h9.over mM Bc BM off (min ys.length len) (by omega) (by omega)).mono hle,JC⟩
     have t1:=hs.le hle fQ (yJ:=put s.bx k (.arr sz'' (l.take off++ys.take (min ys.length len)++l.drop (off+min ys.length len)))) (by simp[Cx.jK,hs.bx])
     exact⟨_,_,w',_,_,DB r1,.inl rfl,t1,by rw[r2,hw];rfl,hle,r3,hK⟩
  ·rename_i v hg;split at hA
   ·rename_i sz'' n l LB;split at hA
    ·rename_i v' G1;obtain⟨⟨h1,rfl,rfl,h4⟩,hK⟩:=hA;have kQ:=hg;rw[←hs.bx]at kQ;obtain⟨ad,bg,hv,cL⟩:=vJ.rs kQ (by simpa[aU.aD]using h1);unfold iD at cL;obtain⟨b,c,ce,hι,h7,h8⟩:=hs.mem.blk k _ kQ;rw[hι]at cL;obtain⟨o1,o2,_,_⟩:=cL;obtain⟨g1,g2⟩:=rB pth h8 LB;obtain⟨hl,hn,mM⟩:=g2.px;have afJ:PV.width (.ar sz'' n l)=n*sz'':=rfl;rw[afJ]at g1 g2 hl;have T7:=hl.over mM Bc BM off (min ys.length len) (by omega) (by omega);have dx:(news.take (min ys.length len*sz'')).length=min ys.length len*sz'':=by rw[lJ,kZ];exact JdZ (JeZ _ (by omega))
     have Al:off*sz''+(min ys.length len)*sz''≤n*sz'':=by rw[←JgV];exact JeZ _ (by omega)
     have Y0:aC Γ [.ar sz'' n (l.take off++ys.take (min ys.length len)++l.drop (off+min ys.length len))] (bC ((c.toList.drop (bU pth)).take (n*sz'')) (off*sz'') (news.take (min ys.length len*sz''))):=
      T7.Zo (by simp;omega) (λx hx=>by
       rcases JaX.1 hx with hx|hx
       ·rcases JaX.1 hx with hx|hx
        ·exact mM x (JaW hx)
        ·exact BM x (JaW hx)
       ·exact mM x (JbW hx))
     obtain⟨c2,e2,k1,k2,k3,k4⟩:=tV (bL:= .box v') (pth:=pth) hs.mem kQ hι Y0 (by simp only[rz,G1]);rw[h7]at k1;simp only[sJ,Obj.cells.injEq]at k1;obtain⟨rfl,rfl,_⟩:=k1;have T8:=qL (cs:=c.toList) (us:=news.take (min ys.length len*sz'')) (o:=bU pth) (m:=n*sz'') (p:=off*sz'') g1 (by omega);by_cases h0:min ys.length len=0
     ·rw[h0]at hK;have afK:news.take (min ys.length len*sz'')=[]:=by rw[h0];simp
      have oA:(bC c.toList (bU pth) (bC ((c.toList.drop (bU pth)).take (n*sz'')) (off*sz'') (news.take (min ys.length len*sz''))))=c.toList:=by
       rw[T8,afK];simp[bC]
      have hle:=ma (Γ:=Γ) (c':=c) (bL:= .box v') kQ hι h7 rfl (JaQ _);have fQ:=oC (Γ:=Γ) (c':=c) (bL:= .box v') hs.mem kQ hι h7 rfl (JaQ _) (k4 c oA.symm);have t1:=hs.le hle fQ (yJ:=put s.bx k (.box v')) (by simp[Cx.jK,hs.bx]);refine⟨_,_,w,_,_,none hv (by omega),.inl rfl,t1,?_,hle,WF.refl w,hK⟩;simp only[Cx.jK];rw[hw];apply Array.ext_getElem?;intro j;by_cases hj:b=j
      ·subst hj;rw[uJ (b9 h7)];exact h7
      ·rw[Array.getElem?_setIfInBounds_ne hj]
     ·rcases o2 with o2|rfl
      ·omega
      obtain⟨w',r1,r2,r3⟩:=Ca (P:=P) (w:=w) (ty:=o.type) ht U0 (b:=b) (o:=bU pth+off*sz'') (dLen:=len) (dCap:=bg) (m:=min ys.length len*sz'') (c:=c) (ce:=ce) Hc (by omega) T9 Bc.one (by rw[hw];exact h7) (by simp only[JbX]at g1;rw[kZ,Y1];rw[hyl]at Al;omega);rw[←hv]at r1;rw[←T8]at r2
      have DC:(bC c.toList (bU pth) (bC ((c.toList.drop (bU pth)).take (n*sz'')) (off*sz'') (news.take (min ys.length len*sz'')))).toArray.size=c.size:=by
       rw[T8];have:=dW (cs:=c.toList) (us:=news.take (min ys.length len*sz'')) (o:=bU pth+off*sz'') (by simp only[JbX]at g1⊢;omega);simpa using this
      have hle:=ma (Γ:=Γ) (bL:= .box v') kQ hι h7 DC (JaQ _);have fQ:=oC (Γ:=Γ) (bL:= .box v') hs.mem kQ hι h7 DC (JaQ _) (k4 _ (by simp));have t1:=hs.le hle fQ (yJ:=put s.bx k (.box v')) (by simp[Cx.jK,hs.bx]);exact⟨_,_,w',_,_,DB r1,.inl rfl,t1,by rw[r2,hw];rfl,hle,r3,hK⟩
    ·exact hA.elim
   ·exact hA.elim
  ·exact hA.elim
end Go.Ab
namespace Go.Ab
variable [cM]
variable {P:Program} {nt:Nat} {ds:List Deferred} {s:St} {Γ:Cx} {a:Act} {w:World}
def NJ {own ng:Bool} {op:BinOp} {t yt:TypeId} {x y:Operand} {p:AX} (hk:kr P own (.binOp op t x y yt)=some (.isNil ng p)):
  (op= .eql∨op= .neq)∧(∃e,P.underlying t=some (.slice e))∧y= .const (.slice none 0 0)∧ng=decide (op= .neq)∧eH x=some p:=by
 simp only[kr]at hk;split at hk
 ·rename_i q r hx hy;split at hk
  ·rename_i ho;split at hk
   ·simp at hk
   ·simp at hk
   ·simp at hk
   ·simp at hk
   ·simp at hk
   ·rename_i e hu;split at hk
    ·simp only[sJ,AK.isNil.injEq]at hk;exact⟨ho,⟨e,hu⟩,rfl,hk.1.symm,by rw[hx,hk.2]⟩
    ·simp at hk
   ·split at hk
    ·split at hk<;>simp at hk
    ·simp at hk
   ·split at hk
    ·split at hk<;>simp at hk
    ·simp at hk
   ·simp at hk
  ·simp at hk
 ·simp at hk
theorem aN.slnil {sz:Nat} {l:WG} {c:Bool} {v:Value} (h:aN Γ (.sl sz l c) v):∃ad n rc,v= .slice ad n rc∧(ad.isNone=true->l=[]):=by
 simp only[aN]at h;cases h with
 |
  sl _ _ _ ad bg h1 h2 h3 h4 h5 _=>
  refine⟨ad,_,bg,rfl,λhn=> ?_⟩
  by_cases hl:l=[]
  ·exact hl
  ·obtain⟨b,o,e,_⟩:=h5 hl
   rw[e]at hn;simp at hn
theorem aN.ajq {k off len aD sz:Nat} {p:Zy} {c:iO} {v:Value} {blk:aU} (h:aN Γ (.rs k p off len aD sz c) v) (hb:get Γ.bx k=some blk) (ht:aD=blk.aD):∃ad n rc,v= .slice ad n rc∧(ad.isNone=true->len=0):=by
 simp only[aN]at h;cases h with
 |
  rs _ _ _ _ _ _ _ _ bL h1 h2 h3 _=>
  rw[hb]at h1
  obtain⟨h1,_⟩:=h1
  cases h1
  obtain⟨ad,rc,rfl,hr⟩:=h3 ht
  refine⟨ad,_,rc,rfl,λhn=> ?_⟩
  unfold iD at hr
  split at hr
  ·exact hr.1
  ·obtain⟨h4,h5,_⟩:=hr
   rcases h5 with h5|h5
   ·omega
   ·rw[h5]at hn;simp at hn
def JM {t e:TypeId} {ad:Option Addr} {n c:Nat} (h:P.underlying t=some (.slice e)):(Op.equalIn 10000 t (.slice ad n c) (.slice none 0 0)).run P w= .ok ad.isNone w:=by
 have:∀d,(Op.equalIn (d+1) t (.slice ad n c) (.slice none 0 0)).run P w= .ok ad.isNone w:=by
  intro d;cases ad with
  |none=>simp only[Op.equalIn,bJ,run_underlying h,rJ];rfl
  |some ad=>simp only[Op.equalIn,bJ,run_underlying h,rJ];rfl
 exact this 9999
theorem NK {o:Oper} {own ng:Bool} {op:BinOp} {t yt:TypeId} {x y:Operand} {p:AX} {K:UD} (ho:o.op= .binOp op t x y yt) (hk:kr P own (.binOp op t x y yt)=some (.isNil ng p)) (hs:fW nt ds s Γ a) (hw:w.heap=Γ.heap)
  (hd:∀k,o.dst=some k->k<nt) (he:ex s o.dst (.isNil ng p) K):kS P nt ds o a w Γ K:=by
 obtain⟨ox,⟨e,hu⟩,rfl,rfl,hx⟩:=NJ hk;simp only[ex]at he;obtain⟨q,hq,hr⟩:=bR hx hs rfl he
 have fin:∀ {ad:Option Addr} {n c:Nat},a.eval x= .slice ad n c->K (s.put o.dst (.bl (ad.isNone !=decide (op= .neq))))->kS P nt ds o a w Γ K:=by
  intro ad n c hv hK;have ia:=sy (P:=P) (w:=w) (JM (ad:=ad) (n:=n) (c:=c) hu) rfl rfl op ox;refine sA hs hd (Le.refl Γ) hs.mem rfl (v:= .bool (ad.isNone !=decide (op= .neq))) ?_ hw (WF.refl w) ?_ hK
  ·unfold execOp;rw[ho]
   have hg:(eqGuard op t x (.const (.slice none 0 0)) (.slice ad n c) (.slice none 0 0)).run P w= .ok () w:=by
    unfold eqGuard;rcases ox with rfl|rfl<;>rfl
   have e2:a.eval (.const (.slice none 0 0))= .slice none 0 0:=rfl;simp only[hv,e2,bJ,hg,rJ,ia];rcases ox with rfl|rfl<;>cases ad<;>rfl
  ·simp only[aN];exact .bl _ .nil
 split at hq
 ·obtain⟨ad,n,c,hv,hn⟩:=hr.slnil;exact fin hv (hq _ hn)
 ·split at hq
  ·rename_i blk hb;rw[←hs.bx]at hb;obtain⟨ad,n,c,hv,hn⟩:=hr.ajq hb hq.1;exact fin hv (hq.2 _ hn)
  ·exact hq.elim
 ·exact hq.elim
end Go.Ab
namespace Go.Ab
variable [cM]
variable {P:Program} {nt:Nat} {ds:List Deferred} {s:St} {Γ:Cx} {a:Act} {w:World}
mutual
def ae (f:Nat->Bool):PV->Bool
 | .rs k _ _ _ _ _ _=>f k
 | .pt k _ _=>f k
 | .st _ l=>al f l
 | .ar _ _ l=>al f l
 | .tup l=>al f l
 | .sl _ l _=>al f l
 | .fp _ l _=>al f l
 | .fn _ x y=>al f x&&al f y
 | .gd _ p=>ae f p
 | .ifc _ p=>ae f p
 |_=>true
def al (f:Nat->Bool):WG->Bool
 |[]=>true
 |p::l=>ae f p&&al f l
end
mutual
def aI (ρ:Nat->Nat):PV->PV
 | .rs k p o l t z c=> .rs (ρ k) p o l t z c
 | .pt k p t=> .pt (ρ k) p t
 | .st w l=> .st w (bw ρ l)
 | .ar z n l=> .ar z n (bw ρ l)
 | .tup l=> .tup (bw ρ l)
 | .sl z l c=> .sl z (bw ρ l) c
 | .fp z l p=> .fp z (bw ρ l) p
 | .fn f x y=> .fn f (bw ρ x) (bw ρ y)
 | .gd b p=> .gd b (aI ρ p)
 | .ifc t p=> .ifc t (aI ρ p)
 |p=>p
def bw (ρ:Nat->Nat):WG->WG
 |[]=>[]
 |p::l=>aI ρ p::bw ρ l
end
def oU (ρ:Nat->Nat) (p:PV):(aI ρ p).width=p.width:=by cases p<;>simp[aI,PV.width]
def yK (ρ:Nat->Nat) (p:PV):(aI ρ p).isAgg=p.isAgg:=by cases p<;>simp[aI,PV.isAgg]
def lF (ρ:Nat->Nat) (l:WG):(bw ρ l).length=l.length:=by induction l<;>simp[bw, *]
theorem rK {ρ:Nat->Nat} {l:WG} {q:PV} (h:q∈bw ρ l):∃p∈l,q=aI ρ p:=by
 induction l with
 |nil=>simp[bw]at h
 |
  cons x l ih=>
  simp only[bw,cJ]at h
  rcases h with h|h
  ·exact⟨x,by simp,h⟩
  ·obtain⟨p,hp,e⟩:=ih h;exact⟨p,by simp[hp],e⟩
mutual
theorem Cb {ρ:Nat->Nat} {f:Nat->Bool} (h:∀k,f k=true->ρ k=k):∀p,ae f p=true->aI ρ p=p
 | .rs k _ _ _ _ _ _,hp=>by simp only[ae]at hp;simp[aI,h k hp]
 | .pt k _ _,hp=>by simp only[ae]at hp;simp[aI,h k hp]
 | .st _ l,hp=>by simp only[ae]at hp;simp[aI,nN h l hp]
 | .ar _ _ l,hp=>by simp only[ae]at hp;simp[aI,nN h l hp]
 | .tup l,hp=>by simp only[ae]at hp;simp[aI,nN h l hp]
 | .sl _ l _,hp=>by simp only[ae]at hp;simp[aI,nN h l hp]
 | .fp _ l _,hp=>by simp only[ae]at hp;simp[aI,nN h l hp]
 | .fn _ x y,hp=>by simp only[ae,aJ]at hp;simp[aI,nN h x hp.1,nN h y hp.2]
 | .gd _ p,hp=>by simp only[ae]at hp;simp[aI,Cb h p hp]
 | .ifc _ p,hp=>by simp only[ae]at hp;simp[aI,Cb h p hp]
 | .un,_=>by simp[aI]
 | .bl _,_=>by simp[aI]
 | .int _ _,_=>by simp[aI]
 | .str _,_=>by simp[aI]
 | .np,_=>by simp[aI]
 | .nf,_=>by simp[aI]
 | .ni,_=>by simp[aI]
 | .mp ..,_=>by simp[aI]
theorem nN {ρ:Nat->Nat} {f:Nat->Bool} (h:∀k,f k=true->ρ k=k):∀l,al f l=true->bw ρ l=l
 |[],_=>rfl
 |p::l,hp=>by simp only[al,aJ]at hp;simp[bw,Cb h p hp.1,nN h l hp.2]
end
structure tW (f:Nat->Bool) (ρ:Nat->Nat) (Γ Δ:Cx):Prop where
 heap:Δ.heap=Γ.heap
 own:∀b,b<Γ.heap.size->¬Γ.own b->¬Δ.own b
 ref:∀k blk,f k=true->get Γ.bx k=some blk->∃bL,get Δ.bx (ρ k)=some bL∧bL.aD=blk.aD∧Δ.ι (ρ k)=Γ.ι k
def iD.aI {Δ:Cx} {k k' off len sz:Nat} {p:Zy} {c:iO} {ad:Option Addr} {bg:Nat} (h:iD Γ k p off len sz c ad bg) (hι:Δ.ι k'=Γ.ι k) (hh:Δ.heap=Γ.heap):iD Δ k' p off len sz c ad bg:=by
 unfold iD at*;rw[hι,hh];exact h
theorem aC.aI {f:Nat->Bool} {ρ:Nat->Nat} {Δ:Cx} (hs:tW f ρ Γ Δ) {l:WG} {cs:UE} (h:aC Γ l cs):al f l=true->aC Δ (bw ρ l) cs:=by
 induction h with
 |nil=>intro _;exact .nil
 |un h hr ih=>intro hf;simp only[al,aJ]at hf;exact .un h (ih hf.2)
 |bl x hr ih=>intro hf;simp only[al,aJ]at hf;exact .bl x (ih hf.2)
 |int k n hr ih=>intro hf;simp only[al,aJ]at hf;exact .int k n (ih hf.2)
 |str l s h hr ih=>intro hf;simp only[al,aJ]at hf;exact .str l s h (ih hf.2)
 |st w l hl hw hr ihl ih=>intro hf;simp only[al,ae,aJ]at hf;exact .st w _ (ihl hf.1) hw (ih hf.2)
 |
  ar sz n l hl hn hw hr ihl ih=>
  intro hf;simp only[al,ae,aJ]at hf
  refine .ar sz n _ (ihl hf.1) (by rw[lF];exact hn) (λx hx=> ?_) (ih hf.2)
  obtain⟨p,hp,rfl⟩:=rK hx
  rw[oU];exact hw p hp
 |
  sl sz l clip ad bg hl hw hc hk hb hr ihl ih=>
  intro hf;simp only[al,ae,aJ]at hf
  have:=aC.sl (Γ:=Δ) sz (bw ρ l) clip ad bg (ihl hf.1) (λx hx=>by obtain⟨p,hp,rfl⟩:=rK hx;rw[oU];exact hw p hp) (by rw[lF];exact hc) (by rw[lF];exact hk)
   (λbY=>by
    obtain⟨b,o,h1,h2,h3,h4⟩:=hb (by intro h;subst h;simp[bw]at bY);exact⟨b,o,h1,by rw[hs.heap];exact h2,hs.own b h2 h3,by rw[hs.heap];exact h4⟩) (ih hf.2)
  rw[lF]at this
  exact this
 |
  rs k p off len aD sz c v blk hg h1 hv hr ih=>
  intro hf;simp only[al,ae,aJ]at hf
  obtain⟨bL,g1,g2,g3⟩:=hs.ref k blk hf.1 hg.1
  refine .rs (ρ k) p off len aD sz c v bL ⟨g1,by rw[g2];exact hg.2⟩ h1 (λht=> ?_) (ih hf.2)
  obtain⟨ad,bg,e1,e2⟩:=hv (by rw[ht,g2])
  exact⟨ad,bg,e1,e2.aI g3 hs.heap⟩
 |np hr ih=>intro hf;simp only[al,aJ]at hf;exact .np (ih hf.2)
 |
  pt k p aD v blk hg h1 hv hr ih=>
  intro hf;simp only[al,ae,aJ]at hf
  obtain⟨bL,g1,g2,g3⟩:=hs.ref k blk hf.1 hg.1
  refine .pt (ρ k) p aD v bL ⟨g1,by rw[g2];exact hg.2⟩ h1 (λht=> ?_) (ih hf.2)
  obtain⟨b,e1,e2⟩:=hv (by rw[ht,g2])
  exact⟨b,by rw[g3,e1],e2⟩
 |
  fp sz l p b o hl hw hm hc hr ihl ih=>
  intro hf;simp only[al,ae,aJ]at hf
  exact .fp sz _ p b o (ihl hf.1) (λx hx=>by obtain⟨p,hp,rfl⟩:=rK hx;rw[oU];exact hw p hp) ⟨by rw[hs.heap];exact hm.1,hs.own b hm.1 hm.2⟩ (by rw[hs.heap];exact hc) (ih hf.2)
 |
  fn g first cap h1 h2 h3 h4 hr i1 i2 ih=>
  intro hf;simp only[al,ae,aJ]at hf
  exact .fn g _ _ (i1 hf.1.1) (i2 hf.1.2) (λx hx=>by obtain⟨p,hp,rfl⟩:=rK hx;rw[yK];exact h3 p hp) (λx hx=>by obtain⟨p,hp,rfl⟩:=rK hx;rw[yK];exact h4 p hp) (ih hf.2)
 |nf hr ih=>intro hf;simp only[al,aJ]at hf;exact .nf (ih hf.2)
 |
  ifc t v h1 h2 hr i1 ih=>
  intro hf;simp only[al,ae,aJ]at hf
  have:=i1 (by simp[al,hf.1])
  simp only[bw]at this
  exact .ifc t _ this (by rw[yK];exact h2) (ih hf.2)
 |ni hr ih=>intro hf;simp only[al,aJ]at hf;exact .ni (ih hf.2)
 |mp k b hr ih=>intro hf;simp only[al,aJ]at hf;exact .mp k b (ih hf.2)
def aC.bV {f:Nat->Bool} {ρ:Nat->Nat} {Δ:Cx} (hs:tW f ρ Γ Δ) {p:PV} {cs:UE} (h:aC Γ [p] cs) (hf:ae f p=true):aC Δ [Ab.aI ρ p] cs:=by
 have:=h.aI hs (by simp[al,hf]);simpa only[bw]using this
def iK.aI {f:Nat->Bool} {ρ:Nat->Nat} {Δ:Cx} (hs:tW f ρ Γ Δ) {p:PV} {v:Value} (h:iK Γ p v) (hf:ae f p=true):iK Δ (Ab.aI ρ p) v:=by
 cases p
 case un=>trivial
 case st w l=>obtain⟨cs,h1,h2⟩:=h;exact⟨cs,h1,h2.bV hs hf⟩
 case ar sz n l=>obtain⟨cs,h1,h2⟩:=h;exact⟨cs,h1,h2.bV hs hf⟩
 all_goals exact aC.bV hs h hf
theorem aN.aI {f:Nat->Bool} {ρ:Nat->Nat} {Δ:Cx} (hs:tW f ρ Γ Δ):∀ {p:PV} {v:Value},aN Γ p v->ae f p=true->aN Δ (Ab.aI ρ p) v:=by
 have h2:∀ {l:WG} {vs:UE},jU Γ l vs->al f l=true->jU Δ (bw ρ l) vs:=by
  intro l;induction l with
  |nil=>intro vs h hf;cases vs<;>simp_all [jU,bw]
  |
   cons p l ih=>
   intro vs h hf
   simp only[al,aJ]at hf
   cases vs with
   |nil=>simp[jU]at h
   |cons v vs=>simp only[jU,bw]at h⊢;exact⟨h.1.aI hs hf.1,ih h.2 hf.2⟩
 intro p;induction p using PV.rec (motive_2:=λ_=>True)with
 |gd b p ih=>intro v h hf;simp only[Ab.aI,ae]at hf⊢;rw[aN]at h⊢;exact⟨λhb=>ih (h.1 hb) hf,h.2⟩
 |tup l=>intro v h hf;simp only[aN,Ab.aI,ae]at h hf⊢;obtain⟨vs,e,h⟩:=h;exact⟨vs,e,h2 h hf⟩
 |un=>intro v h hf;simp[aN,Ab.aI]
 |st w l=>intro v h hf;obtain⟨cs,e,h⟩:=h;exact⟨cs,e,h.bV hs hf⟩
 |ar sz n l=>intro v h hf;obtain⟨cs,e,h⟩:=h;exact⟨cs,e,h.bV hs hf⟩
 |nil=>trivial
 |cons=>trivial
 |_=>intro v h hf;exact aC.bV hs h hf
def aG (ρ:Nat->Nat):aU->aU
 | .box v=> .box (Ab.aI ρ v)
 | .arr sz l=> .arr sz (bw ρ l)
 | .map b ks vs l=> .map b ks vs l
def af (f:Nat->Bool):aU->Bool
 | .box v=>ae f v
 | .arr _ l=>al f l
 | .map .. =>true
def jy (ρ:Nat->Nat) (b:aU):(aG ρ b).aD=b.aD:=by cases b<;>simp[aG,aU.aD,lF]
theorem aU.xe.aI {f:Nat->Bool} {ρ:Nat->Nat} {Δ:Cx} (hs:tW f ρ Γ Δ) {blk:aU} {ob:Option Nat} (h:blk.xe Γ ob) (hf:af f blk=true):(aG ρ blk).xe Δ ob:=by
 cases blk with
 |
  box v=>
  obtain⟨b,c,e,h1,h2,h3⟩:=h
  exact⟨b,c,e,h1,by rw[hs.heap];exact h2,h3.bV hs hf⟩
 |
  arr sz l=>
  obtain⟨h1,h2,h3⟩:=h
  refine⟨λx hx=>by obtain⟨p,hp,rfl⟩:=rK hx;rw[oU];exact h1 p hp,h2,?_⟩
  cases ob with
  |none=>trivial
  |
   some b=>
   obtain⟨c,e,cs,rest,h4,h5,h6,h7⟩:=h3
   exact⟨c,e,cs,rest,by rw[hs.heap];exact h4,h5,h6.aI hs hf,h7⟩
 |
  map b ks vs l=>
  obtain⟨h1,h2⟩:=h
  exact⟨h1,by rw[hs.heap];exact h2⟩
end Go.Ab
namespace Go.Ab
variable [cM]
variable {P:Program} {nt:Nat} {ds:List Deferred} {s:St} {Γ:Cx} {a:Act} {w:World}
def KB:Nat:=9000
def az:Nat->WD->List (Nat×aU)
 |_,[]=>[]
 |i,b::r=>(KB+i,b)::az (i+1) r
theorem Ev (B:Nat):∀(l:WD) (i k:Nat),get ((l.zipIdx i).map λx=>(B+x.2,x.1)) k=if B+i≤k then l[k-B-i]?else none
 |[],i,k=>by simp[get]
 |
  b::l,i,k=>by
  have ih:=Ev B l (i+1) k
  rw[List.zipIdx_cons,JcQ]
  unfold get
  rw[ih]
  by_cases h:B+i=k
  ·rw[if_pos h,if_pos (by omega),show k-B-i=0 by omega];rfl
  ·rw[if_neg h]
   by_cases h2:B+i≤k
   ·rw[if_pos h2,if_pos (by omega),show k-B-i=(k-B-(i+1))+1 by omega,List.getElem?_cons_succ]
   ·rw[if_neg h2,if_neg (by omega)]
theorem LR:∀(l:WD) (i:Nat),az i l=(l.zipIdx i).map λx=>(KB+x.2,x.1)
 |[],i=>rfl
 |b::l,i=>by rw[az,LR l (i+1),List.zipIdx_cons,JcQ]
def eS (l:WD) (i k:Nat):get (az i l) k=if KB+i≤k then l[k-KB-i]?else none:=by
 rw[LR];exact Ev KB l i k
def fE (Γ:Cx):WG->UE->Prop
 |[],[]=>True
 |p::ps,v::vs=>aN Γ p v∧fE Γ ps vs
 |_,_=>False
def Ew (P:Program) (f:FuncId) (vs:Array Value) (w:World) (Q:Ending->World->Prop):Prop:=
 ((callFunc f vs).run P w= .ok (.enter f vs) w∧Calls P f vs w Q)∨∃v w',(callFunc f vs).run P w= .ok (.value v) w'∧Q (.returned v) w'
def Ew.mono {f:FuncId} {vs:Array Value} {w:World} {Q Q':Ending->World->Prop} (h:Ew P f vs w Q) (hq:∀e w',Q e w'->Q' e w'):Ew P f vs w Q':=by
 rcases h with⟨h1,h2⟩|⟨v,w',h1,h2⟩
 ·exact .inl ⟨h1,h2.mono hq⟩
 ·exact .inr ⟨v,w',h1,hq _ _ h2⟩
def Ew.calls {f:FuncId} {vs:Array Value} {w:World} {Q:Ending->World->Prop} (h:Ew P f vs w Q) (he:(callFunc f vs).run P w= .ok (.enter f vs) w):Calls P f vs w Q:=by
 rcases h with⟨h1,h2⟩|⟨v,w',h1,h2⟩
 ·exact h2
 ·rw[he]at h1;simp at h1
def ab (P:Program) (f:FuncId) (args:WG) (fp:WD) (R:PV->WD->Prop):Prop:=
 ∀
  (Γ:Cx) (w:World) (vs:UE),w.heap=Γ.heap->Mem Γ->Γ.bx=az 0 fp->fE Γ args vs->
  Ew P f vs.toArray w (λe w'=>∃v r mW Γ',e= .returned v∧R r mW∧w'.heap=Γ'.heap∧Mem Γ'∧Γ'.bx=az 0 mW∧aN Γ' r v∧Le Γ Γ'∧WF w w')
def ab.mono {f:FuncId} {args:WG} {fp:WD} {R R':PV->WD->Prop} (h:ab P f args fp R) (hr:∀r mW,R r mW->R' r mW):ab P f args fp R':=by
 intro Γ w vs h1 h2 h3 h4;refine(h Γ w vs h1 h2 h3 h4).mono ?_;rintro e w' ⟨v,r,mW,Γ',e1,e2,e3⟩;exact⟨v,r,mW,Γ',e1,hr _ _ e2,e3⟩
def idx:Yx->Nat->Option Nat
 |[],_=>none
 |x::r,k=>if x=k then some 0 else match idx r k with|some i=>some (i+1)|none=>none
theorem k9:∀ {l:Yx} {k i:Nat},idx l k=some i->l[i]? =some k
 |[],k,i,h=>by simp[idx]at h
 |
  x::r,k,i,h=>by
  simp only[idx]at h
  split at h
  ·simp at h;subst_vars;rfl
  ·split at h
   ·rename_i j hj
    simp at h;subst h
    simpa using k9 hj
   ·simp at h
theorem Cc:∀ {l:Yx} {k i:Nat},l.Nodup->l[i]? =some k->idx l k=some i
 |[],k,i,_,h=>by simp at h
 |
  x::r,k,i,hn,h=>by
  rw[JiQ]at hn
  cases i with
  |zero=>simp at h;subst h;simp[idx]
  |
   succ i=>
   simp at h
   have bY:x≠k:=by intro e;subst e;exact hn.1 (JcX h)
   simp[idx,bY,Cc hn.2 h]
theorem Hs {l:Yx} {k:Nat} (h:idx l k=none):k∉l:=by
 induction l with
 |nil=>simp
 |
  cons x r ih=>
  simp only[idx]at h
  split at h
  ·simp at h
  ·split at h
   ·simp at h
   ·rename_i bY _ hr
    simp only[cJ,not_or]
    exact⟨λe=>bY e.symm,ih hr⟩
def getAll (bx:List (Nat×aU)):Yx->Option (WD)
 |[]=>some []
 |k::r=>match get bx k,getAll bx r with|some b,some l=>some (b::l)|_,_=>none
theorem df:∀ {ks:Yx} {bx:List (Nat×aU)} {l:WD},getAll bx ks=some l->l.length=ks.length∧∀(i:Nat) k,ks[i]? =some k->∃b,get bx k=some b∧l[i]? =some b
 |[],bx,l,h=>by simp[getAll]at h;subst h;simp
 |
  k::r,bx,l,h=>by
  simp only[getAll]at h
  split at h
  ·rename_i b l' hb hl
   simp only[sJ]at h;subst h
   obtain⟨h1,h2⟩:=df hl
   refine⟨by simp[h1],λi j hj=> ?_⟩
   cases i with
   |zero=>simp at hj;subst hj;exact⟨b,hb,rfl⟩
   |succ i=>simp at hj;simpa using h2 i j hj
  ·simp at h
def aQ (bx:List (Nat×aU)):Yx->WD->List (Nat×aU)
 |k::ks,b::bs=>aQ (put bx k b) ks bs
 |_,_=>bx
theorem sB:∀ {ks:Yx} {bs:WD} {bx:List (Nat×aU)} (k:Nat),ks.Nodup->bs.length=ks.length->get (aQ bx ks bs) k=match idx ks k with|some i=>bs[i]? |none=>get bx k
 |[],bs,bx,k,_,hl=>by cases bs<;>simp_all [aQ,idx]
 |
  x::r,bs,bx,k,hn,hl=>by
  cases bs with
  |nil=>simp at hl
  |
   cons b bs=>
   rw[JiQ]at hn
   simp only[aQ,sB k hn.2 (by simpa using hl),idx]
   by_cases hx:x=k
   ·subst hx
    have:idx r x=none:=by
     cases hi:idx r x with
     |none=>rfl
     |some i=>exact absurd (JcX (k9 hi)) hn.1
    simp[this,cm]
   ·rw[if_neg hx]
    cases idx r k with
    |none=>simp[bG _ _ _ _ hx]
    |some i=>simp
def bV (ks:Yx) (k:Nat):Nat:=match idx ks k with|some i=>KB+i|none=>k
def cN (ks:Yx) (k:Nat):Nat:=if KB≤k then(ks[k-KB]?).getD k else k
def cW (ks:Yx) (k:Nat):Bool:=(idx ks k).isSome
def dL (n:Nat) (k:Nat):Bool:=decide (KB≤k∧k<KB+n)
def vP (P:Program) (s:St) (d:Option Nat) (f:FuncId) (args:WG) (ks os:Yx) (K:UD):Prop:=
 ∃
  bf R,getAll s.bx ks=some bf∧(ks++os).Nodup∧(∀o∈os,get s.bx o=none)∧al (cW ks) args=true∧bf.all (af (cW ks))=true∧
  ab P f (bw (bV ks) args) (bf.map (aG (bV ks))) R∧
  ∀
   r fp,R r fp->(fp.length=(ks++os).length∧ae (dL fp.length) r=true∧fp.all (af (dL fp.length))=true)∧
   K ({s with bx:=aQ s.bx (ks++os) (fp.map (aG (cN (ks++os))))}.put d (aI (cN (ks++os)) r))
def Cx.call (Γ:Cx) (ks:Yx) (bf:WD):Cx:=
 {
  heap:=Γ.heap,ι:=λk=>if KB≤k then(match ks[k-KB]?with|some j=>Γ.ι j|none=>none)else none,
  bx:=az 0 (bf.map (aG (bV ks))),cI:=λb=>Γ.own b∧¬∃(i:Nat) (k:Nat),ks[i]? =some k∧Γ.ι k=some b}
def Cx.back (Γ Γ':Cx) (all:Yx) (fp:WD):Cx:=
 {
  heap:=Γ'.heap,ι:=λk=>match idx all k with|some i=>Γ'.ι (KB+i)|none=>Γ.ι k,
  bx:=aQ Γ.bx all (fp.map (aG (cN all))),cI:=Γ.cI}
theorem Cx.rL {ks:Yx} {bf:WD} (hg:getAll Γ.bx ks=some bf):tW (cW ks) (bV ks) Γ (Γ.call ks bf) where
 heap:=rfl
 own b _ hn:=by
  rintro(⟨k,blk,h1,h2⟩|⟨h,_⟩)
  ·simp only[Cx.call]at h2;split at h2
   ·split at h2
    ·rename_i j hj;obtain⟨_,cA⟩:=df hg;obtain⟨b',g1,_⟩:=cA _ _ hj;exact hn (.inl ⟨j,b',g1,h2⟩)
    ·simp at h2
   ·simp at h2
  ·exact hn h
 ref k blk hk hb:=by
  obtain⟨i,hi⟩:=JaZ.1 hk;obtain⟨hl,cA⟩:=df hg;obtain⟨b',g1,g2⟩:=cA i k (k9 hi);rw[hb]at g1;cases g1;refine⟨aG (bV ks) blk,?_,jy _ _,?_⟩
  ·simp only[Cx.call,bV,hi,eS];rw[if_pos (by omega)];simp[g2]
  ·simp only[Cx.call,bV,hi];rw[if_pos (by omega)];simp[k9 hi]
def Cx.lG {ks:Yx} {bf:WD} (hg:getAll Γ.bx ks=some bf) {b:Nat}:(Γ.call ks bf).fM b↔∃(i:Nat) (k:Nat),ks[i]? =some k∧Γ.ι k=some b:=by
 obtain⟨hl,cA⟩:=df hg;constructor
 ·rintro⟨k,blk,h1,h2⟩;simp only[Cx.call]at h2;split at h2
  ·split at h2
   ·rename_i j hj;exact⟨_,j,hj,h2⟩
   ·simp at h2
  ·simp at h2
 ·rintro⟨i,k,h1,h2⟩;obtain⟨b',g1,g2⟩:=cA i k h1;refine⟨KB+i,aG (bV ks) b',?_,?_⟩
  ·simp only[Cx.call,eS];rw[if_pos (by omega)];simp[g2]
  ·simp only[Cx.call];rw[if_pos (by omega)];simp[h1,h2]
def Cx.Cd (hm:Mem Γ) {ks:Yx} {bf:WD} (hg:getAll Γ.bx ks=some bf) (hn:ks.Nodup) (cL:bf.all (af (cW ks))=true):Mem (Γ.call ks bf) where
 blk k blk hk:=by
  obtain⟨hl,cA⟩:=df hg;simp only[Cx.call,eS]at hk;split at hk
  ·rename_i hle;rw[List.getElem?_map,mJ]at hk;obtain⟨b0,Fo,rfl⟩:=hk;have hi:=(iJ.1 Fo).1;obtain⟨j,hj⟩:∃j,ks[k-KB]? =some j:=⟨_,gJ (by omega)⟩
   obtain⟨b1,g1,g2⟩:=cA _ _ hj;simp only[Nat.sub_zero]at Fo;rw[Fo]at g2;cases g2;have:=(hm.blk j b0 g1).aI (Cx.rL hg) (JbJ.1 cL b0 (JcX Fo));have e:(Γ.call ks bf).ι k=Γ.ι j:=by simp only[Cx.call];rw[if_pos (by omega),hj]
   rw[e];exact this
  ·simp at hk
 inj i j b hi hj h1 h2:=by
  obtain⟨hl,cA⟩:=df hg;simp only[Cx.call]at h1 h2;split at h1
  ·split at h2
   ·split at h1
    ·rename_i x hx;split at h2
     ·rename_i y hy;obtain⟨b1,g1,_⟩:=cA _ _ hx;obtain⟨b2,g2,_⟩:=cA _ _ hy;have:=hm.inj x y b (by simp[g1]) (by simp[g2]) h1 h2;subst this;have e1:=Cc hn hx;have e2:=Cc hn hy;rw[e1]at e2;simp at e2;omega
     ·simp at h2
    ·simp at h1
   ·simp at h2
  ·simp at h1
 cI b h:=by
  rcases h.1 with h|h
  ·exact hm.lt h
  ·exact hm.cI b h
 apart b h hp:=hp.2 ((Cx.lG hg).1 h)
 xj b cs h:=by
  obtain⟨h1,h2⟩:=hm.xj b cs h;refine⟨λhb=>h1 ?_,h2⟩;obtain⟨i,k,g1,g2⟩:=(Cx.lG hg).1 hb;obtain⟨b',g3,_⟩:=(df hg).2 i k g1;exact⟨k,b',g3,g2⟩
def Ce (hm:Mem Γ) {Γ':Cx} {ks os:Yx} {bf fp:WD} (hg:getAll Γ.bx ks=some bf) (hn:(ks++os).Nodup) (Nl:∀o∈os,get Γ.bx o=none)
  (vE:Mem Γ') (lj:Γ'.bx=az 0 fp) (hle:Le (Γ.call ks bf) Γ') (hlen:fp.length=(ks++os).length) (cL:fp.all (af (dL fp.length))=true):
  tW (dL fp.length) (cN (ks++os)) Γ' (Γ.back Γ' (ks++os) fp)∧Le Γ (Γ.back Γ' (ks++os) fp)∧Mem (Γ.back Γ' (ks++os) fp):=by
 obtain⟨hl,cA⟩:=df hg;have hnk:ks.Nodup:=(JeQ.1 hn).1;have LB:∀k,get (Γ.back Γ' (ks++os) fp).bx k=match idx (ks++os) k with|some i=>(fp.map (aG (cN (ks++os))))[i]? |none=>get Γ.bx k:=λk=>sB k hn (by simpa using hlen)
 have fP:Γ.heap.size≤Γ'.heap.size:=hle.size
 --a block of a key that is handed over or comes back
 have LF:∀ {k i:Nat},idx (ks++os) k=some i->∃b0,fp[i]? =some b0∧get Γ'.bx (KB+i)=some b0:=by
  intro k i hi;have dx:=(iJ.1 (k9 hi)).1;have:fp[i]? =some (fp[i]'(by omega)):=gJ (by omega);exact⟨_,this,by rw[lj,eS,if_pos (by omega)];simpa using this⟩
 have Nn:Γ'.cI=(Γ.call ks bf).cI:=hle.cI
 have DD:∀ {k b:Nat} {blk:aU},idx (ks++os) k=none->get Γ.bx k=some blk->Γ.ι k=some b->(Γ.call ks bf).cI b:=by
  intro k b blk hi hb hι;refine⟨.inl ⟨k,blk,hb,hι⟩,?_⟩;rintro⟨i,k',h1,h2⟩;obtain⟨b',g1,_⟩:=cA i k' h1;have:=hm.inj k k' b (by simp[hb]) (by simp[g1]) hι h2;subst this;exact Hs hi (JaX.2 (.inl (JcX h1)))
 have same:tW (dL fp.length) (cN (ks++os)) Γ' (Γ.back Γ' (ks++os) fp):=by
  refine⟨rfl,λb hb yw=> ?_,λk blk hk hb=> ?_⟩
  ·rintro(⟨k,blk,h1,h2⟩|h)
   ·rw[LB]at h1;simp only[Cx.back]at h2;cases hi:idx (ks++os) k with
    |
     some i=>
     rw[hi]at h2
     obtain⟨b0,_,g2⟩:=LF hi
     exact yw (.inl ⟨_,b0,g2,h2⟩)
    |
     none=>
     rw[hi]at h1 h2
     exact yw (.inr (by rw[Nn];exact DD hi h1 h2))
   ·have h':Γ.cI b:=h
    have hpc:(Γ.call ks bf).cI b:=by
     refine⟨.inr h',?_⟩;rintro⟨i,k',h1,h2⟩;obtain⟨b',g1,_⟩:=cA i k' h1;exact hm.apart b ⟨k',b',g1,h2⟩ h'
    exact yw (.inr (by rw[Nn];exact hpc))
  ·simp only[dL,decide_eq_true_eq]at hk;obtain⟨i,rfl⟩:∃i,k=KB+i:=⟨k-KB,by omega⟩
   have gP:(ks++os)[i]? =some ((ks++os)[i]'(by omega)):=gJ (by omega)
   have hr:cN (ks++os) (KB+i)=(ks++os)[i]'(by omega):=by
    simp only[cN];rw[if_pos (by omega)];simp[gP]
   have ar9:=Cc hn gP;rw[lj,eS,if_pos (by omega)]at hb;simp only[Nat.add_sub_cancel_left,Nat.sub_zero]at hb;refine⟨aG (cN (ks++os)) blk,?_,jy _ _,?_⟩
   ·rw[LB,hr,ar9];simp[hb]
   ·simp only[Cx.back];rw[hr,ar9]
 have le:Le Γ (Γ.back Γ' (ks++os) fp):=by
  refine⟨λb hb yw=> ?_,λb hb h=> ?_,rfl,fP,λk blk hk=> ?_⟩
  ·refine hle.heap b hb (λh=>yw ?_);obtain⟨i,k,h1,h2⟩:=(Cx.lG hg).1 h;obtain⟨b',g1,_⟩:=cA i k h1;exact⟨k,b',g1,h2⟩
  ·obtain⟨k,blk,h1,h2⟩:=h;rw[LB]at h1;simp only[Cx.back]at h2;cases hi:idx (ks++os) k with
   |
    some i=>
    rw[hi]at h2
    obtain⟨b0,_,g2⟩:=LF hi
    obtain⟨i',k',g3,g4⟩:=(Cx.lG hg).1 (hle.fM b hb ⟨_,b0,g2,h2⟩)
    obtain⟨b',g1,_⟩:=cA i' k' g3
    exact⟨k',b',g1,g4⟩
   |
    none=>
    rw[hi]at h1 h2
    exact⟨k,blk,h1,h2⟩
  ·cases hi:idx (ks++os) k with
   |
    some i=>
    obtain⟨b0,g1,g2⟩:=LF hi
    have Fp:=k9 hi
    have gP:ks[i]? =some k:=by
     rw[List.getElem?_append]at Fp;split at Fp
     ·exact Fp
     ·rw[Nl k (JcX Fp)]at hk;simp at hk
    obtain⟨b1,g3,g4⟩:=cA i k gP
    rw[hk]at g3;cases g3
    have hce:get (Γ.call ks bf).bx (KB+i)=some (aG (bV ks) blk):=by
     simp only[Cx.call,eS];rw[if_pos (by omega)];simp[g4]
    have hcι:(Γ.call ks bf).ι (KB+i)=Γ.ι k:=by
     simp only[Cx.call];rw[if_pos (by omega)];simp[gP]
    obtain⟨b2,g5,g6,g7⟩:=hle.ref _ _ hce
    rw[g2]at g5;cases g5
    refine⟨aG (cN (ks++os)) b0,by rw[LB,hi];simp[g1],by rw[jy];rw[jy]at g6;exact g6,λht=> ?_⟩
    rw[jy]at ht g7
    obtain⟨g8,g9⟩:=g7 ht
    rw[hcι]at g8 g9
    refine⟨by simp only[Cx.back];rw[hi];exact g8,g9⟩
   |
    none=>
    refine⟨blk,by rw[LB,hi];exact hk,JaQ _,λ_=>⟨by simp only[Cx.back];rw[hi],λb hb cs e hc=>⟨cs,?_,rfl⟩⟩⟩
    have hp:=DD hi hk hb
    rw[←hc]
    refine hle.heap b (b9 hc) (λh=>hp.2 ((Cx.lG hg).1 h))
 refine⟨same,le,⟨λk blk hk=> ?_,λi j b hi hj h1 h2=> ?_,λb h=>JgZ (hm.cI b h) fP,λb h hp=>hm.apart b (le.fM b (hm.cI b hp) h) hp,hm.kH le⟩⟩
 ·rw[LB]at hk;cases hi:idx (ks++os) k with
  |
   some i=>
   rw[hi]at hk
   obtain⟨b0,g1,g2⟩:=LF hi
   simp only[List.getElem?_map,g1,JkW,sJ]at hk
   subst hk
   have:=(vE.blk _ _ g2).aI same (JbJ.1 cL b0 (JcX g1))
   have e:(Γ.back Γ' (ks++os) fp).ι k=Γ'.ι (KB+i):=by simp only[Cx.back];rw[hi]
   rw[e];exact this
  |
   none=>
   rw[hi]at hk
   have e:(Γ.back Γ' (ks++os) fp).ι k=Γ.ι k:=by simp only[Cx.back];rw[hi]
   rw[e]
   have hb:=hm.blk k blk hk
   refine hb.mono le (λb vM=> ?_)
   have hp:=DD hi hk vM
   rw[vM]at hb
   exact hle.heap b hb.lt (λh=>hp.2 ((Cx.lG hg).1 h))
 ·rw[LB]at hi hj;simp only[Cx.back]at h1 h2;cases e1:idx (ks++os) i with
  |
   some x=>
   rw[e1]at h1
   obtain⟨b0,_,g2⟩:=LF e1
   cases e2:idx (ks++os) j with
   |
    some y=>
    rw[e2]at h2
    obtain⟨b1,_,g3⟩:=LF e2
    have:=vE.inj _ _ b (by simp[g2]) (by simp[g3]) h1 h2
    have LG:x=y:=by omega
    subst LG
    have:=k9 e1
    rw[k9 e2]at this
    exact(Option.some.inj this).symm
   |
    none=>
    rw[e2]at hj h2
    obtain⟨b1,JG⟩:=JaZ.1 hj
    have hp:=DD e2 JG h2
    rw[←Nn]at hp
    exact absurd hp (vE.apart b ⟨_,b0,g2,h1⟩)
  |
   none=>
   rw[e1]at hi h1
   obtain⟨b0,Fo⟩:=JaZ.1 hi
   cases e2:idx (ks++os) j with
   |
    some y=>
    rw[e2]at h2
    obtain⟨b1,_,g3⟩:=LF e2
    have hp:=DD e1 Fo h1
    rw[←Nn]at hp
    exact absurd hp (vE.apart b ⟨_,b1,g3,h2⟩)
   |
    none=>
    rw[e2]at hj h2
    exact hm.inj i j b (by simpa[Fo]using hi) hj h1 h2
end Go.Ab
namespace Go.Ab
variable [cM]
variable {P:Program} {nt:Nat} {ds:List Deferred} {s:St} {Γ:Cx} {a:Act} {w:World} {l:Nat} {o:Obj}
abbrev FW (ro:Option Nat):Fence:= {Fence.wide with round:=ro}
def P9 {ro:Option Nat} {f:FuncId} {args:Array Value} {R:Ending->World->Prop} (h:Calls P f args w R):CallsIn (FW ro) 0 P f args w R:=
 (callsIn_wide (n:=0)).2 h
def NL {ro:Option Nat} {f:FuncId} {args:Array Value} {R:Ending->World->Prop} (h:CallsIn (FW ro) 0 P f args w R):Calls P f args w R:=
 (callsIn_wide (n:=0)).1 h
def isC:Obj->Bool
 | .cells .. | .map .. =>true
 |_=>false
def Cx.obj (Γ:Cx) (l:Nat) (o:Obj):Cx:= {Γ with heap:=Γ.heap.setIfInBounds l o}
def Cx.jn (Γ:Cx) (l:Nat):Prop:=∃x,Γ.heap[l]? =some x∧isC x=false
def jL {b:Nat} (h:b≠l):(Γ.obj l o).heap[b]? =Γ.heap[b]? :=by simp[Cx.obj,Array.getElem?_setIfInBounds_ne (Ne.symm h)]
def Cf (h:l<Γ.heap.size):(Γ.obj l o).heap[l]? =some o:=by simp[Cx.obj,h]
def pD:(Γ.obj l o).heap.size=Γ.heap.size:=by simp[Cx.obj]
def Cx.jn.lt (h:Γ.jn l):l<Γ.heap.size:=by obtain⟨x,hx,_⟩:=h;exact b9 hx
def Cx.jn.ne' (h:Γ.jn l) {b:Nat} {x:Obj} (hb:Γ.heap[b]? =some x) (hx:isC x=true):b≠l:=by
 rintro rfl;obtain⟨y,hy,hc⟩:=h;rw[hb]at hy;cases hy;rw[hx]at hc;simp at hc
def Cx.jn.ne (h:Γ.jn l) {b:Nat} {c:Array Value} {e:TypeId} {z:Nat×Nat} (hb:Γ.heap[b]? =some (.cells c e z)):b≠l:=h.ne' hb rfl
theorem Cg (hm:Mem Γ) {b:Nat} (h:Γ.fM b):∃x,Γ.heap[b]? =some x∧isC x=true:=by
 obtain⟨k,blk,h1,h2⟩:=h;have:=hm.blk k blk h1;rw[h2]at this;cases blk with
 |box v=>obtain⟨b',c,e,e1,e2,_⟩:=this;cases e1;exact⟨_,e2,rfl⟩
 |arr sz l=>obtain⟨_,_,c,e,cs,rest,e2,_⟩:=this;exact⟨_,e2,rfl⟩
 |map b0 ks vs l=>obtain⟨e1,es,clock,e2,_⟩:=this;cases e1;exact⟨_,e2,rfl⟩
def Ch (hm:Mem Γ) (h:Γ.jn l):¬Γ.fM l:=by
 intro hb;obtain⟨x,hx,hc⟩:=Cg hm hb;exact h.ne' hx hc rfl
def LU (h:Γ.jn l):PJ Γ (Γ.obj l o) where
 cell b i c _ _ hc:=by
  have hb:b≠l:=by
   rintro rfl;obtain⟨x,hx,hp⟩:=h;unfold Ab.cell at hc;rw[hx]at hc;cases x<;>simp_all [isC]
  unfold Ab.cell at hc⊢;rw[jL hb];exact hc
 own b _ ho:=ho
 size:=by rw[pD];exact JaQ _
 ref k blk hk:=⟨blk,hk,JaQ _,λ_=>⟨rfl,λb _ cs e hc=>⟨cs,by rw[jL (h.ne hc)];exact hc,rfl⟩⟩⟩
def Vl (hm:Mem Γ) (h:Γ.jn l):Mem (Γ.obj l o) where
 blk k blk hk:=(hm.blk k blk hk).py (LU h) λb hb=>by
  obtain⟨x,hx,hc⟩:=Cg hm ⟨k,blk,hk,hb⟩;exact jL (h.ne' hx hc)
 inj:=hm.inj
 cI b hb:=by rw[pD];exact hm.cI b hb
 apart:=hm.apart
 xj b cs hb:=by
  obtain⟨h1,e,x,h2⟩:=hm.xj b cs hb;exact⟨h1,e,x,by rw[jL (h.ne h2)];exact h2⟩
def NM (h:Γ.jn l) (ho:isC o=false):(Γ.obj l o).jn l:=⟨o,Cf h.lt,ho⟩
def Le.plain {A B:Cx} (h:Le A B) (hm:Mem A) {x:Obj} (hx:A.heap[l]? =some x) (hc:isC x=false):B.heap[l]? =some x:=by
 rw[h.heap l (b9 hx) (Ch hm ⟨x,hx,hc⟩)];exact hx
def Zr {A B:Cx} (h:Le A B) (hm:Mem A) (ha:A.jn l) (ho:isC o=false):Le (A.obj l o) (B.obj l o) where
 heap b hb hn:=by
  rw[pD]at hb;by_cases e:b=l
  ·subst e;rw[Cf hb,Cf (JgZ hb h.size)]
  ·rw[jL e,jL e];exact h.heap b hb hn
 fM b hb hn:=by rw[pD]at hb;exact h.fM b hb hn
 cI:=h.cI
 size:=by rw[pD,pD];exact h.size
 ref k blk hk:=by
  obtain⟨bL,h1,h2,h3⟩:=h.ref k blk hk;refine⟨bL,h1,h2,λht=>⟨(h3 ht).1,λb hb cs e hc=> ?_⟩⟩;have bY:b≠l:=(NM ha ho).ne hc;rw[jL bY]at hc⊢;exact(h3 ht).2 b hb cs e hc
def FI {A B:Cx} (h:Le A B) (hl:A.heap.size≤l) (hb:B.jn l):Le A (B.obj l o) where
 heap b dx hn:=by rw[jL (by omega)];exact h.heap b dx hn
 fM b dx hn:=h.fM b dx hn
 cI:=h.cI
 size:=by rw[pD];exact h.size
 ref k blk hk:=by
  obtain⟨bL,h1,h2,h3⟩:=h.ref k blk hk;refine⟨bL,h1,h2,λht=>⟨(h3 ht).1,λb tB cs e hc=> ?_⟩⟩;obtain⟨Fi,h4,h5⟩:=(h3 ht).2 b tB cs e hc;exact⟨Fi,by rw[jL (hb.ne h4)];exact h4,h5⟩
def ajr {o':Obj} (h:Γ.heap[l]? =some o):(Γ.obj l o').obj l o=Γ:=by
 have dx:=b9 h
 have:(Γ.heap.setIfInBounds l o').setIfInBounds l o=Γ.heap:=by
  apply Array.ext
  ·simp
  ·intro i h1 h2;rw[JlW (by simpa using h2)];split
   ·subst_vars;exact((Array.getElem?_eq_some_iff.1 h).2).symm
   ·rename_i bY;rw[JlW h2,if_neg bY]
 simp only[Cx.obj,this]
def fW.obj (hs:fW nt ds s Γ a) (h:Γ.jn l):fW nt ds s (Γ.obj l o) a:=
 ⟨hs.bx,hs.size,hs.defers,λk p hk=>(hs.env k p hk).py (LU h),Vl hs.mem h⟩
def Qa (h:w.heap=Γ.heap):(w.putObj l o).heap=(Γ.obj l o).heap:=by simp[World.putObj,Cx.obj,h]
def WF.obj (w:World) (l:Nat) (o:Obj):WF w (w.putObj l o):=⟨rfl,rfl,rfl⟩
def WF.alloc (w:World) (o:Obj):WF w (w.alloc o):=⟨rfl,rfl,rfl⟩
def rM (B:Nat) (Γ:Cx) (ds:List Deferred):Prop:=
 ∃Ds:Yx,ds=Ds.map (λD=> {target:= .collected D,args:= #[]})∧Ds.Nodup∧∀D∈Ds,B≤D∧Γ.heap[D]? =some (.deferred (some []))
def rM.nil {B:Nat}:rM B Γ []:=⟨[],rfl,.nil,by simp⟩
def rM.le {B:Nat} {Γ':Cx} (h:rM B Γ ds) (hm:Mem Γ) (hle:Le Γ Γ'):rM B Γ' ds:=by
 obtain⟨Ds,h1,h2,h3⟩:=h;exact⟨Ds,h1,h2,λD hD=>⟨(h3 D hD).1,hle.plain hm (h3 D hD).2 rfl⟩⟩
def rM.heap {B:Nat} {Γ':Cx} (h:rM B Γ ds) (he:Γ'.heap=Γ.heap):rM B Γ' ds:=by
 obtain⟨Ds,h1,h2,h3⟩:=h;exact⟨Ds,h1,h2,λD hD=>⟨(h3 D hD).1,by rw[he];exact(h3 D hD).2⟩⟩
def dE (n:Nat):Yx:=(List.range n).map (KB+·)
def acb (P:Program) (l:Nat) (Γc:Cx) (args:WG) (fp:WD) (R:WD->Prop):Prop:=
 ∀
  (Γ:Cx) (w:World) (vs:UE),w.heap=Γ.heap->Mem Γ->Γ.bx=az 0 fp->fE Γ args vs->PJ Γc Γ->Γ.heap[l]? =Γc.heap[l]? ->
  YieldAt (FW none) 0 P l vs.toArray w (λe w'=>∃mW Γ',e= .returned (.bool true)∧R mW∧w'.heap=Γ'.heap∧Mem Γ'∧Γ'.bx=az 0 mW∧Le Γ Γ'∧WF w w')
class gQ where
 n:Nat
 spec:Nat->WG->WD->(WD->Prop)->Prop
instance noY:gQ:=⟨0,λ_ _ _ _=>False⟩
def Ex [Y:gQ] (P:Program) (Γ:Cx):Prop:=∀l args fp R,Y.spec l args fp R->
 ∃Γ0 rec,Le Γ0 Γ∧(∀k blk,get Γ0.bx k=some blk->KB≤k∧k<KB+Y.n)∧Γ0.heap[l]? =some (.loop rec)∧Mem Γ0∧acb P l Γ0 args fp R
def Ex.le [gQ] {Γ':Cx} (h:Ex P Γ) (hle:Le Γ Γ'):Ex P Γ':=λl args fp R hs=>by
 obtain⟨Γ0,rec,h1,h2⟩:=h l args fp R hs;exact⟨Γ0,rec,h1.trans hle,h2⟩
def Ex.no: @Ex _ noY P Γ:=λ_ _ _ _ h=>h.elim
def JN [Y:gQ] (s:St) (d:Option Nat) (l:Nat) (args:WG) (K:UD):Prop:=
 ∃
  bf R,getAll s.bx (dE Y.n)=some bf∧al (dL Y.n) args=true∧bf.all (af (dL Y.n))=true∧Y.spec l args bf R∧
  ∀fp,R fp->(fp.length=Y.n∧fp.all (af (dL Y.n))=true)∧K ({s with bx:=aQ s.bx (dE Y.n) fp}.put d (.bl true))
def sC (n:Nat):(dE n).Nodup:=by
 unfold dE;exact List.Pairwise.map _ (λa b h=>by simp only[ne_eq];omega) List.nodup_range
def yL {n i k:Nat}:(dE n)[i]? =some k↔i<n∧k=KB+i:=by
 unfold dE;simp only[List.getElem?_map,mJ];constructor
 ·rintro⟨x,h1,h2⟩;obtain⟨h3,h4⟩:=iJ.1 h1;simp at h3 h4;subst h4;exact⟨h3,h2.symm⟩
 ·rintro⟨h1,rfl⟩;exact⟨i,by simp[h1],rfl⟩
def Ci {n k:Nat}:idx (dE n) k=if KB≤k∧k<KB+n then some (k-KB)else none:=by
 split
 ·rename_i h;exact Cc (sC n) (yL.2 ⟨by omega,by omega⟩)
 ·rename_i h;cases hi:idx (dE n) k with
  |none=>rfl
  |some i=>exact absurd (yL.1 (k9 hi)) (by omega)
def tX (n:Nat):cW (dE n)=dL n:=by
 funext k;simp only[cW,Ci,dL];split<;>simp_all
def tY {n k:Nat}:bV (dE n) k=k:=by
 unfold bV;rw[Ci];split
 ·rename_i i h;split at h<;>simp at h;omega
 ·rfl
mutual
theorem xp {ρ:Nat->Nat} (h:∀k,ρ k=k):∀p,aI ρ p=p
 | .rs k _ _ _ _ _ _=>by simp[aI,h]
 | .pt k _ _=>by simp[aI,h]
 | .st _ l=>by simp[aI,jM h l]
 | .ar _ _ l=>by simp[aI,jM h l]
 | .tup l=>by simp[aI,jM h l]
 | .sl _ l _=>by simp[aI,jM h l]
 | .fp _ l _=>by simp[aI,jM h l]
 | .fn _ x y=>by simp[aI,jM h x,jM h y]
 | .gd _ p=>by simp[aI,xp h p]
 | .ifc _ p=>by simp[aI,xp h p]
 | .un| .bl _| .int .. | .str _| .np| .nf| .ni| .mp .. =>by simp[aI]
theorem jM {ρ:Nat->Nat} (h:∀k,ρ k=k):∀l,bw ρ l=l
 |[]=>rfl
 |p::l=>by simp[bw,xp h p,jM h l]
end
def NN {ρ:Nat->Nat} (h:∀k,ρ k=k) (b:aU):aG ρ b=b:=by
 cases b<;>simp[aG,xp h,jM h]
def Cj {ρ:Nat->Nat} (h:∀k,ρ k=k) (l:WD):l.map (aG ρ)=l:=by
 induction l<;>simp[NN h, *]
def Qb {Γ0:Cx} {n:Nat} {bf:WD} (h0:∀k blk,get Γ0.bx k=some blk->KB≤k∧k<KB+n) (hle:Le Γ0 Γ) (hg:getAll Γ.bx (dE n)=some bf):PJ Γ0 (Γ.call (dE n) bf) where
 cell b i c hb hn hc:=by
  have:=hle.heap b hb λh=>hn (.inl h);rw[show(Γ.call (dE n) bf).heap=Γ.heap from rfl,cell_of_heap this];exact hc
 own b hb ho:=by
  have hG:Γ.own b:=by
   rcases ho with ho|ho
   ·obtain⟨i,k,h1,h2⟩:=(Cx.lG hg).1 ho;obtain⟨_,cA⟩:=df hg;obtain⟨b',g1,_⟩:=cA i k h1;exact .inl ⟨k,b',g1,h2⟩
   ·exact ho.1
  exact hle.own b hb hG
 size:=hle.size
 ref k blk hk:=by
  obtain⟨h1,h2⟩:=h0 k blk hk;obtain⟨bL,g1,g2,g3⟩:=hle.ref k blk hk;have hs:=Cx.rL (Γ:=Γ) hg;obtain⟨aBO,e1,e2,e3⟩:=hs.ref k bL (by rw[tX];simp[dL,h1,h2]) g1;rw[tY]at e1 e3;refine⟨aBO,e1,by omega,λht=> ?_⟩;obtain⟨g4,g5⟩:=g3 (by omega);exact⟨by rw[e3,g4],g5⟩
end Go.Ab
namespace Go.Ab
variable [cM]
variable {P:Program} {nt:Nat} {ds:List Deferred} {s:St} {Γ:Cx} {a:Act} {w:World}
theorem aC.ajs {Δ:Cx}:∀ {l:WG} {cs:UE},aC Γ l cs->l.all PV.isNum=true->aC Δ l cs
 |_,_,.nil,_=> .nil
 |_,_,.int k n h,hn=> .int k n (aC.ajs h (by simpa[PV.isNum]using hn))
 |_,_,.un _ _,hn=>by simp[PV.isNum]at hn
 |_,_,.bl _ _,hn=>by simp[PV.isNum]at hn
 |_,_,.str _ _ _ _,hn=>by simp[PV.isNum]at hn
 |_,_,.st _ _ _ _ _,hn=>by simp[PV.isNum]at hn
 |_,_,.ar _ _ _ _ _ _ _,hn=>by simp[PV.isNum]at hn
 |_,_,.sl _ _ _ _ _ _ _ _ _ _ _,hn=>by simp[PV.isNum]at hn
 |_,_,.rs _ _ _ _ _ _ _ _ _ _ _ _ _,hn=>by simp[PV.isNum]at hn
 |_,_,.np _,hn=>by simp[PV.isNum]at hn
 |_,_,.pt _ _ _ _ _ _ _ _ _,hn=>by simp[PV.isNum]at hn
 |_,_,.fp _ _ _ _ _ _ _ _ _ _,hn=>by simp[PV.isNum]at hn
 |_,_,.fn _ _ _ _ _ _ _ _,hn=>by simp[PV.isNum]at hn
 |_,_,.nf _,hn=>by simp[PV.isNum]at hn
 |_,_,.ifc _ _ _ _ _,hn=>by simp[PV.isNum]at hn
 |_,_,.ni _,hn=>by simp[PV.isNum]at hn
 |_,_,.mp _ _ _,hn=>by simp[PV.isNum]at hn
def Cx.lit (Γ:Cx) (b:Nat) (o:Obj) (k:Nat) (blk:aU):Cx:=
 {heap:=Γ.heap.setIfInBounds b o,ι:=λi=>if i=k then none else Γ.ι i,bx:=put Γ.bx k blk,cI:=Γ.cI}
theorem FJ (hm:Mem Γ) {k b:Nat} {blk bL:aU} {o o':Obj} (hg:get Γ.bx k=some blk) (hb:Γ.ι k=some b) (ho:Γ.heap[b]? =some o) (ht:blk.aD<bL.aD):Le Γ (Γ.lit b o' k bL) where
 heap b' tB bY:=by
  have:b≠b':=by intro h;subst h;exact bY ⟨k,blk,hg,hb⟩
  simp only[Cx.lit];rw[Array.getElem?_setIfInBounds_ne this]
 fM b' tB h:=by
  obtain⟨i,bl,hgi,hi⟩:=h;simp only[Cx.lit,dc]at hgi hi;by_cases gP:k=i
  ·subst gP;simp at hi
  ·rw[if_neg gP]at hgi;rw[if_neg (λe=>gP e.symm)]at hi;exact⟨i,bl,hgi,hi⟩
 cI:=rfl
 size:=by simp[Cx.lit]
 ref i bl h:=by
  by_cases gP:k=i
  ·subst gP;rw[hg]at h;cases h;exact⟨bL,by simp[Cx.lit,cm],by omega,λe=>by omega⟩
  ·refine⟨bl,by simp only[Cx.lit];rw[bG _ _ _ _ gP];exact h,JaQ _,λ_=>⟨by simp only[Cx.lit];rw[if_neg (λe=>gP e.symm)],λb2 vM cs e hc=>⟨cs,?_,rfl⟩⟩⟩
   have bY:b≠b2:=by
    intro h';subst h';exact gP (hm.inj k i b (by rw[hg];rfl) (by rw[h];rfl) hb vM)
   simp only[Cx.lit];rw[Array.getElem?_setIfInBounds_ne bY];exact hc
def Vm (hm:Mem Γ) {k b:Nat} {blk bL:aU} {o o':Obj} (hg:get Γ.bx k=some blk) (hb:Γ.ι k=some b) (ho:Γ.heap[b]? =some o) (ht:blk.aD<bL.aD) (hr:bL.xe (Γ.lit b o' k bL) none):Mem (Γ.lit b o' k bL) where
 blk i bl h:=by
  by_cases gP:k=i
  ·subst gP;simp only[Cx.lit,cm,sJ]at h;subst h;have:(Γ.lit b o' k bL).ι k=none:=by simp[Cx.lit]
   rw[this];exact hr
  ·simp only[Cx.lit]at h;rw[bG _ _ _ _ gP]at h;have h2:=hm.blk i bl h;have hi:(Γ.lit b o' k bL).ι i=Γ.ι i:=by simp only[Cx.lit];rw[if_neg (λe=>gP e.symm)]
   rw[hi]
   exact h2.mono (FJ hm hg hb ho ht) (λb2 vM=>by
    have bY:b≠b2:=by
     intro h';subst h';exact gP (hm.inj k i b (by simp[hg]) (by simp[h]) hb vM)
    simp only[Cx.lit];rw[Array.getElem?_setIfInBounds_ne bY])
 inj i j b2 hi hj h1 h2:=by
  simp only[Cx.lit]at h1 h2;have Fp:¬i=k:=by intro e;rw[if_pos e]at h1;cases h1
  have hkj:¬j=k:=by intro e;rw[if_pos e]at h2;cases h2
  rw[if_neg Fp]at h1;rw[if_neg hkj]at h2;refine hm.inj i j b2 ?_ ?_ h1 h2
  ·simp only[Cx.lit]at hi;rwa [bG _ _ _ _ (λe=>Fp e.symm)]at hi
  ·simp only[Cx.lit]at hj;rwa [bG _ _ _ _ (λe=>hkj e.symm)]at hj
 cI b2 h:=by have:=hm.cI b2 h;simpa[Cx.lit]using this
 apart b2 h hp:=hm.apart b2 ((FJ hm (o':=o') hg hb ho ht).fM b2 (hm.cI b2 hp) h) hp
 xj:=hm.kH (FJ hm hg hb ho ht)
def AU (w:World) (t e e':TypeId) (C:Array Value) (b n c:Nat) (ht:P.underlying t=some (.slice e)) (he:P.underlying e=some (.int .u8)) (hb:w.heap[b]? =some (.cells C e' (0,0))):
  (convert t t (.slice (some ⟨b,0,none⟩) n c)).run P w= .ok (.slice (some ⟨b,0,none⟩) n c) {w with heap:=w.heap.setIfInBounds b (.cells C e' (C.size,C.size+1))}:=by
 have Ej:w.shape? b=some (e',C.size):=by unfold World.shape?;rw[hb]
 have n7:w.freeze ⟨b,C.size,none⟩ 1= {w with heap:=w.heap.setIfInBounds b (.cells C e' (C.size,C.size+1))}:=by
  unfold World.freeze;rw[if_neg (by decide)]
  have:∀f:Obj->Obj,w.heap.modify b f=w.heap.setIfInBounds b (f (.cells C e' (0,0))):=by
   intro f;apply Array.ext_getElem?;intro i;rw[Array.getElem?_modify,Array.getElem?_setIfInBounds];by_cases h:b=i
   ·subst h;rw[hb];simp[b9 hb]
   ·simp[h]
  rw[this];rfl
 simp[convert,run_underlying ht,run_underlying he,markStringish,Ej,n7]
def NP {o:Oper} {t e:TypeId} {x:Operand} {x':AX} {K:UD} (ho:o.op= .convert t t x) (h1:P.underlying t=some (.slice e)) (h3:P.underlying e=some (.int .u8))
  (hx:eH x=some x') (hs:fW nt ds s Γ a) (hw:w.heap=Γ.heap) (hd:∀k,o.dst=some k->k<nt) (he:ex s o.dst (.convL x') K):kS P nt ds o a w Γ K:=by
 simp only[ex]at he;obtain⟨p,hp,hr⟩:=bR hx hs rfl he;cases p<;>simp only at hp<;>first|exact hp.elim|skip
 rename_i k pth off len aD sz c;split at hp
 ·rename_i bu l hg;obtain⟨⟨rfl,rfl,rfl,rfl,rfl,rfl,rfl,bY,Po⟩,hK⟩:=hp;rw[←hs.bx]at hg;obtain⟨ad,bg,hv,cL⟩:=hr.rs hg rfl;have Pn:=hs.mem.blk _ _ hg;unfold iD at cL;have hlen:0<l.length:=by cases l<;>simp at bY⊢
  cases hι:Γ.ι k with
  |none=>rw[hι]at cL;simp only at cL;omega
  |
   some b=>
   rw[hι]at cL
   simp only at cL
   obtain⟨Y3,had,_,aBQ⟩:=cL
   obtain⟨_,JE,e0,aIn,Eh⟩:=aBQ trivial
   have aBR:ad=some ⟨b,0,none⟩:=by
    rcases had with h|h
    ·omega
    ·simpa[bU]using h
   subst aBR
   simp only[aU.xe,hι]at Pn
   obtain⟨asa,_,C,e1,cs,rest,hC,G2,Hd,_⟩:=Pn
   have xc:w.heap[b]? =some (.cells C e1 (0,0)):=by rw[hw];exact hC
   have ht:(aU.arr 1 l).aD<(aU.arr 1 (l++[.int .u8 0])).aD:=by simp[aU.aD]
   have ia:(execOp a.eval o).run P w= .ok (.value (.slice (some ⟨b,0,none⟩) l.length bg)) {w with heap:=w.heap.setIfInBounds b (.cells C e1 (C.size,C.size+1))}:=by
    have e2:execOp a.eval o=(do Pure.pure (Next.value (←convert t t (a.eval x)))):=by unfold execOp;rw[ho]
    rw[e2,bJ,hv,AU w t e e1 C b l.length bg h1 h3 xc];rfl
   have hle:=FJ hs.mem (o':= .cells C e1 (C.size,C.size+1)) hg hι hC ht
   have fQ:=Vm hs.mem (o':= .cells C e1 (C.size,C.size+1)) hg hι hC ht ⟨by
    intro y hy;rcases JaX.1 hy with h|h
    ·exact asa y h
    ·simp at h;subst h;rfl,by omega,trivial⟩
   have g1:=hs.le hle fQ (yJ:=put s.bx k (.arr 1 (l++[.int .u8 0]))) (by simp[Cx.lit,hs.bx])
   have asb:¬(Γ.lit b (.cells C e1 (C.size,C.size+1)) k (.arr 1 (l++[.int .u8 0]))).own b:=by
    rintro(⟨i,bl,q1,q2⟩|q)
    ·simp only[Cx.lit]at q1 q2;by_cases gP:i=k
     ·rw[if_pos gP]at q2;cases q2
     ·rw[if_neg gP]at q2;rw[bG _ _ _ _ (λe=>gP e.symm)]at q1;exact gP (hs.mem.inj i k b (by simp[q1]) (by simp[hg]) q2 hι)
    ·exact hs.mem.apart b ⟨k,_,hg,hι⟩ q
   have xd:aN (Γ.lit b (.cells C e1 (C.size,C.size+1)) k (.arr 1 (l++[.int .u8 0]))) (.sl 1 l false) (.slice (some ⟨b,0,none⟩) l.length bg):=by
    simp only[aN];refine .sl 1 l false _ bg (Hd.ajs Po) asa Y3 (by simp) (λ_=>⟨b,0,rfl,by simp[Cx.lit];exact b9 hC,asb,λi c hc=> ?_⟩) .nil;simp only[cell,Cx.lit,JhX];rw[uJ (b9 hC)];simp only;rw[←Array.getElem?_toList,G2,List.getElem?_append_left (iJ.1 hc).1];exact hc
   have g2:=g1.put hd xd
   refine⟨_,_,_,_,_,ia,.inl rfl,g2,by simp[Cx.lit,hw],hle,⟨rfl,rfl,rfl⟩,hK⟩
 ·exact hp.elim
end Go.Ab
namespace Go.Ab
variable [cM]
variable {P:Program} {nt:Nat} {ds:List Deferred} {s:St} {Γ:Cx} {a:Act} {w:World}
def Ht {o:Oper} {t u e:TypeId} {kn:IntKind} {i:TypeInfo} {z:Value} {zz:PV} {x y:Operand} {x' y':AX} {K:UD} (ho:o.op= .call {callee:= .builtin .append,args:= #[x,y],argTypes:= #[t,u]})
  (ht:P.underlying t=some (.slice e)) (hu:P.underlying u=some (.int kn)) (hi:P.info? e=some i) (hz:i.zero=some z) (Y4:zeroOf P e=some zz) (hzs:z.cells.size=i.size) (jh:0<i.size) (afH:z.cells.toList.all ew=true)
  (hx:eH x=some x') (hy:eH y=some y') (hs:fW nt ds s Γ a) (hw:w.heap=Γ.heap) (hd:∀k,o.dst=some k->k<nt) (he:ex s o.dst (.appendZ i.size i.bytes zz x' y') K):kS P nt ds o a w Γ K:=by
 simp only[ex]at he;obtain⟨p,hp,vJ⟩:=bR hx hs rfl he;obtain⟨q,hq,od⟩:=bR hy hs rfl hp;obtain⟨kv,m,hm,hA⟩:=eN hq od;obtain⟨zv,U0,hzr,DA,_,aIo⟩:=lp (Γ:=Γ) Y4;have YX:zz.width=i.size:=by rw[yG hi]at DA;exact(Option.some.inj DA).symm
 have aBS:zv=z:=by
  have h1:=U0 w;simp only[zeroValue,typeInfo,bJ]at h1;simp[hi,hz]at h1;exact h1.symm
 subst aBS;unfold pA at hA;split at hA
 ·exact hA.elim
 rename_i k hk;split at hA
 case h_2=>exact hA.elim
 rename_i k2 len aD bu n;split at hA
 case h_2=>exact hA.elim
 rename_i sz'' l hg;obtain⟨⟨jl,h1,h2,h3,hln,aBK,TX,dx,h5,h6⟩,hK⟩:=hA;subst h1 h2 h3;have kQ:=hg;rw[←hs.bx]at kQ;obtain⟨ad,bg,hv,cL⟩:=vJ.rs kQ rfl;obtain⟨mM,_,kP⟩:=hs.mem.blk k2 _ kQ;have hwt:∀x∈l.take len,x.width=i.size:=λx hx=>mM x (JaW hx);have JF:(l.take len).length=len:=by rw[lJ];omega
 have Jq:bg=n:=by
  unfold iD at cL;split at cL
  ·exact cL.2.2
  ·exact cL.2.2.1
 subst Jq;obtain⟨mn,rfl⟩:∃mn:Nat,m=mn:=⟨m.toNat,by omega⟩
 simp only[Int.toNat_natCast]at dx h5 h6 hK
 --the old cells
 obtain⟨cs,Fj,mL⟩:∃cs,aC Γ (l.take len) cs∧(0<len->∃b o,ad=some ⟨b,o,none⟩∧∀j x,cs[j]? =some x->cell Γ.heap b (o+j)=some x):=by
  unfold iD at cL;cases hι:Γ.ι k2 with
  |
   none=>
   rw[hι]at cL
   obtain⟨rfl,_,_⟩:=cL
   exact⟨[],by simpa using aC.nil,by simp⟩
  |
   some b=>
   rw[hι]at cL kP
   obtain⟨o1,o2,_,_⟩:=cL
   obtain⟨c,ce,cs,rest,h7,h8,h9,JC⟩:=kP
   refine⟨cs.take (len*i.size),h9.Hr mM len (by omega),λhp=> ?_⟩
   rcases o2 with o2|rfl
   ·omega
   refine⟨b,_,rfl,λj x hj=> ?_⟩
   have hb:=lE h7 cs rest h8
   have Ek:cs[j]? =some x:=by
    rw[List.getElem?_take]at hj;split at hj
    ·exact hj
    ·cases hj
   simpa[bU]using hb j x Ek
 have vL:cs.length=len*i.size:=by rw[Fj.length,bD hwt,JF]
 obtain⟨w',cap,r1,r2,r3,r4⟩:=yI (P:=P) (w:=w) (ty:=o.type) (kv:=kv) ht hu hi hz (ad:=ad) (sLen:=len) (sCap:=bg) (n:=mn) (olds:=cs)
  (.inl ⟨ad,bg,rfl,λjh=>by rw[hw];exact mL (by omega)⟩) vL (by omega) jh dx h6 h5
 rw[←hv,←hm]at r1
 have hzl:(Builtin.zeroCells zv.cells mn).toList=(List.replicate mn zv.cells.toList).flatten:=by
  have:=k8 zv.cells mn;simpa[Builtin.zeroCells]using this
 have hrz:=iS hzr mn;rw[←hzl]at hrz
 exact pB (cap:=cap) (l:=l.take len++List.replicate mn zz) (cs:=cs++(Builtin.zeroCells zv.cells mn).toList) (rest:=(Builtin.zeroCells zv.cells (cap-(len+mn))).toList) hs hw hk (hd k hk) jl jh (Fj.append hrz)
  (λx hx=>(JaX.1 hx).elim (hwt x) (λhx=>by rw[(JnV.1 hx).2];exact YX))
  (by simp only[JaV,JbX,rH,hzs,vL,←JgV];congr 1;omega)
  (by rw[JaV,JF,JkX];exact r2) (vO (by omega) afH)
  (by rw[JaV,JF,JkX];exact j1 ho r1) r3 r4
  (by rw[JaV,JF,JkX];exact hK)
end Go.Ab
