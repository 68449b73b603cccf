/- Each acting operation and each call does what its abstract reading says. No condition. -/
import Derived.Test.YtlcojgogfjlceaaGreatDoorA2
import Derived.Laws.Append
import Derived.Laws.IdiomStrings
import Derived.OrdersIn
import Derived.RangeFuncSeq
import Derived.RangeFuncLeaves
import Derived.RangeFuncRecord
import Derived.MapKept
set_option linter.all false
namespace Go.Ab
variable [cL]
variable {P:Program} {nt:Nat} {ds:List Deferred} {s:St} {Γ:Cx} {a:Act} {w:World}
structure WF (w w':World):Prop where
 os:w'.os=w.os
 tape:w'.tape=w.tape
 output:w'.output=w.output
theorem WF.refl (w:World):WF w w:=⟨rfl,rfl,rfl⟩
theorem WF.trans {a b c:World} (h:WF a b) (k:WF b c):WF a c:=⟨k.os.trans h.os,k.tape.trans h.tape,k.output.trans h.output⟩
theorem aL.qd {Γ Γ':Cx} (hle:OO Γ Γ'):∀ {p:PV} {v:Value},aL Γ p v->aL Γ' p v:=by
 have h1:∀ {p:PV} {v:Value},gP Γ p v->gP Γ' p v:=by
  intro p v h;cases p
  case un=>trivial
  case st w l=>obtain⟨cs,h1,h2⟩:=h;exact⟨cs,h1,h2.qd hle⟩
  case ar sz n l=>obtain⟨cs,h1,h2⟩:=h;exact⟨cs,h1,h2.qd hle⟩
  all_goals exact aD.qd hle h
 have h2:∀ {l:List PV} {vs:List Value},kO Γ l vs->kO Γ' l vs:=by
  intro l;induction l with
  |nil=>intro vs h;cases vs<;>simp_all [kO]
  |
   cons p l ih=>
   intro vs h
   cases vs with
   |nil=>simp[kO]at h
   |cons v vs=>simp only[kO]at h⊢;exact⟨h1 h.1,ih h.2⟩
 intro p;induction p using PV.rec (motive_2:=λ_=>True)with
 |gd b p ih=>intro v h;rw[aL]at h⊢;exact⟨λhb=>ih (h.1 hb),h.2⟩
 |tup l=>intro v h;simp only[aL]at h⊢;obtain⟨vs,e,h⟩:=h;exact⟨vs,e,h2 h⟩
 |un=>intro v h;simp[aL]
 |st w l=>intro v h;obtain⟨cs,e,h⟩:=h;exact⟨cs,e,h.qd hle⟩
 |ar sz n l=>intro v h;obtain⟨cs,e,h⟩:=h;exact⟨cs,e,h.qd hle⟩
 |nil=>trivial
 |cons=>trivial
 |_=>intro v h;exact aD.qd hle h
theorem aV.xM.qd {Γ Γ':Cx} (hle:OO Γ Γ') {ob:Option Nat} {blk:aV} (hh:∀b,ob=some b->Γ'.heap[b]? =Γ.heap[b]?) (h:blk.xM Γ ob):blk.xM Γ' ob:=by
 cases blk with
 |
  box v=>
  obtain⟨b,c,e,h1,h2,h3⟩:=h
  exact⟨b,c,e,h1,by rw[hh b h1];exact h2,h3.qd hle⟩
 |
  arr sz l=>
  obtain⟨h1,h2,h3⟩:=h
  refine⟨h1,h2,?_⟩
  cases ob with
  |none=>exact h3
  |
   some b=>
   obtain⟨c,e,cs,rest,h4,h5,h6,h7⟩:=h3
   exact⟨c,e,cs,rest,by rw[hh b rfl];exact h4,h5,h6.qd hle,h7⟩
 |
  map b ks vs l=>
  obtain⟨h1,h2⟩:=h
  exact⟨h1,by rw[hh b h1];exact h2⟩
theorem aL.mono {Γ Γ':Cx} (hle:Le Γ Γ') {p:PV} {v:Value} (h:aL Γ p v):aL Γ' p v:=h.qd hle.c
theorem aV.xM.mono {Γ Γ':Cx} (hle:Le Γ Γ') {ob:Option Nat} {blk:aV} (hh:∀b,ob=some b->Γ'.heap[b]? =Γ.heap[b]?) (h:blk.xM Γ ob):blk.xM Γ' ob:=h.qd hle.c hh
theorem bN {h:Array Obj} {b:Nat} {o:Obj} (e:h[b]? =some o):b<h.size:=(Array.getElem?_eq_some_iff.1 e).1
theorem aV.xM.lt {blk:aV} {b:Nat} (h:blk.xM Γ (some b)):b<Γ.heap.size:=by
 cases blk with
 |box v=>obtain⟨b',c,e,h1,h2,h3⟩:=h;cases h1;exact bN h2
 |arr sz l=>obtain⟨_,_,c,e,cs,rest,h4,_⟩:=h;exact bN h4
 |map b0 ks vs l=>obtain⟨h1,es,clock,h2,_⟩:=h;cases h1;exact bN h2
theorem Mem.lt (hm:Mem Γ) {b:Nat} (h:Γ.gn b):b<Γ.heap.size:=by
 obtain⟨k,blk,hg,hb⟩:=h;have:=hm.blk k blk hg;rw[hb]at this;exact this.lt
theorem Mem.Aw (hm:Mem Γ):¬Γ.own Γ.heap.size:=by
 rintro(h|h)
 ·exact JtV _ (hm.lt h)
 ·exact JtV _ (hm.bX _ h)
def Cx.push (Γ:Cx) (o:Obj):Cx:= {Γ with heap:=Γ.heap.push o}
def Cx.ext (Γ:Cx) (o:Obj) (k:Nat) (blk:aV):Cx:=
 {heap:=Γ.heap.push o,ι:=λi=>if i=k then some Γ.heap.size else Γ.ι i,bx:=put Γ.bx k blk,bX:=Γ.bX}
def Cx.mK (Γ:Cx) (k:Nat) (blk:aV):Cx:=
 {Γ with ι:=λi=>if i=k then none else Γ.ι i,bx:=put Γ.bx k blk}
theorem mU (h:Array Obj) (o:Obj) {b:Nat} (hb:b<h.size):(h.push o)[b]? =h[b]? :=by
 rw[Array.getElem?_push,if_neg (by omega)]
theorem xT (Γ:Cx) (o:Obj):Le Γ (Γ.push o) where
 heap b hb _:=mU _ _ hb
 gn b _ h:=h
 bX:=rfl
 size:=by simp[Cx.push]
 ref k blk h:=⟨blk,h,JaQ _,λ_=>⟨rfl,λb _ cs e hc=>⟨cs,by rw[←hc];exact mU _ _ (bN hc),rfl⟩⟩⟩
theorem zg (Γ:Cx) (o:Obj) {k:Nat} (blk:aV) (hk:get Γ.bx k=none):Le Γ (Γ.ext o k blk) where
 heap b hb _:=mU _ _ hb
 gn b hb h:=by
  obtain⟨i,bl,hg,hi⟩:=h;simp only[Cx.ext]at hg hi;by_cases fV:i=k
  ·subst fV;simp at hi;omega
  ·rw[if_neg fV]at hi;rw[bp _ _ _ _ (λh=>fV h.symm)]at hg;exact⟨i,bl,hg,hi⟩
 bX:=rfl
 size:=by simp[Cx.ext]
 ref i bl h:=by
  have fV:i≠k:=by intro h';subst h';rw[hk]at h;simp at h
  refine⟨bl,by simp only[Cx.ext];rw[bp _ _ _ _ (λh=>fV h.symm)];exact h,JaQ _,λ_=>⟨by simp[Cx.ext,fV],λb _ cs e hc=>⟨cs,by rw[←hc];exact mU _ _ (bN hc),rfl⟩⟩⟩
theorem vN (Γ:Cx) {k:Nat} (blk:aV) (hk:get Γ.bx k=none):Le Γ (Γ.mK k blk) where
 heap b hb _:=rfl
 gn b hb h:=by
  obtain⟨i,bl,hg,hi⟩:=h;simp only[Cx.mK]at hg hi;by_cases fV:i=k
  ·subst fV;simp at hi
  ·rw[if_neg fV]at hi;rw[bp _ _ _ _ (λh=>fV h.symm)]at hg;exact⟨i,bl,hg,hi⟩
 bX:=rfl
 size:=JaQ _
 ref i bl h:=by
  have fV:i≠k:=by intro h';subst h';rw[hk]at h;simp at h
  exact⟨bl,by simp only[Cx.mK];rw[bp _ _ _ _ (λh=>fV h.symm)];exact h,JaQ _,λ_=>⟨by simp[Cx.mK,fV],λb _ cs e hc=>⟨cs,hc,rfl⟩⟩⟩
theorem Mem.ll {Γ Γ':Cx} (hm:Mem Γ) (hl:Le Γ Γ') (b:Nat) (cs:Array Value) (h:cL.xN b=some cs):¬Γ'.gn b∧∃e x,Γ'.heap[b]? =some (.cells cs e x):=by
 obtain⟨h1,e,x,h2⟩:=hm.xN b cs h;refine⟨λhb=>h1 (hl.gn b (bN h2) hb),e,x,?_⟩;rw[hl.heap b (bN h2) h1];exact h2
theorem mem_push (hm:Mem Γ) (o:Obj):Mem (Γ.push o) where
 blk k blk h:=by
  have:=hm.blk k blk h
  exact this.mono (xT Γ o) (λb hb=>by
   rw[show(Γ.push o).ι k=Γ.ι k from rfl]at hb;rw[hb]at this;exact mU _ _ this.lt)
 inj:=hm.inj
 bX b h:=by have:=hm.bX b h;simp only[Cx.push,Array.size_push];omega
 apart:=hm.apart
 xN:=hm.ll (xT Γ o)
theorem FJ (hm:Mem Γ) {o:Obj} {k:Nat} {blk:aV} (hk:get Γ.bx k=none) (hr:blk.xM (Γ.ext o k blk) (some Γ.heap.size)):Mem (Γ.ext o k blk) where
 blk i bl h:=by
  by_cases fV:i=k
  ·subst fV;simp only[Cx.ext,bG,sJ]at h;subst h;have:(Γ.ext o i blk).ι i=some Γ.heap.size:=by simp[Cx.ext]
   rw[this];exact hr
  ·simp only[Cx.ext]at h;rw[bp _ _ _ _ (λh=>fV h.symm)]at h;have:=hm.blk i bl h;have e:(Γ.ext o k blk).ι i=Γ.ι i:=by simp[Cx.ext,fV]
   rw[e];exact this.mono (zg Γ o blk hk) (λb hb=>by rw[hb]at this;exact mU _ _ this.lt)
 inj i j b hi hj h1 h2:=by
  simp only[Cx.ext,eF]at hi hj h1 h2;by_cases fV:i=k<;>by_cases y5:j=k
  ·rw[fV,y5]
  ·rw[if_pos fV]at h1;rw[if_neg y5]at h2;rw[if_neg (λh=>y5 h.symm)]at hj;obtain⟨bl,ue⟩:=JaW.1 hj;have:=hm.lt ⟨j,bl,ue,h2⟩;simp at h1;omega
  ·rw[if_neg fV]at h1;rw[if_pos y5]at h2;rw[if_neg (λh=>fV h.symm)]at hi;obtain⟨bl,ue⟩:=JaW.1 hi;have:=hm.lt ⟨i,bl,ue,h1⟩;simp at h2;omega
  ·rw[if_neg fV]at h1;rw[if_neg y5]at h2;rw[if_neg (λh=>fV h.symm)]at hi;rw[if_neg (λh=>y5 h.symm)]at hj;exact hm.inj i j b hi hj h1 h2
 bX b h:=by have:=hm.bX b h;simp only[Cx.ext,Array.size_push];omega
 apart b h hp:=by
  have dq:=hm.bX b hp;exact hm.apart b ((zg Γ o blk hk).gn b dq h) hp
 xN:=hm.ll (zg Γ o blk hk)
theorem Cl (hm:Mem Γ) {k:Nat} {blk:aV} (hk:get Γ.bx k=none) (hr:blk.xM (Γ.mK k blk) none):Mem (Γ.mK k blk) where
 blk i bl h:=by
  by_cases fV:i=k
  ·subst fV;simp only[Cx.mK,bG,sJ]at h;subst h;have:(Γ.mK i blk).ι i=none:=by simp[Cx.mK]
   rw[this];exact hr
  ·simp only[Cx.mK]at h;rw[bp _ _ _ _ (λh=>fV h.symm)]at h;have:=hm.blk i bl h;have e:(Γ.mK k blk).ι i=Γ.ι i:=by simp[Cx.mK,fV]
   rw[e];exact this.mono (vN Γ blk hk) (λb hb=>rfl)
 inj i j b hi hj h1 h2:=by
  simp only[Cx.mK,eF]at hi hj h1 h2;by_cases fV:i=k
  ·rw[if_pos fV]at h1;simp at h1
  ·by_cases y5:j=k
   ·rw[if_pos y5]at h2;simp at h2
   ·rw[if_neg fV]at h1;rw[if_neg y5]at h2;rw[if_neg (λh=>fV h.symm)]at hi;rw[if_neg (λh=>y5 h.symm)]at hj;exact hm.inj i j b hi hj h1 h2
 bX b h:=hm.bX b h
 apart b h hp:=by
  have dq:=hm.bX b hp;exact hm.apart b ((vN Γ blk hk).gn b dq h) hp
 xN:=hm.ll (vN Γ blk hk)
def Cx.gx (Γ:Cx) (b:Nat) (o:Obj) (k:Nat) (blk:aV):Cx:=
 {Γ with heap:=Γ.heap.setIfInBounds b o,bx:=put Γ.bx k blk}
theorem mV {k b:Nat} {blk bn:aV} {c c':Array Value} {e:TypeId} (hg:get Γ.bx k=some blk) (hb:Γ.ι k=some b) (hc:Γ.heap[b]? =some (.cells c e (0,0))) (hs:c'.size=c.size) (ht:blk.aO≤bn.aO):
  Le Γ (Γ.gx b (.cells c' e (0,0)) k bn) where
 heap b' tc cI:=by
  have:b≠b':=by intro h;subst h;exact cI ⟨k,blk,hg,hb⟩
  simp only[Cx.gx];rw[Array.getElem?_setIfInBounds_ne this]
 gn b' tc h:=by
  obtain⟨i,bl,Sg,hi⟩:=h;simp only[Cx.gx,eF]at Sg hi;by_cases fV:k=i
  ·subst fV;exact⟨k,blk,hg,hi⟩
  ·rw[if_neg fV]at Sg;exact⟨i,bl,Sg,hi⟩
 bX:=rfl
 size:=by simp[Cx.gx]
 ref i bl h:=by
  have keep:∀b2,Γ.ι i=some b2->∀cs e',Γ.heap[b2]? =some (.cells cs e' (0,0))->∃DQ,(Γ.gx b (.cells c' e (0,0)) k bn).heap[b2]? =some (.cells DQ e' (0,0))∧DQ.size=cs.size:=by
   intro b2 A9 cs e' D2;by_cases Ft:b=b2
   ·subst Ft;rw[hc]at D2;simp only[sJ,Obj.cells.injEq]at D2;obtain⟨rfl,rfl,_⟩:=D2;exact⟨c',by simp only[Cx.gx];rw[uJ (bN hc)],hs⟩
   ·exact⟨cs,by simp only[Cx.gx];rw[Array.getElem?_setIfInBounds_ne Ft];exact D2,rfl⟩
  by_cases fV:k=i
  ·subst fV;rw[hg]at h;cases h;exact⟨bn,by simp[Cx.gx,bG],ht,λ_=>⟨rfl,keep⟩⟩
  ·exact⟨bl,by simp only[Cx.gx];rw[bp _ _ _ _ fV];exact h,JaQ _,λ_=>⟨rfl,keep⟩⟩
theorem pD (hm:Mem Γ) {k b:Nat} {blk bn:aV} {c c':Array Value} {e:TypeId} (hg:get Γ.bx k=some blk) (hb:Γ.ι k=some b) (hc:Γ.heap[b]? =some (.cells c e (0,0))) (hs:c'.size=c.size) (ht:blk.aO≤bn.aO)
  (hr:bn.xM (Γ.gx b (.cells c' e (0,0)) k bn) (some b)):Mem (Γ.gx b (.cells c' e (0,0)) k bn) where
 blk i bl h:=by
  by_cases fV:k=i
  ·subst fV;simp only[Cx.gx,bG,sJ]at h;subst h;have:(Γ.gx b (.cells c' e (0,0)) k bn).ι k=some b:=hb;rw[this];exact hr
  ·simp only[Cx.gx]at h;rw[bp _ _ _ _ fV]at h;have:=hm.blk i bl h
   exact this.mono (mV hg hb hc hs ht) (λb2 A9=>by
    have cI:b≠b2:=by
     intro h';subst h';exact fV (hm.inj k i b (by simp[hg]) (by simp[h]) hb A9)
    simp only[Cx.gx];rw[Array.getElem?_setIfInBounds_ne cI])
 inj i j b2 hi hj h1 h2:=by
  refine hm.inj i j b2 ?_ ?_ h1 h2
  ·simp only[Cx.gx,eF]at hi;split at hi
   ·subst_vars;simp[hg]
   ·exact hi
  ·simp only[Cx.gx,eF]at hj;split at hj
   ·subst_vars;simp[hg]
   ·exact hj
 bX b2 h:=by have:=hm.bX b2 h;simpa[Cx.gx]using this
 apart b2 h hp:=hm.apart b2 ((mV hg hb hc hs ht).gn b2 (hm.bX b2 hp) h) hp
 xN:=hm.ll (mV hg hb hc hs ht)
end Go.Ab
namespace Go.Ab
variable [cL]
variable {P:Program} {nt:Nat} {ds:List Deferred} {s:St} {Γ:Cx} {a:Act} {w:World}
theorem Ji (v:Value):v.oneCell'=eK v:=by cases v<;>rfl
theorem FK {b o:Nat} {c:Array Value} {e:TypeId} {v:Value} (h:w.heap[b]? =some (.cells c e (0,0))):
  (w.setCell ⟨b,o,none⟩ v).heap=w.heap.setIfInBounds b (.cells (c.setIfInBounds o v) e (0,0)):=by
 have hb:=bN h;have he:w.heap[b]= .cells c e (0,0):=(Array.getElem?_eq_some_iff.1 h).2;simp only[World.setCell];apply Array.ext
 ·simp
 ·intro i h1 h2;rw[Array.getElem_modify,JnZ];split
  ·subst_vars;simp[he]
  ·rfl
theorem WF.setCell (w:World) (ad:Addr) (v:Value):WF w (w.setCell ad v):=⟨rfl,rfl,rfl⟩
theorem FL {b o:Nat} {c:Array Value} {e:TypeId} {v:Value} (h:w.heap[b]? =some (.cells c e (0,0))) (ho:o<c.size) (hv:eK v=true):
  (store ⟨b,o,none⟩ v).run P w= .ok () (w.setCell ⟨b,o,none⟩ v):=by
 rw[run_store P w _ v _ (by rw[Ji];exact hv)];rw[cell?_eq];simp[cell,h,ho,World.frozen?]
theorem ka:∀(vs:List Value) (w:World) (b o i:Nat) (c:Array Value) (e:TypeId),w.heap[b]? =some (.cells c e (0,0))->o+i+vs.length≤c.size->(∀v∈vs,eK v=true)->
  ∃w',(storeCells ⟨b,o,none⟩ vs i).run P w= .ok () w'∧w'.heap=w.heap.setIfInBounds b (.cells (bm c.toList (o+i) vs).toArray e (0,0))∧WF w w'
 |
  [],w,b,o,i,c,e,h,hl,hv=>by
  refine⟨w,rfl,?_,WF.refl w⟩
  have:(bm c.toList (o+i) []).toArray=c:=by simp[bm]
  rw[this]
  have he:w.heap[b]? =some (.cells c e (0,0)):=h
  apply Array.ext
  ·simp
  ·intro j h1 h2
   rw[JnZ]
   split
   ·subst_vars;exact(Array.getElem?_eq_some_iff.1 he).2
   ·rfl
 |
  v::vs,w,b,o,i,c,e,h,hl,hv=>by
  simp only[JcX]at hl
  have hb:=bN h
  have h1:=FL (P:=P) h (show o+i<c.size by omega) (hv v (by simp))
  have hh:=FK (v:=v) (o:=o+i) h
  have b9:(w.setCell ⟨b,o+i,none⟩ v).heap[b]? =some (.cells (c.setIfInBounds (o+i) v) e (0,0)):=by
   rw[hh,uJ hb]
  obtain⟨w',h2,h3,h4⟩:=ka vs (w.setCell ⟨b,o+i,none⟩ v) b o (i+1) (c.setIfInBounds (o+i) v) e b9 (by simp;omega) (λx hx=>hv x (by simp[hx]))
  refine⟨w',?_,?_,(WF.setCell w _ v).trans h4⟩
  ·simp only[storeCells,bJ,iN,h1,rJ]
   exact h2
  ·rw[h3,hh]
   have GW:bm (c.setIfInBounds (o+i) v).toList (o+(i+1)) vs=bm c.toList (o+i) (v::vs):=by
    rw[Array.toList_setIfInBounds];have dq:o+i<c.toList.length:=by simp;omega
    obtain⟨A,x,B,hA,nK⟩:∃A x B,A.length=o+i∧c.toList=A++x::B:=
     ⟨c.toList.take (o+i),c.toList[o+i],c.toList.drop (o+i+1),by rw[lJ];omega,by rw[JrV,JcQ]⟩
    rw[nK,←hA,JsZ (h:=JaQ _)];rw[show o+(i+1)=A.length+1 by omega];simp only[Nat.sub_self,JqX,bm,JcX];have e1:(A++v::B).take (A.length+1)=A++[v]:=by rw[List.take_append,tJ (by omega)];simp
    have e2:(A++v::B).drop (A.length+1+vs.length)=B.drop vs.length:=by
     rw[List.drop_append,List.drop_eq_nil_of_le (by omega),show A.length+1+vs.length-A.length=vs.length+1 by omega];simp
    have e3:(A++x::B).drop (A.length+(vs.length+1))=B.drop vs.length:=by
     rw[←JiW];simp
    rw[e1,e2,e3];simp
   rw[GW]
   simp
theorem FM {t:TypeId} {b o n:Nat} {c:Array Value} {e:TypeId} {v:Value} (h:w.heap[b]? =some (.cells c e (0,0))) (hn:gT P t=some n) (hs:v.cells.size=n) (ho:o+n≤c.size) (hv:∀x∈v.cells.toList,eK x=true):
  ∃w',(storeVar t ⟨b,o,none⟩ v).run P w= .ok () w'∧w'.heap=w.heap.setIfInBounds b (.cells (bm c.toList o v.cells.toList).toArray e (0,0))∧WF w w':=by
 obtain⟨w',h1,h2,h3⟩:=ka (P:=P) v.cells.toList w b o 0 c e h (by simp;omega) hv;refine⟨w',?_,by simpa using h2,h3⟩;simp only[storeVar,bJ,run_sizeOf hn,rJ];rw[if_neg (by simp[hs])];exact h1
def sA (w:World) (size n:Nat) (v:Value) (cs:List Value):Prop:=
 (∃ad rc,v= .slice ad n rc∧(0<n->∃b o,ad=some ⟨b,o,none⟩∧∀i c,cs[i]? =some c->cell w.heap b (o+i)=some c))∨
 (∃str,v= .string str∧n=str.size∧size=1∧cs=str.data.toList.map λb=> .int .u8 b.toNat)
theorem kb {size n:Nat} {v:Value} {cs:List Value} (h:sA w size n v cs) (hl:cs.length=n*size):(Builtin.firstCells size n v).run P w= .ok cs.toArray w:=by
 rcases h with⟨ad,rc,rfl,h⟩|⟨str,rfl,rfl,rfl,rfl⟩
 ·cases ad with
  |
   none=>
   have:n=0:=by
    rcases JnX n with h0|h0
    ·exact h0
    ·obtain⟨b,o,h1,_⟩:=h h0;simp at h1
   subst this
   have:cs=[]:=JdV (by simpa using hl)
   subst this;rfl
  |
   some ad=>
   simp only[Builtin.firstCells]
   rw[←hl]
   by_cases h0:0<n
   ·obtain⟨b,o,h1,h2⟩:=h h0
    simp only[sJ]at h1;subst h1
    exact run_loadCells_list w _ cs (λj v hj=>by rw[iN,cell?_eq];exact h2 j v hj)
   ·have:n=0:=by omega
    subst this
    have:cs=[]:=JdV (by simpa using hl)
    subst this;rfl
 ·simp only[Builtin.firstCells,JbW];congr 1;apply Array.ext';rw[JmW];congr 2;have:str.extract 0 str.size=str:=by simp
  rw[this]
theorem sB {size n:Nat} {v:Value} {cs:List Value} (h:sA w size n v cs):(Builtin.lenOf v).run P w= .ok n w:=by
 rcases h with⟨ad,rc,rfl,_⟩|⟨str,rfl,rfl,_⟩<;>rfl
theorem sC (z:Array Value) (n:Nat):(Builtin.zeroCells z n).size=n*z.size:=by simp[Builtin.zeroCells]
theorem sD {t u e:TypeId} {d:TypeDesc} {i:TypeInfo} {ty:TypeId} (ht:P.underlying t=some (.slice e)) (hu:P.underlying u=some d) (hd:(∃x,d= .slice x)∨d= .string) (hi:P.info? e=some i)
  {b o sLen sCap n:Nat} {y:Value} {news:List Value} {c:Array Value} {ce:TypeId} (hy:sA w i.size n y news) (hl:news.length=n*i.size) (h1:∀v∈news,eK v=true) (wX:sLen+n≤sCap)
  (hb:w.heap[b]? =some (.cells c ce (0,0))) (Bh:o+sLen*i.size+n*i.size≤c.size):
  ∃
   w',(Builtin.append_ #[t,u] ty #[.slice (some ⟨b,o,none⟩) sLen sCap,y]).run P w= .ok (.slice (some ⟨b,o,none⟩) (sLen+n) sCap) w'∧
   w'.heap=w.heap.setIfInBounds b (.cells (bm c.toList (o+sLen*i.size) news).toArray ce (0,0))∧WF w w':=by
 obtain⟨w',g1,g2,g3⟩:=ka (P:=P) news w b (o+sLen*i.size) 0 c ce hb (by omega) h1;refine⟨w',?_,by simpa using g2,g3⟩;have hf:=kb (P:=P) hy hl;have hlen:=sB (P:=P) hy;rcases hd with⟨x,rfl⟩|rfl
 ·simp[Builtin.append_,run_underlying ht,run_underlying hu,sizeOf,typeInfo,hi,hlen,wX,hf,iN,g1]
 ·simp[Builtin.append_,run_underlying ht,run_underlying hu,sizeOf,typeInfo,hi,hlen,wX,hf,iN,g1]
theorem nS {t u e:TypeId} {d:TypeDesc} {i:TypeInfo} {ty:TypeId} (ht:P.underlying t=some (.slice e)) (hu:P.underlying u=some d) (hd:(∃x,d= .slice x)∨d= .string) (hi:P.info? e=some i)
  {ad:Option Addr} {sLen sCap:Nat} {y:Value} (hy:sA w i.size 0 y []) (hle:sLen≤sCap):
  (Builtin.append_ #[t,u] ty #[.slice ad sLen sCap,y]).run P w= .ok (.slice ad sLen sCap) w:=by
 have hf:=kb (P:=P) hy (by simp);have hlen:=sB (P:=P) hy;rcases hd with⟨x,rfl⟩|rfl
 ·cases ad<;>simp[Builtin.append_,run_underlying ht,run_underlying hu,sizeOf,typeInfo,hi,hlen,hle,hf,storeCells]
 ·cases ad<;>simp[Builtin.append_,run_underlying ht,run_underlying hu,sizeOf,typeInfo,hi,hlen,hle,hf,storeCells]
theorem zh {t u e:TypeId} {d:TypeDesc} {i:TypeInfo} {z:Value} {ty:TypeId} (ht:P.underlying t=some (.slice e)) (hu:P.underlying u=some d) (hd:(∃x,d= .slice x)∨d= .string) (hi:P.info? e=some i) (hz:i.zero=some z)
  {ad:Option Addr} {sLen sCap n:Nat} {y:Value} {olds news:List Value} (hs:sA w i.size sLen (.slice ad sLen sCap) olds) (hlo:olds.length=sLen*i.size)
  (hy:sA w i.size n y news) (hl:news.length=n*i.size) (hg:sCap<sLen+n) (h63:sLen+n≤9223372036854775807) (GX:(sLen+n)*i.bytes≤140737488355328):
  ∃
   w' cap,(Builtin.append_ #[t,u] ty #[.slice ad sLen sCap,y]).run P w= .ok (.slice (some ⟨w.heap.size,0,none⟩) (sLen+n) cap) w'∧sLen+n≤cap∧
   w'.heap=w.heap.push (.cells (olds++news++(Builtin.zeroCells z.cells (cap-(sLen+n))).toList).toArray e (0,0))∧WF w w':=by
 have hn:¬(sLen+n≤sCap):=by omega
 have Xl:¬(9223372036854775807<((sLen:Int)+(n:Int))):=by omega
 have Xm:¬(281474976710656<Builtin.nextslicecap (sLen+n) sCap*i.bytes):=by have:=growslice_fits hg GX;omega
 have Bt:sA w.drew i.size sLen (.slice ad sLen sCap) olds:=hs;have hy':sA w.drew i.size n y news:=hy;have hfo:=kb (P:=P) Bt hlo;have hf:=kb (P:=P) hy' hl;have hlen:=sB (P:=P) hy;refine⟨w.drew.alloc (.cells (olds++news++(Builtin.zeroCells z.cells (grownCap w (sLen+n) sCap e-(sLen+n))).toList).toArray e),grownCap w (sLen+n) sCap e,?_,grownCap_ge w _ _ _,rfl,⟨rfl,rfl,rfl⟩⟩;rcases hd with⟨x,rfl⟩|rfl
 ·simp[Builtin.append_,run_underlying ht,run_underlying hu,sizeOf,typeInfo,zeroValue,hi,hz,hlen,hn,Xl,Xm,Question.forced,hf,hfo,newRow,grownCap];congr 2;apply Array.ext';simp
 ·simp[Builtin.append_,run_underlying ht,run_underlying hu,sizeOf,typeInfo,zeroValue,hi,hz,hlen,hn,Xl,Xm,Question.forced,hf,hfo,newRow,grownCap];congr 2;apply Array.ext';simp
theorem zi {t u e:TypeId} {kn kv:IntKind} {i:TypeInfo} {z:Value} {ty:TypeId} (ht:P.underlying t=some (.slice e)) (hu:P.underlying u=some (.int kn)) (hi:P.info? e=some i) (hz:i.zero=some z)
  {ad:Option Addr} {sLen sCap n:Nat} {olds:List Value} (hs:sA w i.size sLen (.slice ad sLen sCap) olds) (hlo:olds.length=sLen*i.size) (h0:0<n) (j6:0<i.size)
  (hg:sCap<sLen+n) (h63:sLen+n≤9223372036854775807) (GX:(sLen+n)*i.bytes≤140737488355328):
  ∃
   w' cap,(Builtin.append_ #[t,u] ty #[.slice ad sLen sCap,.int kv n]).run P w= .ok (.slice (some ⟨w.heap.size,0,none⟩) (sLen+n) cap) w'∧sLen+n≤cap∧
   w'.heap=w.heap.push (.cells (olds++(Builtin.zeroCells z.cells n).toList++(Builtin.zeroCells z.cells (cap-(sLen+n))).toList).toArray e (0,0))∧WF w w':=by
 have hn:¬(sLen+n≤sCap):=by omega
 have Xl:¬(9223372036854775807<((sLen:Int)+(n:Int))):=by omega
 have Xm:¬(281474976710656<Builtin.nextslicecap (sLen+n) sCap*i.bytes):=by have:=growslice_fits hg GX;omega
 have avm:¬(281474976710656<(n:Int)*(i.bytes:Int)):=by
  rw[←JqZ];have:n*i.bytes≤(sLen+n)*i.bytes:=JcV _ (by omega);omega
 have hw:IntKind.i64.wrap (n:Int)=n:=by rw[IntKind.wrap_i64];omega
 have avn:¬((n:Int)<0):=by omega
 have Ti:¬(n*i.size=0):=Nat.mul_ne_zero (by omega) (by omega);have Bt:sA w.drew i.size sLen (.slice ad sLen sCap) olds:=hs;have hfo:=kb (P:=P) Bt hlo;refine⟨w.drew.alloc (.cells (olds++(Builtin.zeroCells z.cells n).toList++(Builtin.zeroCells z.cells (grownCap w (sLen+n) sCap e-(sLen+n))).toList).toArray e),grownCap w (sLen+n) sCap e,?_,grownCap_ge w _ _ _,rfl,⟨rfl,rfl,rfl⟩⟩;simp[Builtin.append_,run_underlying ht,run_underlying hu,sizeOf,typeInfo,zeroValue,hi,hz,asInt,asIntOf,hw,hn,avn,Ti,Xl,Xm,avm,Question.forced,hfo,newRow,grownCap];congr 2;apply Array.ext';simp
theorem EE {t u e:TypeId} {ty:TypeId} {sz:Nat} (ht:P.underlying t=some (.slice e)) (fH:gT P e=some sz)
  {b o dLen dCap n:Nat} {y:Value} {news:List Value} {c:Array Value} {ce:TypeId} {ysz:Nat} (hy:sA w sz ysz y news) (hl:news.length=ysz*sz) (hn:n=min ysz dLen) (h1:∀v∈news,eK v=true)
  (hb:w.heap[b]? =some (.cells c ce (0,0))) (Bh:o+n*sz≤c.size):
  ∃
   w',(Builtin.copy_ #[t,u] ty #[.slice (some ⟨b,o,none⟩) dLen dCap,y]).run P w= .ok (.int .i64 n) w'∧
   w'.heap=w.heap.setIfInBounds b (.cells (bm c.toList o (news.take (n*sz))).toArray ce (0,0))∧WF w w':=by
 have dq:(news.take (n*sz)).length=n*sz:=by
  rw[lJ,hl];exact JdW (JcV _ (by omega))
 obtain⟨w',g1,g2,g3⟩:=ka (P:=P) (news.take (n*sz)) w b o 0 c ce hb (by omega) (λv hv=>h1 v (JbX hv));refine⟨w',?_,by simpa using g2,g3⟩;have hlen:=sB (P:=P) hy
 have hf:(Builtin.firstCells sz n y).run P w= .ok (news.take (n*sz)).toArray w:=by
  rcases hy with⟨ad,rc,rfl,h⟩|⟨str,rfl,h2,rfl,rfl⟩
  ·by_cases h0:0<n
   ·obtain⟨b',o',h3,h4⟩:=h (by omega);subst h3;simp only[Builtin.firstCells]
    have:=run_loadCells_list (P:=P) w ⟨b',o',none⟩ (news.take (n*sz)) (λj v hj=>by
     rw[iN,cell?_eq];rw[List.getElem?_take]at hj;split at hj
     ·exact h4 j v hj
     ·simp at hj)
    rw[dq]at this;exact this
   ·have:n=0:=by omega
    rw[this];cases ad<;>simp[Builtin.firstCells,loadCells,loadCellsFrom]
  ·simp only[Builtin.firstCells,JbW];congr 1;apply Array.ext';rw[JmW];simp[ByteArray.data_extract]
 have Of:Nat.min ysz dLen=n:=hn.symm;simp[Builtin.copy_,run_underlying ht,run_sizeOf fH,hlen,Of,hf,g1,goInt]
end Go.Ab
namespace Go.Ab
variable [cL]
variable {P:Program} {nt:Nat} {ds:List Deferred} {s:St} {Γ:Cx} {a:Act} {w:World}
def St.put (s:St) (d:Option Nat) (p:PV):St:=
 match d with
 |some d=> {s with env:=Ab.put s.env d p}
 |none=>s
mutual
def wk:PV->PV
 | .sl sz l _=> .sl sz (fI l) false
 | .st w l=> .st w (fI l)
 | .ar z n l=> .ar z n (fI l)
 | .tup l=> .tup (fI l)
 |p=>p
def fI:List PV->List PV
 |[]=>[]
 |p::l=>wk p::fI l
end
def wkb:aV->PV->PV
 | .arr _ _,v=>wk v
 | .box _,v=>v
 | .map ..,v=>v
def u8 (b:UInt8):PV:= .int .u8 b.toNat
def fW (s:St) (d:Option Nat) (sz bytes:Nat) (p:PV) (ys:List PV) (K:St->Prop):Prop:=
 match d with
 |none=>False
 |
  some d=>match p with
  | .sl sz0 l true=>(get s.bx d=none∧(l=[]∨(sz0=sz∧ys≠[]))∧(l.length+ys.length)*bytes≤140737488355328∧l.length+ys.length≤9223372036854775807)∧
    K {env:=put s.env d (.rs d [] 0 (l.length+ys.length) (l.length+ys.length) sz .tip),bx:=put s.bx d (.arr sz (l++ys))}
  |
   .rs k [] 0 len aO bP .tip=>(match get s.bx k with
   |
    some (.arr sz'' l)=>(aO=l.length∧len=l.length∧bP=sz∧sz''=sz∧(l.length+ys.length)*bytes≤140737488355328∧l.length+ys.length≤9223372036854775807)∧
    K {env:=put s.env d (.rs k [] 0 (l.length+ys.length) (l.length+ys.length) sz .tip),bx:=put s.bx k (.arr sz (l++ys))}
   |_=>False)
  |
   .rs k [] 0 len aO bP (.full n)=>(match get s.bx k with
   |
    some (.arr sz'' l)=>(aO=l.length∧bP=sz∧sz''=sz∧len≤n∧n≤l.length∧ys≠[]∧get s.bx d=none∧(len+ys.length)*bytes≤140737488355328∧len+ys.length≤9223372036854775807)∧
    (len+ys.length≤n->K {env:=put s.env d (.rs k [] 0 (len+ys.length) aO sz (.full n)),bx:=put s.bx k (.arr sz (l.take len++ys++l.drop (len+ys.length)))})∧
    (n<len+ys.length->K {env:=put s.env d (.rs d [] 0 (len+ys.length) (len+ys.length) sz .tip),bx:=put s.bx d (.arr sz (l.take len++ys))})
   |_=>False)
  | .rs k p off len aO bP .clip=>content s (.rs k p off len aO bP .clip) λsz'' l=>(get s.bx d=none∧sz''=sz∧ys≠[]∧(l.length+ys.length)*bytes≤140737488355328∧l.length+ys.length≤9223372036854775807)∧
    K {env:=put s.env d (.rs d [] 0 (l.length+ys.length) (l.length+ys.length) sz .tip),bx:=put s.bx d (.arr sz (l++ys))}
  |_=>False
def qf (s:St) (d:Option Nat) (sz bytes:Nat) (z p:PV) (m:Int) (K:St->Prop):Prop:=
 match d with
 |none=>False
 |
  some d=>match p with
  |
   .rs k [] 0 len aO bP (.full n)=>(match get s.bx k with
   |
    some (.arr sz'' l)=>(get s.bx d=none∧aO=l.length∧bP=sz∧sz''=sz∧len≤n∧n≤l.length∧0<m∧n<len+m.toNat∧(len+m.toNat)*bytes≤140737488355328∧len+m.toNat≤9223372036854775807)∧
    K {env:=put s.env d (.rs d [] 0 (len+m.toNat) (len+m.toNat) sz .tip),bx:=put s.bx d (.arr sz (l.take len++List.replicate m.toNat z))}
   |_=>False)
  |_=>False
def src (s:St) (str:Bool) (sz:Nat) (q:PV) (K:List PV->Prop):Prop:=
 if str then(match q with| .str bs=>sz=1∧K (bs.map u8)|_=>False)
 else content s q λbP ys=>(ys=[]∨bP=sz)∧K ys
def ke (s:St) (d:Option Nat) (sz:Nat) (p:PV) (ys:List PV) (K:St->Prop):Prop:=
 match p with
 |
  .rs k pth off len aO bP _=>(match get s.bx k with
  |some (.arr sz'' l)=>(aO=l.length∧pth=[]∧bP=sz∧sz''=sz∧off+len≤l.length)∧
    K ({s with bx:=put s.bx k (.arr sz (l.take off++ys.take (min ys.length len)++l.drop (off+min ys.length len)))}.put d (.int .i64 (min ys.length len:Nat)))
  |
   some (.box v)=>(match aM v pth with
   |
    some (.ar sz'' n l)=>(match bT v pth (.ar sz'' n (l.take off++ys.take (min ys.length len)++l.drop (off+min ys.length len)))with
    |some v'=>(aO=0∧bP=sz∧sz''=sz∧off+len≤n)∧K ({s with bx:=put s.bx k (.box v')}.put d (.int .i64 (min ys.length len:Nat)))
    |none=>False)
   |_=>False)
  |_=>False)
 |_=>False
def O1 (s:St) (d:Option Nat) (sz:Nat) (z p:PV) (K:St->Prop):Prop:=
 d=none∧match p with
 | .rs k pth off len aO bP c=>ke s none sz (.rs k pth off len aO bP c) (List.replicate len z) K
 |_=>False
def Ax (p:PV):List (PV×PV)->Option PV
 |[]=>none
 |(k,v)::r=>if PV.beq p k=true then some v else Ax p r
def wA (p v:PV):List (PV×PV)->List (PV×PV)
 |[]=>[(p,v)]
 |(k,w)::r=>if PV.beq p k=true then(p,v)::r else(k,w)::wA p v r
def ex (s:St) (d:Option Nat):AK->(St->Prop)->Prop
 |
  .alloc z,K=>(match d with
  |some k=>get s.bx k=none∧K {env:=put s.env k (.pt k [] 0),bx:=put s.bx k (.box z)}
  |none=>False)
 |
  .box x,K=>(match d with
  |some k=>vg true s x λp=>(get s.bx k=none∧p.aT=true)∧K {env:=put s.env k (.pt k [] 0),bx:=put s.bx k (.box p)}
  |none=>False)
 |
  .buildSlice own sz z n parts,K=>Cf true s parts λps=>(match cr (List.replicate n z) (ps.map λx=>(x.1,wk x.2))with
  |some l=>if own=true then(match d with
    |some k=>get s.bx k=none∧K {env:=put s.env k (.rs k [] 0 n n sz .tip),bx:=put s.bx k (.arr sz l)}
    |none=>False)else K (s.put d (.sl sz l true))
  |none=>False)
 |
  .makeSlice sz bytes z len cap,K=>vg true s len λp=>pC p λl=>vg true s cap λq=>pC q λc=>
  (match d with
  |some k=>(get s.bx k=none∧0≤l∧l≤c∧c*bytes≤281474976710656∧c≤9223372036854775807)∧
    K {env:=put s.env k (.rs k [] 0 l.toNat l.toNat sz .tip),bx:=put s.bx k (.arr sz (List.replicate l.toNat z))}
  |none=>False)
 |
  .store n x y,K=>vg true s x λp=>vg true s y λv=>(match p with
  |
   .pt k pth aO=>(match get s.bx k with
   |
    some blk=>(match uP blk pth (wkb blk v)with
    |some bn=>(aO=blk.aO∧v.width=n∧v.aT=true)∧K {s with bx:=put s.bx k bn}
    |none=>False)
   |none=>False)
  |_=>False)
 |
  .isNil ng x,K=>vg true s x λp=>(match p with
  | .sl _ l _=>∀b:Bool,(b=true->l=[])->K (s.put d (.bl (b !=ng)))
  | .rs k _ _ len aO _ _=>(match get s.bx k with|some blk=>aO=blk.aO∧∀b:Bool,(b=true->len=0)->K (s.put d (.bl (b !=ng)))|none=>False)
  |_=>False)
 | .append sz bytes str x y,K=>vg true s x λp=>vg true s y λq=>src s str sz q λys=>fW s d sz bytes p ys K
 | .appendZ sz bytes z x y,K=>vg true s x λp=>vg true s y λq=>pC q λm=>qf s d sz bytes z p m K
 |
  .copy sz x y,K=>vg true s x λp=>vg true s y λq=>(match q with
  | .str _=>src s true sz q λys=>ke s d sz p ys K
  |_=>src s false sz q λys=>ke s d sz p ys K)
 | .fill sz z x,K=>vg true s x λp=>O1 s d sz z p K
 |
  .mkMap ks vs,K=>(match d with
  |some k=>get s.bx k=none∧∀b:Nat,K {env:=put s.env k (.mp k b),bx:=put s.bx k (.map b ks vs [])}
  |none=>False)
 |
  .mapGet ks vs z ok m x,K=>vg true s m λpm=>vg true s x λp=>(match pm with
  |
   .mp k b=>(match get s.bx k with
   |some (.map b' BZ D3 l)=>(b'=b∧BZ=ks∧D3=vs∧fits ks p=true)∧K (s.put d (if ok=true then .tup [(Ax p l).getD z,.bl (Ax p l).isSome]else(Ax p l).getD z))
   |_=>False)
  |_=>False)
 |
  .mapSet ks vs m x y,K=>vg true s m λpm=>vg true s x λp=>vg true s y λv=>(match pm with
  |
   .mp k b=>(match get s.bx k with
   |some (.map b' BZ D3 l)=>(d=none∧b'=b∧BZ=ks∧D3=vs∧fits ks p=true∧oV v=true)∧K {s with bx:=put s.bx k (.map b' BZ D3 (wA p v l))}
   |_=>False)
  |_=>False)
 | .convB x,K=>vg true s x λp=>(match p with| .str bs=>K (s.put d (.sl 1 (bs.map u8) false))|_=>False)
 |
  .convL x,K=>vg true s x λp=>(match p with
  |
   .rs k pth off len aO sz c=>(match get s.bx k with
   |some (.arr bP l)=>(pth=[]∧off=0∧sz=1∧bP=1∧c= .tip∧len=l.length∧aO=l.length∧l≠[]∧l.all PV.isNum=true)∧
     K (St.put {s with bx:=put s.bx k (.arr 1 (l++[.int .u8 0]))} d (.sl 1 l false))
   |_=>False)
  |_=>False)
 |_,_=>False
def jT (P:Program) (nt:Nat) (ds:List Deferred) (o:Oper) (a:Act) (w:World) (Γ:Cx) (K:St->Prop):Prop:=
 ∃nx v w' s' Γ',(execOp a.eval o).run P w= .ok nx w'∧(nx= .value v∨nx= .skip∧v=undef)∧gm nt ds s' Γ' (a.put o.dst v)∧w'.heap=Γ'.heap∧Le Γ Γ'∧WF w w'∧K s'
theorem gm.put (hs:gm nt ds s Γ a) {d:Option Nat} (hd:∀k,d=some k->k<nt) {p:PV} {v:Value} (hr:aL Γ p v):gm nt ds (s.put d p) Γ (a.put d v):=by
 cases d with
 |none=>exact hs
 |
  some d=>
  refine⟨hs.bx,by simp[Act.put,hs.size],hs.defers,λk q hk=> ?_,hs.mem⟩
  simp only[St.put,eF]at hk
  have dq:=hd d rfl
  split at hk
  ·rename_i hdk
   simp only[sJ]at hk;subst hk hdk
   simp only[Act.put]
   have:(a.tmps.setIfInBounds d v).getD d undef=v:=by
    rw[JbJ,uJ (by rw[hs.size];exact dq)];rfl
   rw[this];exact hr
  ·rename_i cI
   have:=hs.env k q hk
   simp only[Act.put]
   rw[JbJ,Array.getElem?_setIfInBounds_ne cI,←JbJ]
   exact this
theorem gm.le (hs:gm nt ds s Γ a) {Γ':Cx} {xU:List (Nat×aV)} (hle:Le Γ Γ') (hm:Mem Γ') (hb:Γ'.bx=xU):gm nt ds {s with bx:=xU} Γ' a:=
 ⟨hb,hs.size,hs.defers,λk p h=>(hs.env k p h).mono hle,hm⟩
theorem TE {k:Nat} {b:Nat} {v:PV} (hb:get Γ.bx k=some (.box v)) (hι:Γ.ι k=some b):aL Γ (.pt k [] 0) (.pointer (some ⟨b,0,none⟩)):=
 aL.OR hb rfl hι rfl
theorem Hp {o:Oper} {k:Nat} {p:PV} {cs:Array Value} {e:TypeId} {K:St->Prop} (hs:gm nt ds s Γ a) (hw:w.heap=Γ.heap) (hk:o.dst=some k) (dq:k<nt) (gS:get s.bx k=none)
  (hr:aD Γ [p] cs.toList) (fU:(execOp a.eval o).run P w= .ok (.value (.pointer (some ⟨w.heap.size,0,none⟩))) (w.alloc (.cells cs e))) (hK:K {env:=put s.env k (.pt k [] 0),bx:=put s.bx k (.box p)}):
  jT P nt ds o a w Γ K:=by
 rw[←hs.bx]at gS;have hle:=zg Γ (.cells cs e) (k:=k) (.box p) gS;have iD:Mem (Γ.ext (.cells cs e) k (.box p)):=FJ hs.mem gS ⟨Γ.heap.size,cs,e,rfl,by simp[Cx.ext],hr.mono hle⟩;have h1:=hs.le hle iD (xU:=put s.bx k (.box p)) (by simp[Cx.ext,hs.bx])
 have h2:aL (Γ.ext (.cells cs e) k (.box p)) (.pt k [] 0) (.pointer (some ⟨w.heap.size,0,none⟩)):=by
  rw[hw];exact TE (v:=p) (by simp[Cx.ext,bG]) (by simp[Cx.ext])
 have h3:=h1.put (d:=some k) (λj hj=>by cases hj;exact dq) h2;exact⟨_,_,_,_,_,fU,.inl rfl,by rw[hk];exact h3,by simp[World.alloc,Cx.ext,hw],hle,⟨rfl,rfl,rfl⟩,hK⟩
theorem qg {o:Oper} {k sz:Nat} {l:List PV} {cs rest:List Value} {e:TypeId} {cap:Nat} {w':World} {K:St->Prop} (hs:gm nt ds s Γ a) (hw:w.heap=Γ.heap) (hk:o.dst=some k) (dq:k<nt) (gS:get s.bx k=none) (fH:0<sz)
  (hr:aD Γ l cs) (nJ:∀x∈l,x.width=sz) (An:cap*sz=(cs++rest).length) (Eu:l.length≤cap) (Jb:∀v∈rest,eK v=true)
  (fU:(execOp a.eval o).run P w= .ok (.value (.slice (some ⟨w.heap.size,0,none⟩) l.length cap)) w') (vK:w'.heap=w.heap.push (.cells (cs++rest).toArray e (0,0))) (uu:WF w w')
  (hK:K {env:=put s.env k (.rs k [] 0 l.length l.length sz .tip),bx:=put s.bx k (.arr sz l)}):jT P nt ds o a w Γ K:=by
 rw[←hs.bx]at gS;have hle:=zg Γ (.cells (cs++rest).toArray e (0,0)) (k:=k) (.arr sz l) gS;have hh:(Γ.ext (.cells (cs++rest).toArray e (0,0)) k (.arr sz l)).heap[Γ.heap.size]? =some (.cells (cs++rest).toArray e (0,0)):=by simp[Cx.ext]
 have iD:Mem (Γ.ext (.cells (cs++rest).toArray e (0,0)) k (.arr sz l)):=FJ hs.mem gS ⟨nJ,fH,_,e,cs,rest,hh,rfl,hr.mono hle,Jb⟩;have h1:=hs.le hle iD (xU:=put s.bx k (.arr sz l)) (by simp[Cx.ext,hs.bx])
 have h2:aL (Γ.ext (.cells (cs++rest).toArray e (0,0)) k (.arr sz l)) (.rs k [] 0 l.length l.length sz .tip) (.slice (some ⟨w.heap.size,0,none⟩) l.length cap):=by
  rw[hw];simp only[aL];refine .rs k [] 0 _ _ sz _ _ (.arr sz l) ⟨by simp[Cx.ext,bG],by simp[aV.aO]⟩ rfl (λ_=>⟨_,_,rfl,?_⟩) .nil;unfold ia;have:(Γ.ext (.cells (cs++rest).toArray e (0,0)) k (.arr sz l)).ι k=some Γ.heap.size:=by simp[Cx.ext]
  rw[this];exact⟨Eu,.inr (by simp[bK]),trivial,λ_=>⟨rfl,_,e,hh,by simpa using An⟩⟩
 have h3:=h1.put (d:=some k) (λj hj=>by cases hj;exact dq) h2;exact⟨_,_,_,_,_,fU,.inl rfl,by rw[hk];exact h3,by rw[vK,hw];rfl,hle,uu,hK⟩
theorem MD {o:Oper} {k sz:Nat} {ad:Option Addr} {K:St->Prop} (hs:gm nt ds s Γ a) (hw:w.heap=Γ.heap) (hk:o.dst=some k) (dq:k<nt) (gS:get s.bx k=none) (fH:0<sz)
  (fU:(execOp a.eval o).run P w= .ok (.value (.slice ad 0 0)) w)
  (hK:K {env:=put s.env k (.rs k [] 0 0 0 sz .tip),bx:=put s.bx k (.arr sz [])}):jT P nt ds o a w Γ K:=by
 rw[←hs.bx]at gS;have hle:=vN Γ (k:=k) (.arr sz []) gS;have iD:Mem (Γ.mK k (.arr sz [])):=Cl hs.mem gS ⟨by simp,fH,trivial⟩;have h1:=hs.le hle iD (xU:=put s.bx k (.arr sz [])) (by simp[Cx.mK,hs.bx])
 have h2:aL (Γ.mK k (.arr sz [])) (.rs k [] 0 0 0 sz .tip) (.slice ad 0 0):=by
  simp only[aL];refine .rs k [] 0 _ _ sz _ _ (.arr sz []) ⟨by simp[Cx.mK,bG],by simp[aV.aO]⟩ rfl (λ_=>⟨_,_,rfl,?_⟩) .nil;unfold ia;have:(Γ.mK k (.arr sz [])).ι k=none:=by simp[Cx.mK]
  rw[this];exact⟨rfl,rfl,trivial⟩
 have h3:=h1.put (d:=some k) (λj hj=>by cases hj;exact dq) h2;exact⟨_,_,_,_,Γ.mK k (.arr sz []),fU,.inl rfl,by rw[hk];exact h3,hw,hle,WF.refl w,hK⟩
theorem qh {o:Oper} {p:PV} {v:Value} {w':World} {Γ':Cx} {K:St->Prop} (hs:gm nt ds s Γ a) (hd:∀k,o.dst=some k->k<nt) (hle:Le Γ Γ') (hm:Mem Γ') (hb:Γ'.bx=Γ.bx)
  (fU:(execOp a.eval o).run P w= .ok (.value v) w') (hh:w'.heap=Γ'.heap) (uu:WF w w') (hr:aL Γ' p v) (hK:K (s.put o.dst p)):jT P nt ds o a w Γ K:=by
 have h1:=hs.le hle hm (xU:=s.bx) (by rw[hb,hs.bx]);exact⟨_,v,w',_,_,fU,.inl rfl,h1.put hd hr,hh,hle,uu,hK⟩
theorem O3 (p:PV):(wk p).width=p.width:=by cases p<;>simp[wk,PV.width]
theorem wZ (l:List PV):(fI l).length=l.length:=by induction l<;>simp[fI, *]
theorem Cm (l:List PV):fI l=l.map wk:=by induction l<;>simp[fI, *]
theorem TF {l:List PV} {q:PV} (h:q∈fI l):∃p∈l,q=wk p:=by
 rw[Cm]at h;obtain⟨p,hp,e⟩:=JhW.1 h;exact⟨p,hp,e.symm⟩
theorem EF {l:List PV} {sz:Nat} (h:∀x∈l,x.width=sz):∀x∈fI l,x.width=sz:=by
 intro x hx;obtain⟨p,hp,rfl⟩:=TF hx;rw[O3];exact h p hp
theorem aD.fI {l:List PV} {cs:List Value} (h:aD Γ l cs):aD Γ (fI l) cs:=by
 induction h with
 |nil=>exact .nil
 |un h hr ih=>simp only[Ab.fI,Ab.wk];exact .un h ih
 |bl x hr ih=>simp only[Ab.fI,Ab.wk];exact .bl x ih
 |int k n hr ih=>simp only[Ab.fI,Ab.wk];exact .int k n ih
 |str l s h hr ih=>simp only[Ab.fI,Ab.wk];exact .str l s h ih
 |st w l hl hw hr ihl ih=>simp only[Ab.fI,Ab.wk];exact .st w _ ihl hw ih
 |ar sz n l hl hn hs hr ihl ih=>simp only[Ab.fI,Ab.wk];exact .ar sz n _ ihl (by rw[wZ];exact hn) (EF hs) ih
 |
  sl sz l clip a aX hl hw hc hk hb hr ihl ih=>
  simp only[Ab.fI,Ab.wk]
  have:=aD.sl sz (Ab.fI l) false a aX ihl (EF hw) (by rw[wZ];exact hc) (by simp) (λcI=>hb (λhe=>cI (by rw[he];rfl))) ih
  rwa [wZ]at this
 |rs k p off len aO sz c v blk hg h1 hv hr ih=>simp only[Ab.fI,Ab.wk];exact .rs k p off len aO sz c v blk hg h1 hv ih
 |np hr ih=>simp only[Ab.fI,Ab.wk];exact .np ih
 |pt k p aO v blk hg h1 hv hr ih=>simp only[Ab.fI,Ab.wk];exact .pt k p aO v blk hg h1 hv ih
 |fp sz l p b o hl hw hm hc hr ihl ih=>simp only[Ab.fI,Ab.wk];exact .fp sz l p b o hl hw hm hc ih
 |fn f first cap h1 h2 h3 h4 hr i1 i2 ih=>simp only[Ab.fI,Ab.wk];exact .fn f first cap h1 h2 h3 h4 ih
 |nf hr ih=>simp only[Ab.fI,Ab.wk];exact .nf ih
 |ifc t v h1 h2 hr i1 ih=>simp only[Ab.fI,Ab.wk];exact .ifc t v h1 h2 ih
 |ni hr ih=>simp only[Ab.fI,Ab.wk];exact .ni ih
 |mp k b hr ih=>simp only[Ab.fI,Ab.wk];exact .mp k b ih
theorem aD.wk {p:PV} {cs:List Value} (h:aD Γ [p] cs):aD Γ [wk p] cs:=by
 have:=h.fI;simpa[Ab.fI]using this
theorem gP.wk {p:PV} {v:Value} (h:gP Γ p v):gP Γ (wk p) v:=by
 cases p
 case st w l=>obtain⟨cs,h1,h2⟩:=h;simp only[Ab.wk];exact⟨cs,h1,by simpa[Ab.wk]using aD.wk h2⟩
 case ar z n l=>obtain⟨cs,h1,h2⟩:=h;simp only[Ab.wk];exact⟨cs,h1,by simpa[Ab.wk]using aD.wk h2⟩
 case sl z l c=>have:=aD.wk (show aD Γ [.sl z l c] [v] from h);simp only[Ab.wk]at this⊢;exact this
 case tup l=>have:=aD.wk (show aD Γ [.tup l] [v] from h);cases h
 all_goals (simp only[Ab.wk];exact h)
theorem kO.fI:∀ {l:List PV} {vs:List Value},kO Γ l vs->kO Γ (Ab.fI l) vs
 |[],[],_=>trivial
 |[],_::_,h=>by simp[kO]at h
 |_::_,[],h=>by simp[kO]at h
 |p::l,v::vs,h=>by simp only[kO,Ab.fI]at h⊢;exact⟨h.1.wk,kO.fI h.2⟩
theorem aL.wk {p:PV} {v:Value} (h:aL Γ p v):aL Γ (wk p) v:=by
 cases p
 case st w l=>obtain⟨cs,h1,h2⟩:=h;simp only[Ab.wk];exact⟨cs,h1,by simpa[Ab.wk]using aD.wk h2⟩
 case ar z n l=>obtain⟨cs,h1,h2⟩:=h;simp only[Ab.wk];exact⟨cs,h1,by simpa[Ab.wk]using aD.wk h2⟩
 case sl z l c=>simp only[aL,Ab.wk]at h⊢;simpa[Ab.wk]using aD.wk h
 case tup l=>simp only[aL,Ab.wk]at h⊢;obtain⟨vs,e,h⟩:=h;exact⟨vs,e,h.fI⟩
 all_goals (simp only[Ab.wk];exact h)
theorem ME {o:Oper} {t:TypeId} {z:PV} {K:St->Prop} (ho:o.op= .alloc t) (hz:zeroOf P t=some z) (hs:gm nt ds s Γ a) (hw:w.heap=Γ.heap) (hd:∀k,o.dst=some k->k<nt) (he:ex s o.dst (.alloc z) K):
  jT P nt ds o a w Γ K:=by
 simp only[ex]at he;split at he
 ·rename_i k hk;obtain⟨v,hv,hr,_,_,_⟩:=j9 (Γ:=Γ) hz;refine Hp (cs:=v.cells) (e:=t) hs hw hk (hd k hk) he.1 hr ?_ he.2;simp only[execOp,ho,Instr.alloc,bJ,hv,rJ,newVar,newRow];rfl
 ·exact he.elim
theorem TG {o:Oper} {t:TypeId} {x:Operand} {y:AX} {K:St->Prop} (ho:o.op= .box t x) (hx:gv x=some y) (hs:gm nt ds s Γ a) (hw:w.heap=Γ.heap) (hd:∀k,o.dst=some k->k<nt) (he:ex s o.dst (.box y) K):
  jT P nt ds o a w Γ K:=by
 simp only[ex]at he;split at he
 ·rename_i k hk;obtain⟨p,⟨⟨h1,h2⟩,h3⟩,hr⟩:=bw hx hs rfl he;refine Hp (cs:=(a.eval x).cells) (e:=t) hs hw hk (hd k hk) h1 (hr.Cg h2) ?_ h3;simp only[execOp,ho,Instr.box,bJ,newVar,newRow];rfl
 ·exact he.elim
theorem iO {z:PV} {cs:List Value} (h:aD Γ [z] cs):∀n,aD Γ (List.replicate n z) (List.replicate n cs).flatten
 |0=> .nil
 |n+1=>by rw[List.replicate_succ,List.replicate_succ,JrW];exact h.cons (iO h n)
theorem lX (z:Array Value) (n:Nat):((Array.range (n*z.size)).map (z[·%z.size]!)).toList=(List.replicate n z.toList).flatten:=by
 induction n with
 |zero=>simp
 |
  succ n ih=>
  have e:(n+1)*z.size=n*z.size+z.size:=by rw[JgQ];omega
  rw[List.replicate_succ',List.flatten_append,←ih,e]
  simp only[JmW,Array.toList_range,List.range_add,JeV,List.map_map,JrW,List.flatten_nil,JgV]
  congr 1
  apply JjW
  intro i
  by_cases hi:i<z.size
  ·simp[hi,JiJ hi,Nat.add_mod,JtJ]
  ·simp[hi]
end Go.Ab
namespace Go.Ab
variable [cL]
variable {P:Program} {nt:Nat} {ds:List Deferred} {s:St} {Γ:Cx} {a:Act} {w:World}
theorem Cn {o:Oper} {t e:TypeId} {n sz:Nat} {parts:Array (Nat×Operand)} {ps:List (Nat×AX)} {z:PV} {own:Bool} {K:St->Prop} (ho:o.op= .buildSlice t n parts) (hu:P.underlying t=some (.slice e))
  (hp:th parts.toList=some ps) (hz:zeroOf P e=some z) (fH:gT P e=some sz) (j6:0<sz) (Og:n*sz≤2^24)
  (hs:gm nt ds s Γ a) (hw:w.heap=Γ.heap) (hd:∀k,o.dst=some k->k<nt) (he:ex s o.dst (.buildSlice own sz z n ps) K):jT P nt ds o a w Γ K:=by
 simp only[ex]at he;obtain⟨qs,hq,hlen,cq⟩:=BA hs rfl hp he;obtain⟨zv,OF,Tj,DT,_,hzs⟩:=j9 (Γ:=Γ) hz;have Xn:z.width=sz:=by rw[fH]at DT;exact(Option.some.inj DT).symm
 split at hq
 ·rename_i l hl;have hzc:zv.cells.size=sz:=by rw[hzs,Xn]
  have an2:aD Γ (List.replicate n z) ((Array.range (n*sz)).map (zv.cells[·%zv.cells.size]!)).toList:=by
   have:=lX zv.cells n;rw[hzc]at this⊢;rw[this];exact iO Tj n
  have hwr:∀x∈List.replicate n z,x.width=sz:=by intro x hx;rw[(JqV.1 hx).2];exact Xn
  obtain⟨cells,h1,h2⟩:=xS (Γ:=Γ) (qs.map λx=>(x.1,wk x.2)) (parts.toList.map λp=>(p.1,a.eval p.2)) (λi=>some (i*sz,sz)) (List.replicate n z) l _ an2 hl (by simp[hlen])
   (λi j p k u h3 h4=>by
    rw[List.getElem?_map,mJ]at h3 h4;obtain⟨⟨k',x⟩,h5,h6⟩:=h4;obtain⟨⟨j',q⟩,h7,h8⟩:=h3;simp only[Prod.mk.injEq]at h6 h8;obtain⟨rfl,rfl⟩:=h6;obtain⟨rfl,rfl⟩:=h8;have:=cq i j' q k' x h7 h5;exact⟨this.1,this.2.wk⟩)
   (λi q hi=>by
    have hil:=(iJ.1 hi).1;rw[gp hwr (by omega),hwr q (JeQ hi)])
  have Si:l.length=n:=by rw[ze.setParts_length hl];simp
  have hlw:=ze.setParts_width hl hwr;have D2:cells.toList.length=n*sz:=by rw[h2.length,bf hlw,Si]
  have dq:¬n*sz>2^24:=by omega
  have Mh:Instr.fill (λi=>some (i*sz,sz)) ((Array.range (n*sz)).map ((if n*sz=0 then #[]else zv.cells)[·%(if n*sz=0 then #[]else zv.cells).size]!)) (parts.map λp=>(p.1,a.eval p.2)).toList=some cells:=by
   have e1:(parts.map λp=>(p.1,a.eval p.2)).toList=parts.toList.map λp=>(p.1,a.eval p.2):=by simp
   rw[e1];by_cases h0:n*sz=0
   ·rw[if_pos h0];rw[h0]at h1⊢;have em:∀f:Nat->Value,Array.map f (Array.range 0)= #[]:=λf=>by apply Array.ext';simp
    rw[em]at h1⊢;exact h1
   ·rw[if_neg h0];exact h1
  have hb:(Instr.buildSlice t n (parts.map λp=>(p.1,a.eval p.2))).run P w= .ok (.slice (some ⟨w.heap.size,0,none⟩) n n) (w.alloc (.cells cells e)):=by
   simp only[Instr.buildSlice,bJ,run_underlying hu,rJ,run_sizeOf fH];rw[if_neg dq];by_cases h0:n*sz=0
   ·rw[if_pos h0];rw[if_pos h0]at Mh;simp only[bJ,JbW,rJ];rw[Mh];rfl
   ·rw[if_neg h0];rw[if_neg h0]at Mh;simp only[bJ,OF,JbW,rJ];rw[Mh];rfl
  have fU:(execOp a.eval o).run P w= .ok (.value (.slice (some ⟨w.heap.size,0,none⟩) n n)) (w.alloc (.cells cells e)):=by
   have e2:execOp a.eval o=(do Pure.pure (Next.value (←Instr.buildSlice t n (parts.map λp=>(p.1,a.eval p.2))))):=by unfold execOp;rw[ho]
   rw[e2,bJ,hb];rfl
  split at hq
  ·rename_i Xg;split at hq
   ·rename_i k hk;refine qg (P:=P) (cs:=cells.toList) (rest:=[]) (e:=e) (cap:=n) (w':=w.alloc (.cells cells e)) hs hw hk (hd k hk) hq.1 j6 h2 hlw (by rw[JgV];exact D2.symm) (by omega) (by simp) (by rw[Si];exact fU) (by rw[JgV];rfl) ⟨rfl,rfl,rfl⟩ (by rw[Si];exact hq.2)
   ·exact hq.elim
  ·refine qh hs hd (xT Γ (.cells cells e)) (mem_push hs.mem _) rfl fU (by show w.heap.push _=Γ.heap.push _;rw[hw]) ⟨rfl,rfl,rfl⟩ ?_ hq;simp only[aL]
   have:=aD.sl (Γ:=Γ.push (.cells cells e)) sz l true (some ⟨w.heap.size,0,none⟩) n (h2.mono (xT Γ _)) hlw (by omega) (λ_=>Si.symm) (λ_=>⟨w.heap.size,0,rfl,by simp[Cx.push,hw],by
    rw[hw];have:=hs.mem.Aw
    exact this,λi c hc=>by
     have hi:=(iJ.1 hc).1;simp only[cell,Cx.push,hw,JhQ,Array.getElem?_push_size];rw[←Array.getElem?_toList];exact hc⟩) .nil
   rw[Si]at this;exact this
 ·exact hq.elim
theorem D9 {o:Oper} {t e:TypeId} {i:TypeInfo} {ln cp:Operand} {ln' cp':AX} {z:PV} {K:St->Prop} (ho:o.op= .makeSlice t ln cp) (hu:P.underlying t=some (.slice e)) (hl:gv ln=some ln') (hc:gv cp=some cp')
  (hz:zeroOf P e=some z) (hi:P.info? e=some i) (j6:0<i.size)
  (hs:gm nt ds s Γ a) (hw:w.heap=Γ.heap) (hd:∀k,o.dst=some k->k<nt) (he:ex s o.dst (.makeSlice i.size i.bytes z ln' cp') K):jT P nt ds o a w Γ K:=by
 simp only[ex]at he;obtain⟨p,hp,tf⟩:=bw hl hs rfl he;obtain⟨k1,l,xK,hp⟩:=fc hp tf;obtain⟨q,hq,qZ⟩:=bw hc hs rfl hp;obtain⟨k2,c,nL,hK⟩:=fc hq qZ;obtain⟨zv,OF,Tj,DT,_,hzs⟩:=j9 (Γ:=Γ) hz;have Xn:z.width=i.size:=by rw[zf hi]at DT;exact(Option.some.inj DT).symm
 have hzc:zv.cells.size=i.size:=by rw[hzs,Xn]
 split at hK
 ·rename_i k hk;obtain⟨⟨h1,h2,h3,h4,h5⟩,hK⟩:=hK
  have hwl:IntKind.i64.wrap l=l:=by
   have e1:(2:Int)^IntKind.i64.bits=18446744073709551616:=by decide
   have e2:(2:Int)^(IntKind.i64.bits-1)=9223372036854775808:=by decide
   simp only[IntKind.wrap,e1,e2];have:l%18446744073709551616=l:=Int.emod_eq_of_lt h2 (by omega);rw[this];rw[if_neg (by simp;intro _;omega)]
  have hwc:IntKind.i64.wrap c=c:=by
   have e1:(2:Int)^IntKind.i64.bits=18446744073709551616:=by decide
   have e2:(2:Int)^(IntKind.i64.bits-1)=9223372036854775808:=by decide
   simp only[IntKind.wrap,e1,e2];have:c%18446744073709551616=c:=Int.emod_eq_of_lt (by omega) (by omega);rw[this];rw[if_neg (by simp;intro _;omega)]
  have nK:((Array.range (c.toNat*i.size)).map (zv.cells[·%zv.cells.size]!)).toList=(List.replicate c.toNat zv.cells.toList).flatten:=by
   have:=lX zv.cells c.toNat;rw[hzc]at this⊢;exact this
  have GY:(List.replicate c.toNat zv.cells.toList).flatten=(List.replicate l.toNat zv.cells.toList).flatten++(List.replicate (c.toNat-l.toNat) zv.cells.toList).flatten:=by
   rw[←List.flatten_append,List.replicate_append_replicate,show l.toNat+(c.toNat-l.toNat)=c.toNat by omega]
  refine qg (P:=P) (l:=List.replicate l.toNat z) (cs:=(List.replicate l.toNat zv.cells.toList).flatten) (rest:=(List.replicate (c.toNat-l.toNat) zv.cells.toList).flatten) (e:=e) (cap:=c.toNat) (w':=w.alloc (.cells ((Array.range (c.toNat*i.size)).map (zv.cells[·%zv.cells.size]!)) e)) hs hw hk (hd k hk) h1 j6 (iO Tj _)
   (by intro x hx;rw[(JqV.1 hx).2];exact Xn) ?_ (by simp;omega) (iO Tj _).one ?_ ?_ ⟨rfl,rfl,rfl⟩ (by simpa using hK)
  ·rw[←GY,←nK];simp
  ·simp only[JcW]
   have hb:¬((i.bytes:Int)*c>2^48):=by
    have:(2:Int)^48=281474976710656:=by decide
    rw[this,Int.mul_comm];omega
   have hm:(Instr.makeSlice t (a.eval ln) (a.eval cp)).run P w= .ok (.slice (some ⟨w.heap.size,0,none⟩) l.toNat c.toNat) (w.alloc (.cells ((Array.range (c.toNat*i.size)).map (zv.cells[·%zv.cells.size]!)) e)):=by
    have ur:((decide (c<0)||decide ((i.bytes:Int)*c>2^48))||decide (l<0)||decide (l>c))=false:=by
     have e1:decide (c<0)=false:=decide_eq_false (by omega);have e2:decide ((i.bytes:Int)*c>2^48)=false:=decide_eq_false hb;have e3:decide (l<0)=false:=decide_eq_false (by omega);have e4:decide (l>c)=false:=decide_eq_false (by omega);rw[e1,e2,e3,e4];rfl
    have fH:=zf hi;have hti:(typeInfo e).run P w= .ok i w:=by simp[typeInfo,hi]
    simp only[Instr.makeSlice,bJ,run_underlying hu,rJ,xK,nL,asInt,asIntOf,JbW,hti,hwl,hwc];rw[if_neg (by rw[ur];simp)];simp only[bJ,run_askRoom,rJ,run_sizeOf fH];by_cases h0:c.toNat*i.size=0
    ·rw[if_pos h0];have em:∀f:Nat->Value,Array.map f (Array.range (c.toNat*i.size))= #[]:=by intro f;rw[h0];apply Array.ext';simp
     simp only[bJ,JbW,rJ,em];rfl
    ·rw[if_neg h0];simp only[bJ,OF,rJ,JbW];rfl
   have e2:execOp a.eval o=(do Pure.pure (Next.value (←Instr.makeSlice t (a.eval ln) (a.eval cp)))):=by unfold execOp;rw[ho]
   rw[e2,bJ,hm];rfl
  ·rw[←GY,←nK];rfl
 ·exact hK.elim
theorem O4 (l:List UInt8):aD Γ (l.map u8) (l.map λb=>Value.int .u8 b.toNat):=by
 induction l with
 |nil=>exact .nil
 |cons b l ih=>exact .int .u8 _ ih
theorem MF {o:Oper} {t d e:TypeId} {x:Operand} {x':AX} {K:St->Prop} (ho:o.op= .convert t d x) (h1:P.underlying t=some .string) (h2:P.underlying d=some (.slice e)) (h3:P.underlying e=some (.int .u8))
  (hx:gv x=some x') (hs:gm nt ds s Γ a) (hw:w.heap=Γ.heap) (hd:∀k,o.dst=some k->k<nt) (he:ex s o.dst (.convB x') K):jT P nt ds o a w Γ K:=by
 simp only[ex]at he;obtain⟨p,hp,hr⟩:=bw hx hs rfl he;cases p<;>simp only at hp<;>first|exact hp.elim|skip
 rename_i l;simp only[aL]at hr
 obtain⟨bs,hv,hl⟩:∃bs:ByteArray,a.eval x= .string bs∧bs.data.toList=l:=by
  generalize a.eval x=v at hr;cases hr with
  |str l s h _=>exact⟨s,rfl,h⟩
 subst hl;have aaq:=run_bytes_of_string (P:=P) w t d e bs h1 h2 h3;generalize hC:bytesRow bs (grownCap w bs.size 0 e)=C at aaq
 have fU:(execOp a.eval o).run P w= .ok (.value (.slice (some ⟨w.heap.size,0,none⟩) bs.size (grownCap w bs.size 0 e))) (w.drew.alloc (.cells C e (C.size,C.size+1))):=by
  have e2:execOp a.eval o=(do Pure.pure (Next.value (←convert t d (a.eval x)))):=by unfold execOp;rw[ho]
  rw[e2,bJ,hv,aaq];rfl
 refine qh hs hd (xT Γ (.cells C e (C.size,C.size+1))) (mem_push hs.mem _) rfl fU (by show w.heap.push _=Γ.heap.push _;rw[hw]) ⟨rfl,rfl,rfl⟩ ?_ hp;simp only[aL];have fH:(bs.data.toList.map u8).length=bs.size:=by rw[JaX,JbZ];rfl
 have:=aD.sl (Γ:=Γ.push (.cells C e (C.size,C.size+1))) 1 (bs.data.toList.map u8) false (some ⟨w.heap.size,0,none⟩) (grownCap w bs.size 0 e) (O4 _) (by
   intro x hx;obtain⟨b,_,rfl⟩:=JhW.1 hx
   rfl) (by rw[fH];have:=grownCap_ge w bs.size 0 e;omega) (by simp) (λ_=>⟨w.heap.size,0,rfl,by simp[Cx.push,hw],by
    rw[hw]
    exact hs.mem.Aw,λi c hc=>by
     simp only[cell,Cx.push,hw,JhQ,Array.getElem?_push_size];rw[←hC];simp only[bytesRow];have hi:=(iJ.1 hc).1;rw[Array.getElem?_append_left (by simpa using hi)];rw[←hc];simp⟩) .nil
 rw[fH]at this;exact this
end Go.Ab
namespace Go.Ab
variable [cL]
variable {P:Program} {nt:Nat} {ds:List Deferred} {s:St} {Γ:Cx} {a:Act} {w:World}
theorem uT (hm:Mem Γ) {k b:Nat} {blk bn:aV} {pth:List Step} {x:PV} {us:List Value} (hg:get Γ.bx k=some blk) (hb:Γ.ι k=some b) (hx:aD Γ [x] us) (kX:uP blk pth x=some bn):
  ∃
   c e,Γ.heap[b]? =some (.cells c e (0,0))∧bK pth+us.length≤c.size∧bn.aO=blk.aO∧
   ∀c',c'.toList=bm c.toList (bK pth) us->bn.xM (Γ.gx b (.cells c' e (0,0)) k bn) (some b):=by
 have h:=hm.blk k blk hg;cases blk with
 |
  box v=>
  obtain⟨b',c,e,h1,h2,h3⟩:=h
  rw[hb]at h1;cases h1
  simp only[uP]at kX
  split at kX
  ·rename_i v' Xk
   simp only[sJ]at kX;subst kX
   obtain⟨g1,g2,g3⟩:=Ce hx pth h3 Xk
   refine⟨c,e,h2,by simpa using g1,rfl,λc' GU=> ?_⟩
   have fH:c'.size=c.size:=by rw[←JbZ,GU,dO g1,JbZ]
   refine⟨b,c',e,rfl,by simp only[Cx.gx];rw[uJ (bN h2)],?_⟩
   rw[GU]
   exact g3.mono (mV (bn:= .box v') hg hb h2 fH (JaQ _))
  ·simp at kX
 |
  arr sz l=>
  obtain⟨h1,h2,h3⟩:=h
  rw[hb]at h3
  obtain⟨c,e,cs,rest,h4,h5,h6,Jb⟩:=h3
  cases pth with
  |nil=>simp[uP]at kX
  |cons st r=>
  cases st with
  |f=>simp[uP]at kX
  |
   i j sz''=>
   simp only[uP]at kX
   split at kX
   ·rename_i hs;subst hs
    split at kX
    ·rename_i cj hc
     split at kX
     ·rename_i c2 y9
      simp only[sJ]at kX;subst kX
      have r3:=h6.at hc
      obtain⟨g4,g5,g6⟩:=Ce hx r r3 y9
      have g7:=r3.fS
      have:=Cd h6 hc (by omega) g5 g6
      have hj:=(iJ.1 hc).1
      rw[gp h1 (by omega)]at this
      have hle:bK (Step.i j sz''::r)+us.length≤cs.length:=by simp only[bK];exact this.1
      have Sj:c.size=cs.length+rest.length:=by rw[←JbZ,h5];simp
      refine⟨c,e,h4,by omega,by simp[aV.aO],λc' GU=> ?_⟩
      have fH:c'.size=c.size:=by rw[←JbZ,GU,dO (by simp;omega),JbZ]
      have KG:=mV (Γ:=Γ) (bn:= .arr sz'' (l.set j c2)) hg hb h4 fH (by simp[aV.aO])
      refine⟨rH h1 (by rw[g5];exact h1 cj (JeQ hc)),h2,c',e,bm cs (bK (Step.i j sz''::r)) us,rest,by simp only[Cx.gx];rw[uJ (bN h4)],?_,?_,Jb⟩
      ·rw[GU,h5];exact splice_append hle
      ·exact(by simpa only[bK]using this.2:aD Γ _ _).mono KG
     ·simp at kX
    ·simp at kX
   ·simp at kX
  |w o n s=>simp[uP]at kX
 |map b0 ks vs l=>simp[uP]at kX
where
 splice_append {cs rest us:List Value} {o:Nat} (h:o+us.length≤cs.length):bm (cs++rest) o us=bm cs o us++rest:=by
  simp only[bm];rw[JfW (by omega),JmQ (by omega)];simp
theorem MG {o:Oper} {t:TypeId} {n:Nat} {x y:Operand} {x' y':AX} {K:St->Prop} (ho:o.op= .store t x y) (hn:gT P t=some n) (hx:gv x=some x') (hy:gv y=some y')
  (hs:gm nt ds s Γ a) (hw:w.heap=Γ.heap) (hd:o.dst=none) (he:ex s o.dst (.store n x' y') K):jT P nt ds o a w Γ K:=by
 simp only[ex]at he;obtain⟨p,hp,tf⟩:=bw hx hs rfl he;obtain⟨v,hv,qZ⟩:=bw hy hs rfl hp;split at hv
 ·rename_i k pth aO;split at hv
  ·rename_i blk hg;split at hv
   ·rename_i bn kX;obtain⟨⟨h1,h2,h3⟩,hK⟩:=hv;rw[←hs.bx]at hg;obtain⟨b,hι,hpv⟩:=tf.pt hg h1;have nK:=qZ.Cg h3
    have Xo:aD Γ [wkb blk v] (a.eval y).cells.toList:=by
     cases blk
     ·exact nK
     ·exact nK.wk
     ·exact nK
    obtain⟨c,e,g1,g2,g3,g4⟩:=uT hs.mem hg hι Xo kX;have hvs:(a.eval y).cells.size=n:=by rw[←h2,←nK.fS];simp
    obtain⟨w',r1,r2,r3⟩:=FM (P:=P) (w:=w) (t:=t) (b:=b) (o:=bK pth) (c:=c) (e:=e) (v:=a.eval y) (by rw[hw];exact g1) hn hvs (by have:=g2;simp at this;omega) (λz hz=>nK.one z hz);have fH:(bm c.toList (bK pth) (a.eval y).cells.toList).toArray.size=c.size:=by simp[dO (show bK pth+(a.eval y).cells.toList.length≤c.toList.length by simpa using g2)]
    have hle:=mV (Γ:=Γ) (bn:=bn) hg hι g1 fH (by omega);have iD:=pD (Γ:=Γ) (bn:=bn) hs.mem hg hι g1 fH (by omega) (g4 _ (by simp));have h1:=hs.le hle iD (xU:=put s.bx k bn) (by simp[Cx.gx,hs.bx]);refine⟨.skip,undef,w',_,_,?_,.inr ⟨rfl,rfl⟩,by rw[hd];exact h1,by rw[r2,hw];rfl,hle,r3,hK⟩;have e2:execOp a.eval o=(do Instr.storeAt t (a.eval x) (a.eval y);Pure.pure Next.skip):=by unfold execOp;rw[ho]
    rw[e2,bJ];simp only[Instr.storeAt,hpv,Instr.sureAddr,bJ,JbW,rJ,r1]
   ·exact hv.elim
  ·exact hv.elim
 ·exact hv.elim
theorem FN {str:Bool} {sz:Nat} {q:PV} {v:Value} {K:List PV->Prop} (hs:gm nt ds s Γ a) (hw:w.heap=Γ.heap) (h:src s str sz q K) (hr:aL Γ q v):
  ∃ys news,K ys∧sA w sz ys.length v news∧aD Γ ys news∧(∀x∈ys,x.width=sz):=by
 unfold src at h;split at h
 ·split at h
  ·rename_i bs;obtain⟨st,hv,hd⟩:=hr.str;obtain⟨rfl,hK⟩:=h;have hlen:bs.length=st.size:=by rw[←hd];exact JbZ
   refine⟨_,_,hK,.inr ⟨st,hv,by simp[hlen],rfl,rfl⟩,?_,?_⟩
   ·rw[hd];clear hK hlen hd hv hr;induction bs with
    |nil=>exact .nil
    |cons b bs ih=>exact .int _ _ ih
   ·intro x hx;obtain⟨b,_,rfl⟩:=JhW.1 hx;rfl
  ·exact h.elim
 ·obtain⟨bP,l,cs,ad,aX,⟨h1,hK⟩,hv,hl,nI,hle,nJ⟩:=rb hs h hr;refine⟨l,cs,hK,.inl ⟨ad,aX,hv,λj6=> ?_⟩,hl,λx hx=> ?_⟩
  ·obtain⟨b,o,e1,e2⟩:=nI (by intro h;subst h;simp at j6);exact⟨b,o,e1,by rw[hw];exact e2⟩
  ·rcases h1 with rfl|rfl
   ·simp at hx
   ·exact nJ x hx
end Go.Ab
namespace Go.Ab
variable [cL]
variable {P:Program} {nt:Nat} {ds:List Deferred} {s:St} {Γ:Cx} {a:Act} {w:World}
theorem BC (Γ:Cx) (o:Obj) {k:Nat} {blk bn:aV} (hk:get Γ.bx k=some blk) (ht:blk.aO<bn.aO):Le Γ (Γ.ext o k bn) where
 heap b hb _:=mU _ _ hb
 gn b hb h:=by
  obtain⟨i,bl,hg,hi⟩:=h;simp only[Cx.ext]at hg hi;by_cases fV:i=k
  ·subst fV;simp at hi;omega
  ·rw[if_neg fV]at hi;rw[bp _ _ _ _ (λh=>fV h.symm)]at hg;exact⟨i,bl,hg,hi⟩
 bX:=rfl
 size:=by simp[Cx.ext]
 ref i bl h:=by
  by_cases fV:i=k
  ·subst fV;rw[hk]at h;cases h;exact⟨bn,by simp[Cx.ext,bG],by omega,λe=>by omega⟩
  ·exact⟨bl,by simp only[Cx.ext];rw[bp _ _ _ _ (λh=>fV h.symm)];exact h,JaQ _,λ_=>⟨by simp[Cx.ext,fV],λb _ cs e hc=>⟨cs,by rw[←hc];exact mU _ _ (bN hc),rfl⟩⟩⟩
theorem O5 (hm:Mem Γ) {o:Obj} {k:Nat} {blk bn:aV} (hk:get Γ.bx k=some blk) (ht:blk.aO<bn.aO) (hr:bn.xM (Γ.ext o k bn) (some Γ.heap.size)):Mem (Γ.ext o k bn) where
 blk i bl h:=by
  by_cases fV:i=k
  ·subst fV;simp only[Cx.ext,bG,sJ]at h;subst h;have:(Γ.ext o i bn).ι i=some Γ.heap.size:=by simp[Cx.ext]
   rw[this];exact hr
  ·simp only[Cx.ext]at h;rw[bp _ _ _ _ (λh=>fV h.symm)]at h;have:=hm.blk i bl h;have e:(Γ.ext o k bn).ι i=Γ.ι i:=by simp[Cx.ext,fV]
   rw[e];exact this.mono (BC Γ o hk ht) (λb hb=>by rw[hb]at this;exact mU _ _ this.lt)
 inj i j b hi hj h1 h2:=by
  simp only[Cx.ext,eF]at hi hj h1 h2;by_cases fV:i=k<;>by_cases y5:j=k
  ·rw[fV,y5]
  ·rw[if_pos fV]at h1;rw[if_neg y5]at h2;rw[if_neg (λh=>y5 h.symm)]at hj;obtain⟨bl,ue⟩:=JaW.1 hj;have:=hm.lt ⟨j,bl,ue,h2⟩;simp at h1;omega
  ·rw[if_neg fV]at h1;rw[if_pos y5]at h2;rw[if_neg (λh=>fV h.symm)]at hi;obtain⟨bl,ue⟩:=JaW.1 hi;have:=hm.lt ⟨i,bl,ue,h1⟩;simp at h2;omega
  ·rw[if_neg fV]at h1;rw[if_neg y5]at h2;rw[if_neg (λh=>fV h.symm)]at hi;rw[if_neg (λh=>y5 h.symm)]at hj;exact hm.inj i j b hi hj h1 h2
 bX b h:=by have:=hm.bX b h;simp only[Cx.ext,Array.size_push];omega
 apart b h hp:=by
  have dq:=hm.bX b hp;exact hm.apart b ((BC Γ o hk ht).gn b dq h) hp
 xN:=hm.ll (BC Γ o hk ht)
theorem qi {bx:List (Nat×aV)} (h:∀i,get bx i=get Γ.bx i):Le Γ {Γ with bx:=bx} where
 heap _ _ _:=rfl
 gn b _ hm:=by obtain⟨k,blk,hg,hk⟩:=hm;exact⟨k,blk,by rw[←h];exact hg,hk⟩
 bX:=rfl
 size:=JaQ _
 ref k blk hg:=⟨blk,by show get bx k=_;rw[h];exact hg,JaQ _,λ_=>⟨rfl,λ_ _ cs _ hc=>⟨cs,hc,rfl⟩⟩⟩
theorem Co (hm:Mem Γ) {bx:List (Nat×aV)} (h:∀i,get bx i=get Γ.bx i):Mem {Γ with bx:=bx} where
 blk k blk hg:=(hm.blk k blk (by rw[←h];exact hg)).mono (qi h) (λ_ _=>rfl)
 inj i j b hi hj h1 h2:=hm.inj i j b (by rw[←h];exact hi) (by rw[←h];exact hj) h1 h2
 bX:=hm.bX
 apart b hb:=hm.apart b ((qi h).gn b (hm.lt (by obtain⟨k,blk,hg,hk⟩:=hb;exact⟨k,blk,by rw[←h];exact hg,hk⟩)) hb)
 xN:=hm.ll (qi h)
theorem mW {α:Type} {l:List (Nat×α)} {k:Nat} {x:α} (h:get l k=some x):∀i,get (put l k x) i=get l i:=by
 intro i;rw[eF];split
 ·subst_vars;exact h.symm
 ·rfl
theorem EG {o:Oper} {k d sz:Nat} {blk:aV} {l:List PV} {cs rest:List Value} {e:TypeId} {cap:Nat} {w':World} {K:St->Prop} (hs:gm nt ds s Γ a) (hw:w.heap=Γ.heap) (hk:o.dst=some d) (dq:d<nt) (hg:get s.bx k=some blk)
  (ht:blk.aO<l.length) (fH:0<sz) (hr:aD Γ l cs) (nJ:∀x∈l,x.width=sz) (An:cap*sz=(cs++rest).length) (Eu:l.length≤cap) (Jb:∀v∈rest,eK v=true)
  (fU:(execOp a.eval o).run P w= .ok (.value (.slice (some ⟨w.heap.size,0,none⟩) l.length cap)) w') (vK:w'.heap=w.heap.push (.cells (cs++rest).toArray e (0,0))) (uu:WF w w')
  (hK:K {env:=put s.env d (.rs k [] 0 l.length l.length sz .tip),bx:=put s.bx k (.arr sz l)}):jT P nt ds o a w Γ K:=by
 rw[←hs.bx]at hg;have hle:=BC Γ (.cells (cs++rest).toArray e (0,0)) (k:=k) (bn:= .arr sz l) hg (by simpa[aV.aO]using ht);have hh:(Γ.ext (.cells (cs++rest).toArray e (0,0)) k (.arr sz l)).heap[Γ.heap.size]? =some (.cells (cs++rest).toArray e (0,0)):=by simp[Cx.ext]
 have iD:Mem (Γ.ext (.cells (cs++rest).toArray e (0,0)) k (.arr sz l)):=O5 hs.mem hg (by simpa[aV.aO]using ht) ⟨nJ,fH,_,e,cs,rest,hh,rfl,hr.mono hle,Jb⟩;have h1:=hs.le hle iD (xU:=put s.bx k (.arr sz l)) (by simp[Cx.ext,hs.bx])
 have h2:aL (Γ.ext (.cells (cs++rest).toArray e (0,0)) k (.arr sz l)) (.rs k [] 0 l.length l.length sz .tip) (.slice (some ⟨w.heap.size,0,none⟩) l.length cap):=by
  rw[hw];simp only[aL];refine .rs k [] 0 _ _ sz _ _ (.arr sz l) ⟨by simp[Cx.ext,bG],by simp[aV.aO]⟩ rfl (λ_=>⟨_,_,rfl,?_⟩) .nil;unfold ia;have:(Γ.ext (.cells (cs++rest).toArray e (0,0)) k (.arr sz l)).ι k=some Γ.heap.size:=by simp[Cx.ext]
  rw[this];exact⟨Eu,.inr (by simp[bK]),trivial,λ_=>⟨rfl,_,e,hh,by simpa using An⟩⟩
 have h3:=h1.put (d:=some d) (λj hj=>by cases hj;exact dq) h2;exact⟨_,_,_,_,_,fU,.inl rfl,by rw[hk];exact h3,by rw[vK,hw];rfl,hle,uu,hK⟩
theorem wQ {o:Oper} {b:Builtin} {x y:Operand} {t u:TypeId} {f:Array TypeId->TypeId->Array Value->Sem Value} (ho:o.op= .call {callee:= .builtin b,args:= #[x,y],argTypes:= #[t,u]})
  (hb:∀ {c:Array Bool} {args:Array Value},builtin b #[t,u] o.type c args=(do Pure.pure (Next.value (←f #[t,u] o.type args)))):
  execOp a.eval o=(do Pure.pure (Next.value (←f #[t,u] o.type #[a.eval x,a.eval y]))):=by
 have e1:Array.map a.eval #[x,y]= #[a.eval x,a.eval y]:=by simp
 rw[←e1,←hb (c:=(#[x,y]:Array Operand).map λ| .const _=>true|_=>false)];unfold execOp;rw[ho];rfl
theorem kf {o:Oper} {x y:Operand} {t u:TypeId} (ho:o.op= .call {callee:= .builtin .append,args:= #[x,y],argTypes:= #[t,u]}) {r:Value} {w':World}
  (h:(Builtin.append_ #[t,u] o.type #[a.eval x,a.eval y]).run P w= .ok r w'):(execOp a.eval o).run P w= .ok (.value r) w':=by
 have e2:execOp a.eval o=(do Pure.pure (Next.value (←Builtin.append_ #[t,u] o.type #[a.eval x,a.eval y]))):=wQ ho rfl;rw[e2,bJ,h];rfl
theorem aD.Hq {l:List PV} {cs:List Value} {sz:Nat} (h:aD Γ l cs) (hw:∀x∈l,x.width=sz) (n:Nat) (hn:n≤l.length):aD Γ (l.take n) (cs.take (n*sz)):=by
 have e1:l=l.take n++l.drop n:=by rw[JcQ]
 rw[e1]at h;obtain⟨c1,v1,rfl,r1,r2⟩:=h.split;have l1:c1.length=n*sz:=by rw[r1.length,gp hw hn]
 rw[←l1,List.take_left];exact r1
theorem aD.XL {l:List PV} {cs:List Value} {sz:Nat} (h:aD Γ l cs) (hw:∀x∈l,x.width=sz) (n:Nat) (hn:n≤l.length):aD Γ (l.drop n) (cs.drop (n*sz)):=by
 have e1:l=l.take n++l.drop n:=by rw[JcQ]
 rw[e1]at h;obtain⟨c1,v1,rfl,r1,r2⟩:=h.split;have l1:c1.length=n*sz:=by rw[r1.length,gp hw hn]
 rw[←l1,List.drop_left];exact r2
theorem aD.MH {l ys:List PV} {cs news:List Value} {sz:Nat} (h:aD Γ l cs) (hw:∀x∈l,x.width=sz) (hy:aD Γ ys news) (hyw:∀x∈ys,x.width=sz) (off n:Nat) (hn:n≤ys.length) (ho:off+n≤l.length):
  aD Γ (l.take off++ys.take n++l.drop (off+n)) (bm cs (off*sz) (news.take (n*sz))):=by
 have hl:(news.take (n*sz)).length=n*sz:=by
  rw[lJ,hy.length,bf hyw];exact JdW (JcV _ hn)
 simp only[bm,hl];rw[show off*sz+n*sz=(off+n)*sz by rw[JgQ]];exact((h.Hq hw off (by omega)).append (hy.Hq hyw n hn)).append (h.XL hw (off+n) ho)
theorem Cp {cs rest us:List Value} {o:Nat} (h:o+us.length≤cs.length):bm (cs++rest) o us=bm cs o us++rest:=by
 simp only[bm];rw[JfW (by omega),JmQ h,JeJ,JeJ,JeJ]
theorem wR {z:Array Value} (h0:0<z.size) (h:z.toList.all eK=true) {n:Nat}:∀v∈(Builtin.zeroCells z n).toList,eK v=true:=by
 intro v hv;simp only[Builtin.zeroCells,JmW,JhW]at hv;obtain⟨j,_,rfl⟩:=hv;have dq:j%z.size<z.size:=JdZ _ h0;rw[getElem!_pos z _ dq];exact JeX.1 h _ (by simp)
theorem Cq {o:Oper} {t u e:TypeId} {d:TypeDesc} {i:TypeInfo} {z:Value} {x y:Operand} {x' y':AX} {str:Bool} {K:St->Prop} (ho:o.op= .call {callee:= .builtin .append,args:= #[x,y],argTypes:= #[t,u]})
  (ht:P.underlying t=some (.slice e)) (hu:P.underlying u=some d) (D4:(∃x,d= .slice x)∨d= .string) (hi:P.info? e=some i) (hz:i.zero=some z) (hzs:z.cells.size=i.size) (j6:0<i.size) (aeb:z.cells.toList.all eK=true)
  (hx:gv x=some x') (hy:gv y=some y') (hs:gm nt ds s Γ a) (hw:w.heap=Γ.heap) (hd:∀k,o.dst=some k->k<nt) (he:ex s o.dst (.append i.size i.bytes str x' y') K):jT P nt ds o a w Γ K:=by
 simp only[ex]at he;obtain⟨p,hp,tf⟩:=bw hx hs rfl he;obtain⟨q,hq,qZ⟩:=bw hy hs rfl hp;obtain⟨ys,news,hA,A8,Ba,B7⟩:=FN hs hw hq qZ;have lV:news.length=ys.length*i.size:=by rw[Ba.length,bf B7]
 have aar:=Ba.one;have hz1:∀ {n:Nat},∀v∈(Builtin.zeroCells z.cells n).toList,eK v=true:=wR (by omega) aeb
 --a fresh array out of what is there and what comes
 have fresh:∀ {k:Nat} {ad:Option Addr} {l:List PV} {cs:List Value} {aX:Nat},o.dst=some k->a.eval x= .slice ad l.length aX->aX<l.length+ys.length->aD Γ l cs->(∀x∈l,x.width=i.size)->
   (l≠[]->∃b o,ad=some ⟨b,o,none⟩∧∀i c,cs[i]? =some c->cell Γ.heap b (o+i)=some c)->(l.length+ys.length)*i.bytes≤140737488355328->l.length+ys.length≤9223372036854775807->
   ∃
    w' cap,(execOp a.eval o).run P w= .ok (.value (.slice (some ⟨w.heap.size,0,none⟩) (l++ys).length cap)) w'∧(l++ys).length≤cap∧WF w w'∧
    w'.heap=w.heap.push (.cells ((cs++news)++(Builtin.zeroCells z.cells (cap-(l.length+ys.length))).toList).toArray e (0,0))∧cap*i.size=((cs++news)++(Builtin.zeroCells z.cells (cap-(l.length+ys.length))).toList).length:=by
  intro k ad l cs aX hk hv dq hl nJ nI hb h63
  have rD:cs.length=l.length*i.size:=by rw[hl.length,bf nJ]
  obtain⟨w',cap,r1,r2,r3,r4⟩:=zh (P:=P) (w:=w) (ty:=o.type) ht hu D4 hi hz (ad:=ad) (sLen:=l.length) (sCap:=aX) (n:=ys.length) (y:=a.eval y) (olds:=cs) (news:=news)
   (.inl ⟨ad,aX,rfl,λj6=>by rw[hw];exact nI (by intro h;subst h;simp at j6)⟩) rD A8 lV dq h63 hb
  refine⟨w',cap,?_,by simpa using r2,r4,by simpa using r3,?_⟩
  ·rw[←hv]at r1
   rw[JaJ]
   exact kf ho r1
  ·simp only[JaJ,JbZ,sC,hzs,rD,lV,←JgQ]
   congr 1;omega
 unfold fW at hA;split at hA
 ·exact hA.elim
 ·rename_i k hk;split at hA
  ·rename_i sz0 l;obtain⟨⟨h1,h2,h3,h4⟩,hK⟩:=hA;obtain⟨ad,aX,cs,hv,hl,nJ,hc,Sc,hb⟩:=tf.sl;have hrc:=Sc rfl;subst hrc;by_cases Fu:ys=[]
   ·subst Fu;have Sb:l=[]:=by rcases h2 with h2|h2;exact h2;exact absurd rfl h2.2
    subst Sb;have Mi:news=[]:=JdV (by simpa using lV);subst Mi;have:=nS (P:=P) (w:=w) (ty:=o.type) ht hu D4 hi (ad:=ad) (sLen:=0) (sCap:=0) A8 (JaQ _);rw[show Value.slice ad 0 0=a.eval x from hv.symm]at this;exact MD (ad:=ad) hs hw hk (hd k hk) h1 j6 (by rw[kf ho this,hv];rfl) hK
   ·have an5:∀x∈l,x.width=i.size:=by
     rcases h2 with h2|h2
     ·subst h2;simp
     ·rw[←h2.1];exact nJ
    have Fv:0<ys.length:=JkJ.2 Fu;obtain⟨w',cap,r1,r2,r3,r4,r5⟩:=fresh hk hv (by omega) hl an5 (λcI=>let⟨b,o,g1,_,_,g4⟩:=hb cI;⟨b,o,g1,g4⟩) h3 h4;exact qg hs hw hk (hd k hk) h1 j6 (hl.append Ba) (λx hx=>(JaZ.1 hx).elim (an5 x) (B7 x)) r5 r2 hz1 r1 r4 r3 (by rw[JaJ];exact hK)
  ·rename_i k2 len aO bP;split at hA
   ·rename_i sz'' l hg;obtain⟨⟨h1,h2,h3,h4,h5,h6⟩,hK⟩:=hA;subst h1 h2 h3 h4;have lI:=hg;rw[←hs.bx]at lI;obtain⟨ad,aX,hv,dh⟩:=tf.rs lI rfl;obtain⟨nJ,_,lG⟩:=hs.mem.blk k2 _ lI;unfold ia at dh;cases hι:Γ.ι k2 with
    |
     none=>
     rw[hι]at dh
     have Sb:l=[]:=JdV dh.1
     subst Sb
     obtain⟨_,rfl,_⟩:=dh
     by_cases Fu:ys=[]
     ·subst Fu
      have Mi:news=[]:=JdV (by simpa using lV)
      subst Mi
      have:=nS (P:=P) (w:=w) (ty:=o.type) ht hu D4 hi (ad:=ad) (sLen:=0) (sCap:=0) A8 (JaQ _)
      rw[show Value.slice ad 0 0=a.eval x from hv.symm]at this
      have lh:=mW lI
      have q1:=hs.le (qi lh) (Co hs.mem lh) (xU:=put s.bx k2 (.arr i.size [])) (by rw[hs.bx])
      have q2:=(tf.mono (qi lh))
      have q3:=q1.put (d:=some k) (λj hj=>by cases hj;exact hd k hk) q2
      exact⟨_,_,w,_,{Γ with bx:=put Γ.bx k2 (.arr i.size [])},kf ho this,.inl rfl,by rw[hk];exact q3,hw,qi lh,WF.refl w,hK⟩
     ·have Fv:0<ys.length:=JkJ.2 Fu
      obtain⟨w',cap,r1,r2,r3,r4,r5⟩:=fresh (l:=[]) (cs:=[]) hk hv (by simpa using Fv) .nil (by simp) (by simp) (by simpa using h5) (by simpa using h6)
      exact EG (l:=[]++ys) hs hw hk (hd k hk) hg (by simpa[aV.aO]using Fv) j6 (aD.nil.append Ba) (by simpa using B7) r5 r2 hz1 r1 r4 r3 (by rw[JaJ];exact hK)
    |
     some b=>
     rw[hι]at dh lG
     obtain⟨o1,o2,_,o4⟩:=dh
     obtain⟨_,Mj,e0,q1,q2⟩:=o4 rfl
     obtain⟨c,ce,cs,rest,h7,h8,h9,Jb⟩:=lG
     rw[q1]at h7
     simp only[sJ,Obj.cells.injEq]at h7
     obtain⟨rfl,rfl,_⟩:=h7
     have rD:cs.length=l.length*i.size:=by rw[h9.length,bf nJ]
     have Sj:Mj.size=cs.length+rest.length:=by rw[←JbZ,h8];simp
     simp only[JhQ]at q2
     by_cases wX:l.length+ys.length≤aX
     ·by_cases hz0:aX=0
      ·have Sb:l=[]:=JdV (by omega)
       have hy0:ys=[]:=JdV (by omega)
       subst Sb hy0 hz0
       have Mi:news=[]:=JdV (by simpa using lV)
       subst Mi
       have:=nS (P:=P) (w:=w) (ty:=o.type) ht hu D4 hi (ad:=ad) (sLen:=0) (sCap:=0) A8 (JaQ _)
       rw[show Value.slice ad 0 0=a.eval x from hv.symm]at this
       have lh:=mW lI
       have q1:=hs.le (qi lh) (Co hs.mem lh) (xU:=put s.bx k2 (.arr i.size [])) (by rw[hs.bx])
       have q2:=(tf.mono (qi lh))
       have q3:=q1.put (d:=some k) (λj hj=>by cases hj;exact hd k hk) q2
       exact⟨_,_,w,_,{Γ with bx:=put Γ.bx k2 (.arr i.size [])},kf ho this,.inl rfl,by rw[hk];exact q3,hw,qi lh,WF.refl w,hK⟩
      ·rcases o2 with o2|rfl
       ·exact absurd o2 hz0
       simp only[bK,Nat.zero_mul,JnQ]at hv
       have Bh:0+l.length*i.size+ys.length*i.size≤Mj.size:=by
        rw[←q2,JhQ,←JgQ];exact JcV _ wX
       obtain⟨w',r1,r2,r3⟩:=sD (P:=P) (w:=w) (ty:=o.type) ht hu D4 hi (b:=b) (o:=0) (sLen:=l.length) (sCap:=aX) (n:=ys.length) (c:=Mj) (ce:=e0) A8 lV aar wX (by rw[hw];exact q1) Bh
       rw[←hv]at r1
       have KH:bm Mj.toList (0+l.length*i.size) news=(cs++news)++rest.drop news.length:=by
        rw[h8,JhQ,←rD];simp only[bm];rw[List.take_left,←JiW,List.drop_left]
       have Oh:(bm Mj.toList (0+l.length*i.size) news).toArray.size=Mj.size:=by
        have:=dO (cs:=Mj.toList) (us:=news) (o:=0+l.length*i.size) (by rw[lV];simpa using Bh);simpa using this
       have hle:=mV (Γ:=Γ) (bn:= .arr i.size (l++ys)) lI hι q1 Oh (by simp[aV.aO])
       have Ey:(aV.arr i.size (l++ys)).xM (Γ.gx b (.cells (bm Mj.toList (0+l.length*i.size) news).toArray e0 (0,0)) k2 (.arr i.size (l++ys))) (some b):=
        ⟨λx hx=>(JaZ.1 hx).elim (nJ x) (B7 x),j6,_,e0,cs++news,rest.drop news.length,by simp only[Cx.gx];rw[uJ (bN q1)],by simpa using KH,(h9.append Ba).mono hle,λv hv=>Jb v (JdJ hv)⟩
       have iD:=pD (Γ:=Γ) (bn:= .arr i.size (l++ys)) hs.mem lI hι q1 Oh (by simp[aV.aO]) Ey
       have t1:=hs.le hle iD (xU:=put s.bx k2 (.arr i.size (l++ys))) (by simp[Cx.gx,hs.bx])
       have t2:aL (Γ.gx b (.cells (bm Mj.toList (0+l.length*i.size) news).toArray e0 (0,0)) k2 (.arr i.size (l++ys))) (.rs k2 [] 0 (l.length+ys.length) (l.length+ys.length) i.size .tip) (.slice (some ⟨b,0,none⟩) (l.length+ys.length) aX):=by
        simp only[aL];refine .rs k2 [] 0 _ _ i.size _ _ (.arr i.size (l++ys)) ⟨by simp[Cx.gx,bG],by simp[aV.aO]⟩ rfl (λ_=>⟨_,_,rfl,?_⟩) .nil;unfold ia;rw[show(Γ.gx b (.cells (bm Mj.toList (0+l.length*i.size) news).toArray e0 (0,0)) k2 (.arr i.size (l++ys))).ι k2=some b from hι];refine⟨wX,.inr (by simp[bK]),trivial,λ_=>⟨rfl,_,e0,by simp only[Cx.gx];rw[uJ (bN q1)],by rw[Oh,JhQ];exact q2⟩⟩
       have t3:=t1.put (d:=some k) (λj hj=>by cases hj;exact hd k hk) t2
       exact⟨_,_,w',_,_,kf ho r1,.inl rfl,by rw[hk];exact t3,by rw[r2,hw];rfl,hle,r3,hK⟩
     ·have nI:l≠[]->∃b o,ad=some ⟨b,o,none⟩∧∀i c,cs[i]? =some c->cell Γ.heap b (o+i)=some c:=by
       intro cI;have:=JkJ.2 cI;rcases o2 with o2|rfl
       ·omega
       exact⟨b,_,rfl,by simpa[bK]using mq q1 cs rest h8⟩
      obtain⟨w',cap,r1,r2,r3,r4,r5⟩:=fresh hk hv (by omega) h9 nJ nI h5 h6;have hy0:0<ys.length:=by omega
      exact EG (l:=l++ys) hs hw hk (hd k hk) hg (by simp[aV.aO];omega) j6 (h9.append Ba) (λx hx=>(JaZ.1 hx).elim (nJ x) (B7 x)) r5 r2 hz1 r1 r4 r3 (by rw[JaJ];exact hK)
   ·exact hA.elim
  ·rename_i k2 len aO bP n;split at hA
   ·rename_i sz'' l hg;obtain⟨⟨h1,h2,h3,hln,avs,Fu,gS,h5,h6⟩,hK1,sr⟩:=hA;subst h1 h2 h3;have lI:=hg;rw[←hs.bx]at lI;obtain⟨ad,aX,hv,dh⟩:=tf.rs lI rfl;obtain⟨nJ,_,lG⟩:=hs.mem.blk k2 _ lI;have Fv:0<ys.length:=JkJ.2 Fu;have hwt:∀x∈l.take len,x.width=i.size:=λx hx=>nJ x (JbX hx);have Fw:(l.take len).length=len:=by rw[lJ];omega
    unfold ia at dh;cases hι:Γ.ι k2 with
    |
     none=>
     rw[hι]at dh
     obtain⟨rfl,rfl,xF⟩:=dh
     simp only[pv]at xF
     subst xF
     obtain⟨w',cap,r1,r2,r3,r4,r5⟩:=fresh (l:=[]) (cs:=[]) hk hv (by simpa using Fv) .nil (by simp) (by simp) (by simpa using h5) (by simpa using h6)
     exact qg (l:=[]++ys) hs hw hk (hd k hk) gS j6 (aD.nil.append Ba) (by simpa using B7) r5 r2 hz1 r1 r4 r3 (by
      have:=sr (by omega);rw[JnJ]at this;rw[JaJ];simpa using this)
    |
     some b=>
     rw[hι]at dh lG
     obtain⟨o1,o2,xF,_⟩:=dh
     simp only[pv]at xF
     subst xF
     obtain⟨c,ce,cs,rest,h7,h8,h9,Jb⟩:=lG
     have rD:cs.length=l.length*i.size:=by rw[h9.length,bf nJ]
     have Sj:c.size=cs.length+rest.length:=by rw[←JbZ,h8];simp
     have h9t:=h9.Hq nJ len (by omega)
     by_cases wX:len+ys.length≤aX
     ·have hz0:aX≠0:=by omega
      rcases o2 with o2|rfl
      ·exact absurd o2 hz0
      simp only[bK,Nat.zero_mul,JnQ]at hv
      have Bh:0+len*i.size+ys.length*i.size≤cs.length:=by
       rw[rD,JhQ,←JgQ];exact JcV _ (by omega)
      obtain⟨w',r1,r2,r3⟩:=sD (P:=P) (w:=w) (ty:=o.type) ht hu D4 hi (b:=b) (o:=0) (sLen:=len) (sCap:=aX) (n:=ys.length) (c:=c) (ce:=ce) A8 lV aar wX (by rw[hw];exact h7) (by omega)
      rw[←hv]at r1
      have Xp:=h9.MH nJ Ba B7 len ys.length (JaQ _) (by omega)
      rw[JcJ]at Xp
      have KH:bm c.toList (0+len*i.size) news=bm cs (len*i.size) news++rest:=by
       rw[h8,JhQ];exact Cp (by rw[lV];omega)
      have Oh:(bm c.toList (0+len*i.size) news).toArray.size=c.size:=by
       have:=dO (cs:=c.toList) (us:=news) (o:=0+len*i.size) (by simp only[JbZ,lV];omega);simpa using this
      have aec:(aV.arr i.size l).aO=(aV.arr i.size (l.take len++ys++l.drop (len+ys.length))).aO:=by simp[aV.aO];omega
      have hle:=mV (Γ:=Γ) (bn:= .arr i.size (l.take len++ys++l.drop (len+ys.length))) lI hι h7 Oh (by omega)
      have avt:∀x∈l.take len++ys++l.drop (len+ys.length),x.width=i.size:=by
       intro x hx;rcases JaZ.1 hx with hx|hx
       ·rcases JaZ.1 hx with hx|hx
        ·exact hwt x hx
        ·exact B7 x hx
       ·exact nJ x (JdJ hx)
      rw[show news.take (ys.length*i.size)=news from tJ (by omega)]at Xp
      have Ey:(aV.arr i.size (l.take len++ys++l.drop (len+ys.length))).xM (Γ.gx b (.cells (bm c.toList (0+len*i.size) news).toArray ce (0,0)) k2 (.arr i.size (l.take len++ys++l.drop (len+ys.length)))) (some b):=
       ⟨avt,j6,_,ce,bm cs (len*i.size) news,rest,by simp only[Cx.gx];rw[uJ (bN h7)],by simpa using KH,Xp.mono hle,Jb⟩
      have iD:=pD (Γ:=Γ) (bn:= .arr i.size (l.take len++ys++l.drop (len+ys.length))) hs.mem lI hι h7 Oh (by omega) Ey
      have t1:=hs.le hle iD (xU:=put s.bx k2 (.arr i.size (l.take len++ys++l.drop (len+ys.length)))) (by simp[Cx.gx,hs.bx])
      have t2:aL (Γ.gx b (.cells (bm c.toList (0+len*i.size) news).toArray ce (0,0)) k2 (.arr i.size (l.take len++ys++l.drop (len+ys.length)))) (.rs k2 [] 0 (len+ys.length) l.length i.size (.full aX)) (.slice (some ⟨b,0,none⟩) (len+ys.length) aX):=by
       simp only[aL];refine .rs k2 [] 0 _ _ i.size _ _ (.arr i.size (l.take len++ys++l.drop (len+ys.length))) ⟨by simp[Cx.gx,bG],by rw[←aec];simp[aV.aO]⟩ rfl (λ_=>⟨_,_,rfl,?_⟩) .nil;unfold ia;rw[show(Γ.gx b (.cells (bm c.toList (0+len*i.size) news).toArray ce (0,0)) k2 (.arr i.size (l.take len++ys++l.drop (len+ys.length)))).ι k2=some b from hι];exact⟨wX,.inr (by simp[bK]),rfl,λhc=>by cases hc⟩
      have t3:=t1.put (d:=some k) (λj hj=>by cases hj;exact hd k hk) t2
      exact⟨_,_,w',_,_,kf ho r1,.inl rfl,by rw[hk];exact t3,by rw[r2,hw];rfl,hle,r3,hK1 wX⟩
     ·have nI:l.take len≠[]->∃b o,ad=some ⟨b,o,none⟩∧∀j x,(cs.take (len*i.size))[j]? =some x->cell Γ.heap b (o+j)=some x:=by
       intro cI;have:=JkJ.2 cI;rcases o2 with o2|rfl
       ·omega
       refine⟨b,_,rfl,λj x hj=> ?_⟩;have hb:=mq h7 cs rest h8
       have Ez:cs[j]? =some x:=by
        rw[List.getElem?_take]at hj;split at hj
        ·exact hj
        ·cases hj
       simpa[bK]using hb j x Ez
      obtain⟨w',cap,r1,r2,r3,r4,r5⟩:=fresh (l:=l.take len) hk (by rw[Fw];exact hv) (by rw[Fw];omega) h9t hwt nI (by rw[Fw];exact h5) (by rw[Fw];exact h6);exact qg (l:=l.take len++ys) hs hw hk (hd k hk) gS j6 (h9t.append Ba) (λx hx=>(JaZ.1 hx).elim (hwt x) (B7 x)) r5 r2 hz1 r1 r4 r3 (by rw[JaJ,Fw];exact sr (by omega))
   ·exact hA.elim
  ·rename_i k2 p off len aO bP;obtain⟨sz'',l,cs,ad,aX,⟨⟨h1,rfl,h3,h4,h5⟩,hK⟩,hv,hl,nI,hle,nJ⟩:=rb hs hA tf
   have hrc:aX=l.length:=by
    have Tk:=hA;simp only[content]at Tk;split at Tk
    ·rename_i hb;rw[←hs.bx]at hb;obtain⟨ad2,an6,nL,dh⟩:=tf.rs hb (by simpa[aV.aO]using Tk.1.1);rw[hv]at nL;simp only[Value.slice.injEq]at nL;obtain⟨rfl,KG,rfl⟩:=nL;unfold ia at dh;split at dh
     ·omega
     ·have:=dh.2.2.1.clip rfl;omega
    ·rename_i hb;split at Tk
     ·rw[←hs.bx]at hb;obtain⟨ad2,an6,nL,dh⟩:=tf.rs hb (by simpa[aV.aO]using Tk.1.1);rw[hv]at nL;simp only[Value.slice.injEq]at nL;obtain⟨rfl,KG,rfl⟩:=nL;unfold ia at dh;split at dh
      ·omega
      ·have:=dh.2.2.1.clip rfl;omega
     ·exact Tk.elim
    ·exact Tk.elim
   have Fv:0<ys.length:=JkJ.2 h3;obtain⟨w',cap,r1,r2,r3,r4,r5⟩:=fresh hk hv (by omega) hl nJ nI h4 h5;exact qg hs hw hk (hd k hk) h1 j6 (hl.append Ba) (λx hx=>(JaZ.1 hx).elim (nJ x) (B7 x)) r5 r2 hz1 r1 r4 r3 (by rw[JaJ];exact hK)
  ·exact hA.elim
end Go.Ab
namespace Go.Ab
variable [cL]
variable {P:Program} {nt:Nat} {ds:List Deferred} {s:St} {Γ:Cx} {a:Act} {w:World}
theorem O6 {o:Oper} {t u e:TypeId} {sz:Nat} {x y:Operand} {x' y':AX} {K:St->Prop} (ho:o.op= .call {callee:= .builtin .copy,args:= #[x,y],argTypes:= #[t,u]})
  (ht:P.underlying t=some (.slice e)) (fH:gT P e=some sz) (hx:gv x=some x') (hy:gv y=some y') (hs:gm nt ds s Γ a) (hw:w.heap=Γ.heap) (hd:∀k,o.dst=some k->k<nt) (he:ex s o.dst (.copy sz x' y') K):jT P nt ds o a w Γ K:=by
 simp only[ex]at he;obtain⟨p,hp,tf⟩:=bw hx hs rfl he;obtain⟨q,hq,qZ⟩:=bw hy hs rfl hp
 have hA:∃ys news,ke s o.dst sz p ys K∧sA w sz ys.length (a.eval y) news∧aD Γ ys news∧(∀x∈ys,x.width=sz):=by
  split at hq
  ·exact FN hs hw hq qZ
  ·exact FN hs hw hq qZ
 obtain⟨ys,news,hA,A8,Ba,B7⟩:=hA;have lV:news.length=ys.length*sz:=by rw[Ba.length,bf B7]
 have DU:∀ {r:Value} {w':World},(Builtin.copy_ #[t,u] o.type #[a.eval x,a.eval y]).run P w= .ok r w'->(execOp a.eval o).run P w= .ok (.value r) w':=by
  intro r w' h;rw[wQ ho rfl,bJ,h];rfl
 --nothing copied
 have none:∀ {ad:Option Addr} {len cap:Nat},a.eval x= .slice ad len cap->min ys.length len=0->(execOp a.eval o).run P w= .ok (.value (.int .i64 0)) w:=by
  intro ad len cap hv h0;refine DU ?_;have hlen:=sB (P:=P) A8
  have hf:(Builtin.firstCells sz 0 (a.eval y)).run P w= .ok #[] w:=by
   rcases A8 with⟨ad2,rc,nL,h⟩|⟨str,nL,h2,rfl,rfl⟩
   ·rw[nL];cases ad2<;>simp[Builtin.firstCells,loadCells,loadCellsFrom]
   ·rw[nL];simp[Builtin.firstCells]
  have Of:Nat.min ys.length len=0:=h0;rw[hv];cases ad<;>simp[Builtin.copy_,run_underlying ht,run_sizeOf fH,hlen,Of,hf,goInt,storeCells]
 unfold ke at hA;split at hA
 ·rename_i k pth off len aO bP ck;split at hA
  ·rename_i sz'' l hg;obtain⟨⟨h1,rfl,rfl,rfl,h4⟩,hK⟩:=hA;have lI:=hg;rw[←hs.bx]at lI;obtain⟨ad,aX,hv,dh⟩:=tf.rs lI (by simpa[aV.aO]using h1);obtain⟨nJ,j6,lG⟩:=hs.mem.blk k _ lI;by_cases h0:min ys.length len=0
   ·rw[h0]at hK;have lh:∀i,get (put Γ.bx k (.arr sz'' (l.take off++ys.take 0++l.drop (off+0)))) i=get Γ.bx i:=mW (by simpa using lI);have q1:=hs.le (qi lh) (Co hs.mem lh) (xU:=put s.bx k (.arr sz'' (l.take off++ys.take 0++l.drop (off+0)))) (by rw[hs.bx]);have q3:=q1.put (p:= .int .i64 0) (v:= .int .i64 0) hd cy;exact⟨_,_,w,_,_,none hv h0,.inl rfl,q3,hw,qi lh,WF.refl w,hK⟩
   ·unfold ia at dh;cases hι:Γ.ι k with
    |none=>rw[hι]at dh;omega
    |
     some b=>
     rw[hι]at dh lG
     obtain⟨o1,o2,_,_⟩:=dh
     rcases o2 with o2|rfl
     ·omega
     obtain⟨c,ce,cs,rest,h7,h8,h9,Jb⟩:=lG
     have rD:cs.length=l.length*sz'':=by rw[h9.length,bf nJ]
     have Sj:c.size=cs.length+rest.length:=by rw[←JbZ,h8];simp
     have Bh:off*sz''+(min ys.length len)*sz''≤cs.length:=by
      rw[rD,←JgQ];exact JcV _ (by omega)
     simp only[bK,JhQ]at hv
     obtain⟨w',r1,r2,r3⟩:=EE (P:=P) (w:=w) (u:=u) (ty:=o.type) ht fH (b:=b) (o:=off*sz'') (dLen:=len) (dCap:=aX) (n:=min ys.length len) (c:=c) (ce:=ce) A8 lV rfl Ba.one (by rw[hw];exact h7) (by omega)
     rw[←hv]at r1
     have dq:(news.take (min ys.length len*sz'')).length=min ys.length len*sz'':=by rw[lJ,lV];exact JdW (JcV _ (by omega))
     have KH:bm c.toList (off*sz'') (news.take (min ys.length len*sz''))=bm cs (off*sz'') (news.take (min ys.length len*sz''))++rest:=by
      rw[h8];exact uT.splice_append (by omega)
     have DV:(bm c.toList (off*sz'') (news.take (min ys.length len*sz''))).toArray.size=c.size:=by
      have:=dO (cs:=c.toList) (us:=news.take (min ys.length len*sz'')) (o:=off*sz'') (by simp only[JbZ];omega);simpa using this
     have aec:(aV.arr sz'' (l.take off++ys.take (min ys.length len)++l.drop (off+min ys.length len))).aO=(aV.arr sz'' l).aO:=by simp[aV.aO];omega
     have hle:=mV (Γ:=Γ) (bn:= .arr sz'' (l.take off++ys.take (min ys.length len)++l.drop (off+min ys.length len))) lI hι h7 DV (by omega)
     have iD:=pD (Γ:=Γ) (bn:= .arr sz'' (l.take off++ys.take (min ys.length len)++l.drop (off+min ys.length len))) hs.mem lI hι h7 DV (by omega)
      ⟨λx hx=>by
       rcases JaZ.1 hx with hx|hx
       ·rcases JaZ.1 hx with hx|hx
        ·exact nJ x (JbX hx)
        ·exact B7 x (JbX hx)
       ·exact nJ x (JdJ hx),j6,_,ce,_,rest,by simp only[Cx.gx];rw[uJ (bN h7)],by simpa using KH,
       (h9.MH nJ Ba B7 off (min ys.length len) (by omega) (by omega)).mono hle,Jb⟩
     have t1:=hs.le hle iD (xU:=put s.bx k (.arr sz'' (l.take off++ys.take (min ys.length len)++l.drop (off+min ys.length len)))) (by simp[Cx.gx,hs.bx])
     have t3:=t1.put (p:= .int .i64 (min ys.length len:Nat)) (v:= .int .i64 (min ys.length len:Nat)) hd cy
     exact⟨_,_,w',_,_,DU r1,.inl rfl,t3,by rw[r2,hw];rfl,hle,r3,hK⟩
  ·rename_i v hg;split at hA
   ·rename_i sz'' n l KE;split at hA
    ·rename_i v' GW;obtain⟨⟨h1,rfl,rfl,h4⟩,hK⟩:=hA;have lI:=hg;rw[←hs.bx]at lI;obtain⟨ad,aX,hv,dh⟩:=tf.rs lI (by simpa[aV.aO]using h1);unfold ia at dh;obtain⟨b,c,ce,hι,h7,h8⟩:=hs.mem.blk k _ lI;rw[hι]at dh;obtain⟨o1,o2,_,_⟩:=dh;obtain⟨g1,g2⟩:=sv pth h8 KE;obtain⟨hl,hn,nJ⟩:=g2.nQ;have aed:PV.width (.ar sz'' n l)=n*sz'':=rfl;rw[aed]at g1 g2 hl;have Sk:=hl.MH nJ Ba B7 off (min ys.length len) (by omega) (by omega);have dq:(news.take (min ys.length len*sz'')).length=min ys.length len*sz'':=by rw[lJ,lV];exact JdW (JcV _ (by omega))
     have Bh:off*sz''+(min ys.length len)*sz''≤n*sz'':=by rw[←JgQ];exact JcV _ (by omega)
     have D0:aD Γ [.ar sz'' n (l.take off++ys.take (min ys.length len)++l.drop (off+min ys.length len))] (bm ((c.toList.drop (bK pth)).take (n*sz'')) (off*sz'') (news.take (min ys.length len*sz''))):=
      Sk.Tw (by simp;omega) (λx hx=>by
       rcases JaZ.1 hx with hx|hx
       ·rcases JaZ.1 hx with hx|hx
        ·exact nJ x (JbX hx)
        ·exact B7 x (JbX hx)
       ·exact nJ x (JdJ hx))
     obtain⟨c2,e2,k1,k2,k3,k4⟩:=uT (bn:= .box v') (pth:=pth) hs.mem lI hι D0 (by simp only[uP,GW]);rw[h7]at k1;simp only[sJ,Obj.cells.injEq]at k1;obtain⟨rfl,rfl,_⟩:=k1;have OG:=rG (cs:=c.toList) (us:=news.take (min ys.length len*sz'')) (o:=bK pth) (m:=n*sz'') (p:=off*sz'') g1 (by omega);by_cases h0:min ys.length len=0
     ·rw[h0]at hK;have aee:news.take (min ys.length len*sz'')=[]:=by rw[h0];simp
      have uv:(bm c.toList (bK pth) (bm ((c.toList.drop (bK pth)).take (n*sz'')) (off*sz'') (news.take (min ys.length len*sz''))))=c.toList:=by
       rw[OG,aee];simp[bm]
      have hle:=mV (Γ:=Γ) (c':=c) (bn:= .box v') lI hι h7 rfl (JaQ _);have iD:=pD (Γ:=Γ) (c':=c) (bn:= .box v') hs.mem lI hι h7 rfl (JaQ _) (k4 c uv.symm);have t1:=hs.le hle iD (xU:=put s.bx k (.box v')) (by simp[Cx.gx,hs.bx]);have t3:=t1.put (p:= .int .i64 0) (v:= .int .i64 0) hd cy;refine⟨_,_,w,_,_,none hv h0,.inl rfl,t3,?_,hle,WF.refl w,hK⟩;simp only[Cx.gx];rw[hw];apply Array.ext_getElem?;intro j;by_cases hj:b=j
      ·subst hj;rw[uJ (bN h7)];exact h7
      ·rw[Array.getElem?_setIfInBounds_ne hj]
     ·rcases o2 with o2|rfl
      ·omega
      obtain⟨w',r1,r2,r3⟩:=EE (P:=P) (w:=w) (u:=u) (ty:=o.type) ht fH (b:=b) (o:=bK pth+off*sz'') (dLen:=len) (dCap:=aX) (n:=min ys.length len) (c:=c) (ce:=ce) A8 lV rfl Ba.one (by rw[hw];exact h7) (by simp only[JbZ]at g1;omega);rw[←hv]at r1;rw[←OG]at r2
      have DV:(bm c.toList (bK pth) (bm ((c.toList.drop (bK pth)).take (n*sz'')) (off*sz'') (news.take (min ys.length len*sz'')))).toArray.size=c.size:=by
       rw[OG];have:=dO (cs:=c.toList) (us:=news.take (min ys.length len*sz'')) (o:=bK pth+off*sz'') (by simp only[JbZ]at g1⊢;omega);simpa using this
      have hle:=mV (Γ:=Γ) (bn:= .box v') lI hι h7 DV (JaQ _);have iD:=pD (Γ:=Γ) (bn:= .box v') hs.mem lI hι h7 DV (JaQ _) (k4 _ (by simp));have t1:=hs.le hle iD (xU:=put s.bx k (.box v')) (by simp[Cx.gx,hs.bx]);have t3:=t1.put (p:= .int .i64 (min ys.length len:Nat)) (v:= .int .i64 (min ys.length len:Nat)) hd cy;exact⟨_,_,w',_,_,DU r1,.inl rfl,t3,by rw[r2,hw];rfl,hle,r3,hK⟩
    ·exact hA.elim
   ·exact hA.elim
  ·exact hA.elim
 ·exact hA.elim
theorem Ea {z:PV} {zv:Value} (h:aD Γ [z] zv.cells.toList) (n:Nat):aD Γ (List.replicate n z) (Builtin.zeroCells zv.cells n).toList:=by
 have e:(Builtin.zeroCells zv.cells n).toList=(List.replicate n zv.cells.toList).flatten:=lX zv.cells n;rw[e];exact iO h n
theorem Cr {t e:TypeId} {ty:TypeId} {zv:Value} (ht:P.underlying t=some (.slice e)) (OF:∀w,(zeroValue e).run P w= .ok zv w)
  {b o dLen dCap m:Nat} {news:List Value} {c:Array Value} {ce:TypeId} (hm:news.take m=news) (h0:0<dLen) (hn:news=(Builtin.zeroCells zv.cells dLen).toList) (h1:∀v∈news,eK v=true)
  (hb:w.heap[b]? =some (.cells c ce (0,0))) (Bh:o+news.length≤c.size):
  ∃
   w',(Builtin.clear_ #[t] ty #[.slice (some ⟨b,o,none⟩) dLen dCap]).run P w= .ok (.tuple #[]) w'∧
   w'.heap=w.heap.setIfInBounds b (.cells (bm c.toList o (news.take m)).toArray ce (0,0))∧WF w w':=by
 rw[hm];obtain⟨w',g1,g2,g3⟩:=ka (P:=P) news w b o 0 c ce hb (by omega) h1;refine⟨w',?_,by simpa using g2,g3⟩;obtain⟨m,rfl⟩:∃m,dLen=m+1:=⟨dLen-1,by omega⟩
 rw[hn]at g1;simp[Builtin.clear_,run_underlying ht,OF,g1]
theorem O7 {o:Oper} {t e:TypeId} {sz:Nat} {z:PV} {x:Operand} {x':AX} {K:St->Prop} (ho:o.op= .call {callee:= .builtin .clear,args:= #[x],argTypes:= #[t]})
  (ht:P.underlying t=some (.slice e)) (fH:gT P e=some sz) (hz:zeroOf P e=some z) (hx:gv x=some x') (hs:gm nt ds s Γ a) (hw:w.heap=Γ.heap) (he:ex s o.dst (.fill sz z x') K):jT P nt ds o a w Γ K:=by
 simp only[ex]at he;obtain⟨p,hp,tf⟩:=bw hx hs rfl he;obtain⟨hdn,hp⟩:=hp;split at hp
 case h_2=>exact hp.elim
 rename_i k pth off len aO bP ck;obtain⟨zv,OF,Tj,DT,_,hzs⟩:=j9 (Γ:=Γ) hz;have Xn:z.width=sz:=by rw[fH]at DT;exact(Option.some.inj DT).symm
 obtain⟨ys,Fu⟩:∃ys,ys=List.replicate len z:=⟨_,rfl⟩
 obtain⟨news,Sl⟩:∃news,news=(Builtin.zeroCells zv.cells len).toList:=⟨_,rfl⟩
 have Ba:aD Γ ys news:=by rw[Fu,Sl];exact Ea Tj len
 have B7:∀x∈ys,x.width=sz:=by rw[Fu];intro x hx;rw[JlW hx];exact Xn
 have lV:news.length=ys.length*sz:=by rw[Ba.length,bf B7]
 have Xq:ys.length=len:=by rw[Fu];simp
 have hA:ke s none sz (.rs k pth off len aO bP ck) ys K:=by rw[Fu];exact hp
 have DU:∀ {r:Value} {w':World},(Builtin.clear_ #[t] o.type #[a.eval x]).run P w= .ok r w'->(execOp a.eval o).run P w= .ok (.value r) w':=by
  intro r w' h
  have e1:execOp a.eval o=(do Pure.pure (Next.value (←Builtin.clear_ #[t] o.type #[a.eval x]))):=by
   have e0:Array.map a.eval #[x]= #[a.eval x]:=by simp
   rw[←e0];have hb:builtin .clear #[t] o.type ((#[x]:Array Operand).map λ| .const _=>true|_=>false) (Array.map a.eval #[x])=(do Pure.pure (Next.value (←Builtin.clear_ #[t] o.type (Array.map a.eval #[x])))):=rfl;rw[←hb];unfold execOp;rw[ho];rfl
  rw[e1,bJ,h];rfl
 have none:∀ {ad:Option Addr} {len cap:Nat},a.eval x= .slice ad len cap->len=0->(execOp a.eval o).run P w= .ok (.value (.tuple #[])) w:=by
  intro ad len cap hv h0;refine DU ?_;rw[hv,h0];cases ad<;>simp[Builtin.clear_,run_underlying ht]
 unfold jT;rw[hdn];have Tl:min ys.length len=len:=by rw[Xq,Nat.min_self]
 have lW:news.take (min ys.length len*sz)=news:=tJ (by rw[lV,Tl,Xq];exact JaQ _);unfold ke at hA;simp only at hA
 ·skip
  split at hA
  ·rename_i sz'' l hg;obtain⟨⟨h1,rfl,rfl,rfl,h4⟩,hK⟩:=hA;have lI:=hg;rw[←hs.bx]at lI;obtain⟨ad,aX,hv,dh⟩:=tf.rs lI (by simpa[aV.aO]using h1);obtain⟨nJ,j6,lG⟩:=hs.mem.blk k _ lI;by_cases h0:min ys.length len=0
   ·rw[h0]at hK;have lh:∀i,get (put Γ.bx k (.arr sz'' (l.take off++ys.take 0++l.drop (off+0)))) i=get Γ.bx i:=mW (by simpa using lI);have q1:=hs.le (qi lh) (Co hs.mem lh) (xU:=put s.bx k (.arr sz'' (l.take off++ys.take 0++l.drop (off+0)))) (by rw[hs.bx]);exact⟨_,_,w,_,_,none hv (by omega),.inl rfl,q1,hw,qi lh,WF.refl w,hK⟩
   ·unfold ia at dh;cases hι:Γ.ι k with
    |none=>rw[hι]at dh;omega
    |
     some b=>
     rw[hι]at dh lG
     obtain⟨o1,o2,_,_⟩:=dh
     rcases o2 with o2|rfl
     ·omega
     obtain⟨c,ce,cs,rest,h7,h8,h9,Jb⟩:=lG
     have rD:cs.length=l.length*sz'':=by rw[h9.length,bf nJ]
     have Sj:c.size=cs.length+rest.length:=by rw[←JbZ,h8];simp
     have Bh:off*sz''+(min ys.length len)*sz''≤cs.length:=by
      rw[rD,←JgQ];exact JcV _ (by omega)
     simp only[bK,JhQ]at hv
     obtain⟨w',r1,r2,r3⟩:=Cr (P:=P) (w:=w) (ty:=o.type) ht OF (b:=b) (o:=off*sz'') (dLen:=len) (dCap:=aX) (m:=min ys.length len*sz'') (c:=c) (ce:=ce) lW (by omega) Sl Ba.one (by rw[hw];exact h7) (by rw[lV,Xq];rw[Tl]at Bh;omega)
     rw[←hv]at r1
     have dq:(news.take (min ys.length len*sz'')).length=min ys.length len*sz'':=by rw[lJ,lV];exact JdW (JcV _ (by omega))
     have KH:bm c.toList (off*sz'') (news.take (min ys.length len*sz''))=bm cs (off*sz'') (news.take (min ys.length len*sz''))++rest:=by
      rw[h8];exact uT.splice_append (by omega)
     have DV:(bm c.toList (off*sz'') (news.take (min ys.length len*sz''))).toArray.size=c.size:=by
      have:=dO (cs:=c.toList) (us:=news.take (min ys.length len*sz'')) (o:=off*sz'') (by simp only[JbZ];omega);simpa using this
     have aec:(aV.arr sz'' (l.take off++ys.take (min ys.length len)++l.drop (off+min ys.length len))).aO=(aV.arr sz'' l).aO:=by simp[aV.aO];omega
     have hle:=mV (Γ:=Γ) (bn:= .arr sz'' (l.take off++ys.take (min ys.length len)++l.drop (off+min ys.length len))) lI hι h7 DV (by omega)
     have iD:=pD (Γ:=Γ) (bn:= .arr sz'' (l.take off++ys.take (min ys.length len)++l.drop (off+min ys.length len))) hs.mem lI hι h7 DV (by omega)
      ⟨λx hx=>by
       rcases JaZ.1 hx with hx|hx
       ·rcases JaZ.1 hx with hx|hx
        ·exact nJ x (JbX hx)
        ·exact B7 x (JbX hx)
       ·exact nJ x (JdJ hx),j6,_,ce,_,rest,by simp only[Cx.gx];rw[uJ (bN h7)],by simpa using KH,
       (h9.MH nJ Ba B7 off (min ys.length len) (by omega) (by omega)).mono hle,Jb⟩
     have t1:=hs.le hle iD (xU:=put s.bx k (.arr sz'' (l.take off++ys.take (min ys.length len)++l.drop (off+min ys.length len)))) (by simp[Cx.gx,hs.bx])
     exact⟨_,_,w',_,_,DU r1,.inl rfl,t1,by rw[r2,hw];rfl,hle,r3,hK⟩
  ·rename_i v hg;split at hA
   ·rename_i sz'' n l KE;split at hA
    ·rename_i v' GW;obtain⟨⟨h1,rfl,rfl,h4⟩,hK⟩:=hA;have lI:=hg;rw[←hs.bx]at lI;obtain⟨ad,aX,hv,dh⟩:=tf.rs lI (by simpa[aV.aO]using h1);unfold ia at dh;obtain⟨b,c,ce,hι,h7,h8⟩:=hs.mem.blk k _ lI;rw[hι]at dh;obtain⟨o1,o2,_,_⟩:=dh;obtain⟨g1,g2⟩:=sv pth h8 KE;obtain⟨hl,hn,nJ⟩:=g2.nQ;have aed:PV.width (.ar sz'' n l)=n*sz'':=rfl;rw[aed]at g1 g2 hl;have Sk:=hl.MH nJ Ba B7 off (min ys.length len) (by omega) (by omega);have dq:(news.take (min ys.length len*sz'')).length=min ys.length len*sz'':=by rw[lJ,lV];exact JdW (JcV _ (by omega))
     have Bh:off*sz''+(min ys.length len)*sz''≤n*sz'':=by rw[←JgQ];exact JcV _ (by omega)
     have D0:aD Γ [.ar sz'' n (l.take off++ys.take (min ys.length len)++l.drop (off+min ys.length len))] (bm ((c.toList.drop (bK pth)).take (n*sz'')) (off*sz'') (news.take (min ys.length len*sz''))):=
      Sk.Tw (by simp;omega) (λx hx=>by
       rcases JaZ.1 hx with hx|hx
       ·rcases JaZ.1 hx with hx|hx
        ·exact nJ x (JbX hx)
        ·exact B7 x (JbX hx)
       ·exact nJ x (JdJ hx))
     obtain⟨c2,e2,k1,k2,k3,k4⟩:=uT (bn:= .box v') (pth:=pth) hs.mem lI hι D0 (by simp only[uP,GW]);rw[h7]at k1;simp only[sJ,Obj.cells.injEq]at k1;obtain⟨rfl,rfl,_⟩:=k1;have OG:=rG (cs:=c.toList) (us:=news.take (min ys.length len*sz'')) (o:=bK pth) (m:=n*sz'') (p:=off*sz'') g1 (by omega);by_cases h0:min ys.length len=0
     ·rw[h0]at hK;have aee:news.take (min ys.length len*sz'')=[]:=by rw[h0];simp
      have uv:(bm c.toList (bK pth) (bm ((c.toList.drop (bK pth)).take (n*sz'')) (off*sz'') (news.take (min ys.length len*sz''))))=c.toList:=by
       rw[OG,aee];simp[bm]
      have hle:=mV (Γ:=Γ) (c':=c) (bn:= .box v') lI hι h7 rfl (JaQ _);have iD:=pD (Γ:=Γ) (c':=c) (bn:= .box v') hs.mem lI hι h7 rfl (JaQ _) (k4 c uv.symm);have t1:=hs.le hle iD (xU:=put s.bx k (.box v')) (by simp[Cx.gx,hs.bx]);refine⟨_,_,w,_,_,none hv (by omega),.inl rfl,t1,?_,hle,WF.refl w,hK⟩;simp only[Cx.gx];rw[hw];apply Array.ext_getElem?;intro j;by_cases hj:b=j
      ·subst hj;rw[uJ (bN h7)];exact h7
      ·rw[Array.getElem?_setIfInBounds_ne hj]
     ·rcases o2 with o2|rfl
      ·omega
      obtain⟨w',r1,r2,r3⟩:=Cr (P:=P) (w:=w) (ty:=o.type) ht OF (b:=b) (o:=bK pth+off*sz'') (dLen:=len) (dCap:=aX) (m:=min ys.length len*sz'') (c:=c) (ce:=ce) lW (by omega) Sl Ba.one (by rw[hw];exact h7) (by simp only[JbZ]at g1;rw[lV,Xq];rw[Tl]at Bh;omega);rw[←hv]at r1;rw[←OG]at r2
      have DV:(bm c.toList (bK pth) (bm ((c.toList.drop (bK pth)).take (n*sz'')) (off*sz'') (news.take (min ys.length len*sz'')))).toArray.size=c.size:=by
       rw[OG];have:=dO (cs:=c.toList) (us:=news.take (min ys.length len*sz'')) (o:=bK pth+off*sz'') (by simp only[JbZ]at g1⊢;omega);simpa using this
      have hle:=mV (Γ:=Γ) (bn:= .box v') lI hι h7 DV (JaQ _);have iD:=pD (Γ:=Γ) (bn:= .box v') hs.mem lI hι h7 DV (JaQ _) (k4 _ (by simp));have t1:=hs.le hle iD (xU:=put s.bx k (.box v')) (by simp[Cx.gx,hs.bx]);exact⟨_,_,w',_,_,DU r1,.inl rfl,t1,by rw[r2,hw];rfl,hle,r3,hK⟩
    ·exact hA.elim
   ·exact hA.elim
  ·exact hA.elim
end Go.Ab
namespace Go.Ab
variable [cL]
variable {P:Program} {nt:Nat} {ds:List Deferred} {s:St} {Γ:Cx} {a:Act} {w:World}
theorem MI {own ng:Bool} {op:BinOp} {t yt:TypeId} {x y:Operand} {p:AX} (hk:j7 P own (.binOp op t x y yt)=some (.isNil ng p)):
  (op= .eql∨op= .neq)∧(∃e,P.underlying t=some (.slice e))∧y= .const (.slice none 0 0)∧ng=decide (op= .neq)∧gv x=some p:=by
 simp only[j7]at hk;split at hk
 ·rename_i q r hx hy;split at hk
  ·rename_i ho;split at hk
   ·simp at hk
   ·simp at hk
   ·simp at hk
   ·simp at hk
   ·simp at hk
   ·rename_i e hu;split at hk
    ·simp only[sJ,AK.isNil.injEq]at hk;exact⟨ho,⟨e,hu⟩,rfl,hk.1.symm,by rw[hx,hk.2]⟩
    ·simp at hk
   ·split at hk
    ·split at hk<;>simp at hk
    ·simp at hk
   ·split at hk
    ·split at hk<;>simp at hk
    ·simp at hk
   ·simp at hk
  ·simp at hk
 ·simp at hk
theorem aL.slnil {sz:Nat} {l:List PV} {c:Bool} {v:Value} (h:aL Γ (.sl sz l c) v):∃ad n rc,v= .slice ad n rc∧(ad.isNone=true->l=[]):=by
 simp only[aL]at h;cases h with
 |
  sl _ _ _ ad aX h1 h2 h3 h4 h5 _=>
  refine⟨ad,_,aX,rfl,λhn=> ?_⟩
  by_cases hl:l=[]
  ·exact hl
  ·obtain⟨b,o,e,_⟩:=h5 hl
   rw[e]at hn;simp at hn
theorem aL.aiy {k off len aO sz:Nat} {p:List Step} {c:fB} {v:Value} {blk:aV} (h:aL Γ (.rs k p off len aO sz c) v) (hb:get Γ.bx k=some blk) (ht:aO=blk.aO):∃ad n rc,v= .slice ad n rc∧(ad.isNone=true->len=0):=by
 simp only[aL]at h;cases h with
 |
  rs _ _ _ _ _ _ _ _ bn h1 h2 h3 _=>
  rw[hb]at h1
  obtain⟨h1,_⟩:=h1
  cases h1
  obtain⟨ad,rc,rfl,hr⟩:=h3 ht
  refine⟨ad,_,rc,rfl,λhn=> ?_⟩
  unfold ia at hr
  split at hr
  ·exact hr.1
  ·obtain⟨h4,h5,_⟩:=hr
   rcases h5 with h5|h5
   ·omega
   ·rw[h5]at hn;simp at hn
theorem Jj {t e:TypeId} {ad:Option Addr} {n c:Nat} (h:P.underlying t=some (.slice e)):(Op.equalIn 10000 t (.slice ad n c) (.slice none 0 0)).run P w= .ok ad.isNone w:=by
 have:∀d,(Op.equalIn (d+1) t (.slice ad n c) (.slice none 0 0)).run P w= .ok ad.isNone w:=by
  intro d;cases ad with
  |none=>simp only[Op.equalIn,bJ,run_underlying h,rJ];rfl
  |some ad=>simp only[Op.equalIn,bJ,run_underlying h,rJ];rfl
 exact this 9999
theorem MJ {o:Oper} {own ng:Bool} {op:BinOp} {t yt:TypeId} {x y:Operand} {p:AX} {K:St->Prop} (ho:o.op= .binOp op t x y yt) (hk:j7 P own (.binOp op t x y yt)=some (.isNil ng p)) (hs:gm nt ds s Γ a) (hw:w.heap=Γ.heap)
  (hd:∀k,o.dst=some k->k<nt) (he:ex s o.dst (.isNil ng p) K):jT P nt ds o a w Γ K:=by
 obtain⟨nP,⟨e,hu⟩,rfl,rfl,hx⟩:=MI hk;simp only[ex]at he;obtain⟨q,hq,hr⟩:=bw hx hs rfl he
 have fin:∀ {ad:Option Addr} {n c:Nat},a.eval x= .slice ad n c->K (s.put o.dst (.bl (ad.isNone !=decide (op= .neq))))->jT P nt ds o a w Γ K:=by
  intro ad n c hv hK;have fU:=tj (P:=P) (w:=w) (Jj (ad:=ad) (n:=n) (c:=c) hu) rfl rfl op nP;refine qh hs hd (Le.refl Γ) hs.mem rfl (v:= .bool (ad.isNone !=decide (op= .neq))) ?_ hw (WF.refl w) ?_ hK
  ·unfold execOp;rw[ho]
   have hg:(eqGuard op t x (.const (.slice none 0 0)) (.slice ad n c) (.slice none 0 0)).run P w= .ok () w:=by
    unfold eqGuard;rcases nP with rfl|rfl<;>rfl
   have e2:a.eval (.const (.slice none 0 0))= .slice none 0 0:=rfl;simp only[hv,e2,bJ,hg,rJ,fU];rcases nP with rfl|rfl<;>cases ad<;>rfl
  ·simp only[aL];exact .bl _ .nil
 split at hq
 ·obtain⟨ad,n,c,hv,hn⟩:=hr.slnil;exact fin hv (hq _ hn)
 ·split at hq
  ·rename_i blk hb;rw[←hs.bx]at hb;obtain⟨ad,n,c,hv,hn⟩:=hr.aiy hb hq.1;exact fin hv (hq.2 _ hn)
  ·exact hq.elim
 ·exact hq.elim
end Go.Ab
namespace Go.Ab
variable [cL]
variable {P:Program} {nt:Nat} {ds:List Deferred} {s:St} {Γ:Cx} {a:Act} {w:World}
mutual
def af (f:Nat->Bool):PV->Bool
 | .rs k _ _ _ _ _ _=>f k
 | .pt k _ _=>f k
 | .st _ l=>ah f l
 | .ar _ _ l=>ah f l
 | .tup l=>ah f l
 | .sl _ l _=>ah f l
 | .fp _ l _=>ah f l
 | .fn _ x y=>ah f x&&ah f y
 | .gd _ p=>af f p
 | .ifc _ p=>af f p
 |_=>true
def ah (f:Nat->Bool):List PV->Bool
 |[]=>true
 |p::l=>af f p&&ah f l
end
mutual
def aE (ρ:Nat->Nat):PV->PV
 | .rs k p o l t z c=> .rs (ρ k) p o l t z c
 | .pt k p t=> .pt (ρ k) p t
 | .st w l=> .st w (aR ρ l)
 | .ar z n l=> .ar z n (aR ρ l)
 | .tup l=> .tup (aR ρ l)
 | .sl z l c=> .sl z (aR ρ l) c
 | .fp z l p=> .fp z (aR ρ l) p
 | .fn f x y=> .fn f (aR ρ x) (aR ρ y)
 | .gd b p=> .gd b (aE ρ p)
 | .ifc t p=> .ifc t (aE ρ p)
 |p=>p
def aR (ρ:Nat->Nat):List PV->List PV
 |[]=>[]
 |p::l=>aE ρ p::aR ρ l
end
theorem pV (ρ:Nat->Nat) (p:PV):(aE ρ p).width=p.width:=by cases p<;>simp[aE,PV.width]
theorem zj (ρ:Nat->Nat) (p:PV):(aE ρ p).isAgg=p.isAgg:=by cases p<;>simp[aE,PV.isAgg]
theorem mr (ρ:Nat->Nat) (l:List PV):(aR ρ l).length=l.length:=by induction l<;>simp[aR, *]
theorem sE {ρ:Nat->Nat} {l:List PV} {q:PV} (h:q∈aR ρ l):∃p∈l,q=aE ρ p:=by
 induction l with
 |nil=>simp[aR]at h
 |
  cons x l ih=>
  simp only[aR,cJ]at h
  rcases h with h|h
  ·exact⟨x,by simp,h⟩
  ·obtain⟨p,hp,e⟩:=ih h;exact⟨p,by simp[hp],e⟩
mutual
theorem Cs {ρ:Nat->Nat} {f:Nat->Bool} (h:∀k,f k=true->ρ k=k):∀p,af f p=true->aE ρ p=p
 | .rs k _ _ _ _ _ _,hp=>by simp only[af]at hp;simp[aE,h k hp]
 | .pt k _ _,hp=>by simp only[af]at hp;simp[aE,h k hp]
 | .st _ l,hp=>by simp only[af]at hp;simp[aE,oq h l hp]
 | .ar _ _ l,hp=>by simp only[af]at hp;simp[aE,oq h l hp]
 | .tup l,hp=>by simp only[af]at hp;simp[aE,oq h l hp]
 | .sl _ l _,hp=>by simp only[af]at hp;simp[aE,oq h l hp]
 | .fp _ l _,hp=>by simp only[af]at hp;simp[aE,oq h l hp]
 | .fn _ x y,hp=>by simp only[af,aJ]at hp;simp[aE,oq h x hp.1,oq h y hp.2]
 | .gd _ p,hp=>by simp only[af]at hp;simp[aE,Cs h p hp]
 | .ifc _ p,hp=>by simp only[af]at hp;simp[aE,Cs h p hp]
 | .un,_=>by simp[aE]
 | .bl _,_=>by simp[aE]
 | .int _ _,_=>by simp[aE]
 | .str _,_=>by simp[aE]
 | .np,_=>by simp[aE]
 | .nf,_=>by simp[aE]
 | .ni,_=>by simp[aE]
 | .mp ..,_=>by simp[aE]
theorem oq {ρ:Nat->Nat} {f:Nat->Bool} (h:∀k,f k=true->ρ k=k):∀l,ah f l=true->aR ρ l=l
 |[],_=>rfl
 |p::l,hp=>by simp only[ah,aJ]at hp;simp[aR,Cs h p hp.1,oq h l hp.2]
end
structure zk (f:Nat->Bool) (ρ:Nat->Nat) (Γ Δ:Cx):Prop where
 heap:Δ.heap=Γ.heap
 own:∀b,b<Γ.heap.size->¬Γ.own b->¬Δ.own b
 ref:∀k blk,f k=true->get Γ.bx k=some blk->∃bn,get Δ.bx (ρ k)=some bn∧bn.aO=blk.aO∧Δ.ι (ρ k)=Γ.ι k
theorem ia.aE {Δ:Cx} {k k' off len sz:Nat} {p:List Step} {c:fB} {ad:Option Addr} {aX:Nat} (h:ia Γ k p off len sz c ad aX) (hι:Δ.ι k'=Γ.ι k) (hh:Δ.heap=Γ.heap):ia Δ k' p off len sz c ad aX:=by
 unfold ia at*;rw[hι,hh];exact h
theorem aD.aE {f:Nat->Bool} {ρ:Nat->Nat} {Δ:Cx} (hs:zk f ρ Γ Δ) {l:List PV} {cs:List Value} (h:aD Γ l cs):ah f l=true->aD Δ (aR ρ l) cs:=by
 induction h with
 |nil=>intro _;exact .nil
 |un h hr ih=>intro hf;simp only[ah,aJ]at hf;exact .un h (ih hf.2)
 |bl x hr ih=>intro hf;simp only[ah,aJ]at hf;exact .bl x (ih hf.2)
 |int k n hr ih=>intro hf;simp only[ah,aJ]at hf;exact .int k n (ih hf.2)
 |str l s h hr ih=>intro hf;simp only[ah,aJ]at hf;exact .str l s h (ih hf.2)
 |st w l hl hw hr ihl ih=>intro hf;simp only[ah,af,aJ]at hf;exact .st w _ (ihl hf.1) hw (ih hf.2)
 |
  ar sz n l hl hn hw hr ihl ih=>
  intro hf;simp only[ah,af,aJ]at hf
  refine .ar sz n _ (ihl hf.1) (by rw[mr];exact hn) (λx hx=> ?_) (ih hf.2)
  obtain⟨p,hp,rfl⟩:=sE hx
  rw[pV];exact hw p hp
 |
  sl sz l clip ad aX hl hw hc hk hb hr ihl ih=>
  intro hf;simp only[ah,af,aJ]at hf
  have:=aD.sl (Γ:=Δ) sz (aR ρ l) clip ad aX (ihl hf.1) (λx hx=>by obtain⟨p,hp,rfl⟩:=sE hx;rw[pV];exact hw p hp) (by rw[mr];exact hc) (by rw[mr];exact hk)
   (λcI=>by
    obtain⟨b,o,h1,h2,h3,h4⟩:=hb (by intro h;subst h;simp[aR]at cI);exact⟨b,o,h1,by rw[hs.heap];exact h2,hs.own b h2 h3,by rw[hs.heap];exact h4⟩) (ih hf.2)
  rw[mr]at this
  exact this
 |
  rs k p off len aO sz c v blk hg h1 hv hr ih=>
  intro hf;simp only[ah,af,aJ]at hf
  obtain⟨bn,g1,g2,g3⟩:=hs.ref k blk hf.1 hg.1
  refine .rs (ρ k) p off len aO sz c v bn ⟨g1,by rw[g2];exact hg.2⟩ h1 (λht=> ?_) (ih hf.2)
  obtain⟨ad,aX,e1,e2⟩:=hv (by rw[ht,g2])
  exact⟨ad,aX,e1,e2.aE g3 hs.heap⟩
 |np hr ih=>intro hf;simp only[ah,aJ]at hf;exact .np (ih hf.2)
 |
  pt k p aO v blk hg h1 hv hr ih=>
  intro hf;simp only[ah,af,aJ]at hf
  obtain⟨bn,g1,g2,g3⟩:=hs.ref k blk hf.1 hg.1
  refine .pt (ρ k) p aO v bn ⟨g1,by rw[g2];exact hg.2⟩ h1 (λht=> ?_) (ih hf.2)
  obtain⟨b,e1,e2⟩:=hv (by rw[ht,g2])
  exact⟨b,by rw[g3,e1],e2⟩
 |
  fp sz l p b o hl hw hm hc hr ihl ih=>
  intro hf;simp only[ah,af,aJ]at hf
  exact .fp sz _ p b o (ihl hf.1) (λx hx=>by obtain⟨p,hp,rfl⟩:=sE hx;rw[pV];exact hw p hp) ⟨by rw[hs.heap];exact hm.1,hs.own b hm.1 hm.2⟩ (by rw[hs.heap];exact hc) (ih hf.2)
 |
  fn g first cap h1 h2 h3 h4 hr i1 i2 ih=>
  intro hf;simp only[ah,af,aJ]at hf
  exact .fn g _ _ (i1 hf.1.1) (i2 hf.1.2) (λx hx=>by obtain⟨p,hp,rfl⟩:=sE hx;rw[zj];exact h3 p hp) (λx hx=>by obtain⟨p,hp,rfl⟩:=sE hx;rw[zj];exact h4 p hp) (ih hf.2)
 |nf hr ih=>intro hf;simp only[ah,aJ]at hf;exact .nf (ih hf.2)
 |
  ifc t v h1 h2 hr i1 ih=>
  intro hf;simp only[ah,af,aJ]at hf
  have:=i1 (by simp[ah,hf.1])
  simp only[aR]at this
  exact .ifc t _ this (by rw[zj];exact h2) (ih hf.2)
 |ni hr ih=>intro hf;simp only[ah,aJ]at hf;exact .ni (ih hf.2)
 |mp k b hr ih=>intro hf;simp only[ah,aJ]at hf;exact .mp k b (ih hf.2)
theorem aD.bz {f:Nat->Bool} {ρ:Nat->Nat} {Δ:Cx} (hs:zk f ρ Γ Δ) {p:PV} {cs:List Value} (h:aD Γ [p] cs) (hf:af f p=true):aD Δ [Ab.aE ρ p] cs:=by
 have:=h.aE hs (by simp[ah,hf]);simpa only[aR]using this
theorem gP.aE {f:Nat->Bool} {ρ:Nat->Nat} {Δ:Cx} (hs:zk f ρ Γ Δ) {p:PV} {v:Value} (h:gP Γ p v) (hf:af f p=true):gP Δ (Ab.aE ρ p) v:=by
 cases p
 case un=>trivial
 case st w l=>obtain⟨cs,h1,h2⟩:=h;exact⟨cs,h1,h2.bz hs hf⟩
 case ar sz n l=>obtain⟨cs,h1,h2⟩:=h;exact⟨cs,h1,h2.bz hs hf⟩
 all_goals exact aD.bz hs h hf
theorem aL.aE {f:Nat->Bool} {ρ:Nat->Nat} {Δ:Cx} (hs:zk f ρ Γ Δ):∀ {p:PV} {v:Value},aL Γ p v->af f p=true->aL Δ (Ab.aE ρ p) v:=by
 have h2:∀ {l:List PV} {vs:List Value},kO Γ l vs->ah f l=true->kO Δ (aR ρ l) vs:=by
  intro l;induction l with
  |nil=>intro vs h hf;cases vs<;>simp_all [kO,aR]
  |
   cons p l ih=>
   intro vs h hf
   simp only[ah,aJ]at hf
   cases vs with
   |nil=>simp[kO]at h
   |cons v vs=>simp only[kO,aR]at h⊢;exact⟨h.1.aE hs hf.1,ih h.2 hf.2⟩
 intro p;induction p using PV.rec (motive_2:=λ_=>True)with
 |gd b p ih=>intro v h hf;simp only[Ab.aE,af]at hf⊢;rw[aL]at h⊢;exact⟨λhb=>ih (h.1 hb) hf,h.2⟩
 |tup l=>intro v h hf;simp only[aL,Ab.aE,af]at h hf⊢;obtain⟨vs,e,h⟩:=h;exact⟨vs,e,h2 h hf⟩
 |un=>intro v h hf;simp[aL,Ab.aE]
 |st w l=>intro v h hf;obtain⟨cs,e,h⟩:=h;exact⟨cs,e,h.bz hs hf⟩
 |ar sz n l=>intro v h hf;obtain⟨cs,e,h⟩:=h;exact⟨cs,e,h.bz hs hf⟩
 |nil=>trivial
 |cons=>trivial
 |_=>intro v h hf;exact aD.bz hs h hf
def az (ρ:Nat->Nat):aV->aV
 | .box v=> .box (Ab.aE ρ v)
 | .arr sz l=> .arr sz (aR ρ l)
 | .map b ks vs l=> .map b ks vs l
def ab (f:Nat->Bool):aV->Bool
 | .box v=>af f v
 | .arr _ l=>ah f l
 | .map .. =>true
theorem jx (ρ:Nat->Nat) (b:aV):(az ρ b).aO=b.aO:=by cases b<;>simp[az,aV.aO,mr]
theorem aV.xM.aE {f:Nat->Bool} {ρ:Nat->Nat} {Δ:Cx} (hs:zk f ρ Γ Δ) {blk:aV} {ob:Option Nat} (h:blk.xM Γ ob) (hf:ab f blk=true):(az ρ blk).xM Δ ob:=by
 cases blk with
 |
  box v=>
  obtain⟨b,c,e,h1,h2,h3⟩:=h
  exact⟨b,c,e,h1,by rw[hs.heap];exact h2,h3.bz hs hf⟩
 |
  arr sz l=>
  obtain⟨h1,h2,h3⟩:=h
  refine⟨λx hx=>by obtain⟨p,hp,rfl⟩:=sE hx;rw[pV];exact h1 p hp,h2,?_⟩
  cases ob with
  |none=>trivial
  |
   some b=>
   obtain⟨c,e,cs,rest,h4,h5,h6,h7⟩:=h3
   exact⟨c,e,cs,rest,by rw[hs.heap];exact h4,h5,h6.aE hs hf,h7⟩
 |
  map b ks vs l=>
  obtain⟨h1,h2⟩:=h
  exact⟨h1,by rw[hs.heap];exact h2⟩
end Go.Ab
namespace Go.Ab
variable [cL]
variable {P:Program} {nt:Nat} {ds:List Deferred} {s:St} {Γ:Cx} {a:Act} {w:World}
def KB:Nat:=9000
def av:Nat->List aV->List (Nat×aV)
 |_,[]=>[]
 |i,b::r=>(KB+i,b)::av (i+1) r
theorem EH (B:Nat):∀(l:List aV) (i k:Nat),get ((l.zipIdx i).map λx=>(B+x.2,x.1)) k=if B+i≤k then l[k-B-i]?else none
 |[],i,k=>by simp[get]
 |
  b::l,i,k=>by
  have ih:=EH B l (i+1) k
  rw[List.zipIdx_cons,JdX]
  unfold get
  rw[ih]
  by_cases h:B+i=k
  ·rw[if_pos h,if_pos (by omega),show k-B-i=0 by omega];rfl
  ·rw[if_neg h]
   by_cases h2:B+i≤k
   ·rw[if_pos h2,if_pos (by omega),show k-B-i=(k-B-(i+1))+1 by omega,List.getElem?_cons_succ]
   ·rw[if_neg h2,if_neg (by omega)]
theorem KY:∀(l:List aV) (i:Nat),av i l=(l.zipIdx i).map λx=>(KB+x.2,x.1)
 |[],i=>rfl
 |b::l,i=>by rw[av,KY l (i+1),List.zipIdx_cons,JdX]
theorem fE (l:List aV) (i k:Nat):get (av i l) k=if KB+i≤k then l[k-KB-i]?else none:=by
 rw[KY];exact EH KB l i k
def ff (Γ:Cx):List PV->List Value->Prop
 |[],[]=>True
 |p::ps,v::vs=>aL Γ p v∧ff Γ ps vs
 |_,_=>False
def EI (P:Program) (f:FuncId) (vs:Array Value) (w:World) (Q:Ending->World->Prop):Prop:=
 ((callFunc f vs).run P w= .ok (.enter f vs) w∧Calls P f vs w Q)∨∃v w',(callFunc f vs).run P w= .ok (.value v) w'∧Q (.returned v) w'
theorem EI.mono {f:FuncId} {vs:Array Value} {w:World} {Q Q':Ending->World->Prop} (h:EI P f vs w Q) (hq:∀e w',Q e w'->Q' e w'):EI P f vs w Q':=by
 rcases h with⟨h1,h2⟩|⟨v,w',h1,h2⟩
 ·exact .inl ⟨h1,h2.mono hq⟩
 ·exact .inr ⟨v,w',h1,hq _ _ h2⟩
theorem EI.calls {f:FuncId} {vs:Array Value} {w:World} {Q:Ending->World->Prop} (h:EI P f vs w Q) (he:(callFunc f vs).run P w= .ok (.enter f vs) w):Calls P f vs w Q:=by
 rcases h with⟨h1,h2⟩|⟨v,w',h1,h2⟩
 ·exact h2
 ·rw[he]at h1;simp at h1
def ae (P:Program) (f:FuncId) (args:List PV) (fp:List aV) (R:PV->List aV->Prop):Prop:=
 ∀
  (Γ:Cx) (w:World) (vs:List Value),w.heap=Γ.heap->Mem Γ->Γ.bx=av 0 fp->ff Γ args vs->
  EI P f vs.toArray w (λe w'=>∃v r xD Γ',e= .returned v∧R r xD∧w'.heap=Γ'.heap∧Mem Γ'∧Γ'.bx=av 0 xD∧aL Γ' r v∧Le Γ Γ'∧WF w w')
theorem ae.mono {f:FuncId} {args:List PV} {fp:List aV} {R R':PV->List aV->Prop} (h:ae P f args fp R) (hr:∀r xD,R r xD->R' r xD):ae P f args fp R':=by
 intro Γ w vs h1 h2 h3 h4;refine(h Γ w vs h1 h2 h3 h4).mono ?_;rintro e w' ⟨v,r,xD,Γ',e1,e2,e3⟩;exact⟨v,r,xD,Γ',e1,hr _ _ e2,e3⟩
def idx:List Nat->Nat->Option Nat
 |[],_=>none
 |x::r,k=>if x=k then some 0 else match idx r k with|some i=>some (i+1)|none=>none
theorem ot:∀ {l:List Nat} {k i:Nat},idx l k=some i->l[i]? =some k
 |[],k,i,h=>by simp[idx]at h
 |
  x::r,k,i,h=>by
  simp only[idx]at h
  split at h
  ·simp at h;subst_vars;rfl
  ·split at h
   ·rename_i j hj
    simp at h;subst h
    simpa using ot hj
   ·simp at h
theorem Ct:∀ {l:List Nat} {k i:Nat},l.Nodup->l[i]? =some k->idx l k=some i
 |[],k,i,_,h=>by simp at h
 |
  x::r,k,i,hn,h=>by
  rw[JiZ]at hn
  cases i with
  |zero=>simp at h;subst h;simp[idx]
  |
   succ i=>
   simp at h
   have cI:x≠k:=by intro e;subst e;exact hn.1 (JeQ h)
   simp[idx,cI,Ct hn.2 h]
theorem Hr {l:List Nat} {k:Nat} (h:idx l k=none):k∉l:=by
 induction l with
 |nil=>simp
 |
  cons x r ih=>
  simp only[idx]at h
  split at h
  ·simp at h
  ·split at h
   ·simp at h
   ·rename_i cI _ hr
    simp only[cJ,not_or]
    exact⟨λe=>cI e.symm,ih hr⟩
def getAll (bx:List (Nat×aV)):List Nat->Option (List aV)
 |[]=>some []
 |k::r=>match get bx k,getAll bx r with|some b,some l=>some (b::l)|_,_=>none
theorem dH:∀ {ks:List Nat} {bx:List (Nat×aV)} {l:List aV},getAll bx ks=some l->l.length=ks.length∧∀(i:Nat) k,ks[i]? =some k->∃b,get bx k=some b∧l[i]? =some b
 |[],bx,l,h=>by simp[getAll]at h;subst h;simp
 |
  k::r,bx,l,h=>by
  simp only[getAll]at h
  split at h
  ·rename_i b l' hb hl
   simp only[sJ]at h;subst h
   obtain⟨h1,h2⟩:=dH hl
   refine⟨by simp[h1],λi j hj=> ?_⟩
   cases i with
   |zero=>simp at hj;subst hj;exact⟨b,hb,rfl⟩
   |succ i=>simp at hj;simpa using h2 i j hj
  ·simp at h
def aI (bx:List (Nat×aV)):List Nat->List aV->List (Nat×aV)
 |k::ks,b::bs=>aI (put bx k b) ks bs
 |_,_=>bx
theorem xa:∀ {ks:List Nat} {bs:List aV} {bx:List (Nat×aV)} (k:Nat),ks.Nodup->bs.length=ks.length->get (aI bx ks bs) k=match idx ks k with|some i=>bs[i]? |none=>get bx k
 |[],bs,bx,k,_,hl=>by cases bs<;>simp_all [aI,idx]
 |
  x::r,bs,bx,k,hn,hl=>by
  cases bs with
  |nil=>simp at hl
  |
   cons b bs=>
   rw[JiZ]at hn
   simp only[aI,xa k hn.2 (by simpa using hl),idx]
   by_cases hx:x=k
   ·subst hx
    have:idx r x=none:=by
     cases hi:idx r x with
     |none=>rfl
     |some i=>exact absurd (JeQ (ot hi)) hn.1
    simp[this,bG]
   ·rw[if_neg hx]
    cases idx r k with
    |none=>simp[bp _ _ _ _ hx]
    |some i=>simp
def bz (ks:List Nat) (k:Nat):Nat:=match idx ks k with|some i=>KB+i|none=>k
def cU (ks:List Nat) (k:Nat):Nat:=if KB≤k then(ks[k-KB]?).getD k else k
def bR (ks:List Nat) (k:Nat):Bool:=(idx ks k).isSome
def c9 (n:Nat) (k:Nat):Bool:=decide (KB≤k∧k<KB+n)
def xV (P:Program) (s:St) (d:Option Nat) (f:FuncId) (args:List PV) (ks os:List Nat) (K:St->Prop):Prop:=
 ∃
  bM R,getAll s.bx ks=some bM∧(ks++os).Nodup∧(∀o∈os,get s.bx o=none)∧ah (bR ks) args=true∧bM.all (ab (bR ks))=true∧
  ae P f (aR (bz ks) args) (bM.map (az (bz ks))) R∧
  ∀
   r fp,R r fp->(fp.length=(ks++os).length∧af (c9 fp.length) r=true∧fp.all (ab (c9 fp.length))=true)∧
   K ({s with bx:=aI s.bx (ks++os) (fp.map (az (cU (ks++os))))}.put d (aE (cU (ks++os)) r))
def Cx.call (Γ:Cx) (ks:List Nat) (bM:List aV):Cx:=
 {
  heap:=Γ.heap,ι:=λk=>if KB≤k then(match ks[k-KB]?with|some j=>Γ.ι j|none=>none)else none,
  bx:=av 0 (bM.map (az (bz ks))),bX:=λb=>Γ.own b∧¬∃(i:Nat) (k:Nat),ks[i]? =some k∧Γ.ι k=some b}
def Cx.back (Γ Γ':Cx) (all:List Nat) (fp:List aV):Cx:=
 {
  heap:=Γ'.heap,ι:=λk=>match idx all k with|some i=>Γ'.ι (KB+i)|none=>Γ.ι k,
  bx:=aI Γ.bx all (fp.map (az (cU all))),bX:=Γ.bX}
theorem Cx.sF {ks:List Nat} {bM:List aV} (hg:getAll Γ.bx ks=some bM):zk (bR ks) (bz ks) Γ (Γ.call ks bM) where
 heap:=rfl
 own b _ hn:=by
  rintro(⟨k,blk,h1,h2⟩|⟨h,_⟩)
  ·simp only[Cx.call]at h2;split at h2
   ·split at h2
    ·rename_i j hj;obtain⟨_,b9⟩:=dH hg;obtain⟨b',g1,_⟩:=b9 _ _ hj;exact hn (.inl ⟨j,b',g1,h2⟩)
    ·simp at h2
   ·simp at h2
  ·exact hn h
 ref k blk hk hb:=by
  obtain⟨i,hi⟩:=JaW.1 hk;obtain⟨hl,b9⟩:=dH hg;obtain⟨b',g1,g2⟩:=b9 i k (ot hi);rw[hb]at g1;cases g1;refine⟨az (bz ks) blk,?_,jx _ _,?_⟩
  ·simp only[Cx.call,bz,hi,fE];rw[if_pos (by omega)];simp[g2]
  ·simp only[Cx.call,bz,hi];rw[if_pos (by omega)];simp[ot hi]
theorem Cx.mw {ks:List Nat} {bM:List aV} (hg:getAll Γ.bx ks=some bM) {b:Nat}:(Γ.call ks bM).gn b↔∃(i:Nat) (k:Nat),ks[i]? =some k∧Γ.ι k=some b:=by
 obtain⟨hl,b9⟩:=dH hg;constructor
 ·rintro⟨k,blk,h1,h2⟩;simp only[Cx.call]at h2;split at h2
  ·split at h2
   ·rename_i j hj;exact⟨_,j,hj,h2⟩
   ·simp at h2
  ·simp at h2
 ·rintro⟨i,k,h1,h2⟩;obtain⟨b',g1,g2⟩:=b9 i k h1;refine⟨KB+i,az (bz ks) b',?_,?_⟩
  ·simp only[Cx.call,fE];rw[if_pos (by omega)];simp[g2]
  ·simp only[Cx.call];rw[if_pos (by omega)];simp[h1,h2]
theorem Cx.Cu (hm:Mem Γ) {ks:List Nat} {bM:List aV} (hg:getAll Γ.bx ks=some bM) (hn:ks.Nodup) (dh:bM.all (ab (bR ks))=true):Mem (Γ.call ks bM) where
 blk k blk hk:=by
  obtain⟨hl,b9⟩:=dH hg;simp only[Cx.call,fE]at hk;split at hk
  ·rename_i hle;rw[List.getElem?_map,mJ]at hk;obtain⟨b0,uf,rfl⟩:=hk;have hi:=(iJ.1 uf).1;obtain⟨j,hj⟩:∃j,ks[k-KB]? =some j:=⟨_,gJ (by omega)⟩
   obtain⟨b1,g1,g2⟩:=b9 _ _ hj;simp only[Nat.sub_zero]at uf;rw[uf]at g2;cases g2;have:=(hm.blk j b0 g1).aE (Cx.sF hg) (JeX.1 dh b0 (JeQ uf));have e:(Γ.call ks bM).ι k=Γ.ι j:=by simp only[Cx.call];rw[if_pos (by omega),hj]
   rw[e];exact this
  ·simp at hk
 inj i j b hi hj h1 h2:=by
  obtain⟨hl,b9⟩:=dH hg;simp only[Cx.call]at h1 h2;split at h1
  ·split at h2
   ·split at h1
    ·rename_i x hx;split at h2
     ·rename_i y hy;obtain⟨b1,g1,_⟩:=b9 _ _ hx;obtain⟨b2,g2,_⟩:=b9 _ _ hy;have:=hm.inj x y b (by simp[g1]) (by simp[g2]) h1 h2;subst this;have e1:=Ct hn hx;have e2:=Ct hn hy;rw[e1]at e2;simp at e2;omega
     ·simp at h2
    ·simp at h1
   ·simp at h2
  ·simp at h1
 bX b h:=by
  rcases h.1 with h|h
  ·exact hm.lt h
  ·exact hm.bX b h
 apart b h hp:=hp.2 ((Cx.mw hg).1 h)
 xN b cs h:=by
  obtain⟨h1,h2⟩:=hm.xN b cs h;refine⟨λhb=>h1 ?_,h2⟩;obtain⟨i,k,g1,g2⟩:=(Cx.mw hg).1 hb;obtain⟨b',g3,_⟩:=(dH hg).2 i k g1;exact⟨k,b',g3,g2⟩
theorem Cv (hm:Mem Γ) {Γ':Cx} {ks os:List Nat} {bM fp:List aV} (hg:getAll Γ.bx ks=some bM) (hn:(ks++os).Nodup) (Jc:∀o∈os,get Γ.bx o=none)
  (wv:Mem Γ') (lK:Γ'.bx=av 0 fp) (hle:Le (Γ.call ks bM) Γ') (hlen:fp.length=(ks++os).length) (dh:fp.all (ab (c9 fp.length))=true):
  zk (c9 fp.length) (cU (ks++os)) Γ' (Γ.back Γ' (ks++os) fp)∧Le Γ (Γ.back Γ' (ks++os) fp)∧Mem (Γ.back Γ' (ks++os) fp):=by
 obtain⟨hl,b9⟩:=dH hg;have hnk:ks.Nodup:=(JgJ.1 hn).1;have KE:∀k,get (Γ.back Γ' (ks++os) fp).bx k=match idx (ks++os) k with|some i=>(fp.map (az (cU (ks++os))))[i]? |none=>get Γ.bx k:=λk=>xa k hn (by simpa using hlen)
 have fH:Γ.heap.size≤Γ'.heap.size:=hle.size
 --a block of a key that is avv MH or comes back
 have DW:∀ {k i:Nat},idx (ks++os) k=some i->∃b0,fp[i]? =some b0∧get Γ'.bx (KB+i)=some b0:=by
  intro k i hi;have dq:=(iJ.1 (ot hi)).1;have:fp[i]? =some (fp[i]'(by omega)):=gJ (by omega);exact⟨_,this,by rw[lK,fE,if_pos (by omega)];simpa using this⟩
 have Mk:Γ'.bX=(Γ.call ks bM).bX:=hle.bX
 have DX:∀ {k b:Nat} {blk:aV},idx (ks++os) k=none->get Γ.bx k=some blk->Γ.ι k=some b->(Γ.call ks bM).bX b:=by
  intro k b blk hi hb hι;refine⟨.inl ⟨k,blk,hb,hι⟩,?_⟩;rintro⟨i,k',h1,h2⟩;obtain⟨b',g1,_⟩:=b9 i k' h1;have:=hm.inj k k' b (by simp[hb]) (by simp[g1]) hι h2;subst this;exact Hr hi (JaZ.2 (.inl (JeQ h1)))
 have same:zk (c9 fp.length) (cU (ks++os)) Γ' (Γ.back Γ' (ks++os) fp):=by
  refine⟨rfl,λb hb hno=> ?_,λk blk hk hb=> ?_⟩
  ·rintro(⟨k,blk,h1,h2⟩|h)
   ·rw[KE]at h1;simp only[Cx.back]at h2;cases hi:idx (ks++os) k with
    |
     some i=>
     rw[hi]at h2
     obtain⟨b0,_,g2⟩:=DW hi
     exact hno (.inl ⟨_,b0,g2,h2⟩)
    |
     none=>
     rw[hi]at h1 h2
     exact hno (.inr (by rw[Mk];exact DX hi h1 h2))
   ·have h':Γ.bX b:=h
    have hpc:(Γ.call ks bM).bX b:=by
     refine⟨.inr h',?_⟩;rintro⟨i,k',h1,h2⟩;obtain⟨b',g1,_⟩:=b9 i k' h1;exact hm.apart b ⟨k',b',g1,h2⟩ h'
    exact hno (.inr (by rw[Mk];exact hpc))
  ·simp only[c9,decide_eq_true_eq]at hk;obtain⟨i,rfl⟩:∃i,k=KB+i:=⟨k-KB,by omega⟩
   have fV:(ks++os)[i]? =some ((ks++os)[i]'(by omega)):=gJ (by omega)
   have hr:cU (ks++os) (KB+i)=(ks++os)[i]'(by omega):=by
    simp only[cU];rw[if_pos (by omega)];simp[fV]
   have an7:=Ct hn fV;rw[lK,fE,if_pos (by omega)]at hb;simp only[JqJ,Nat.sub_zero]at hb;refine⟨az (cU (ks++os)) blk,?_,jx _ _,?_⟩
   ·rw[KE,hr,an7];simp[hb]
   ·simp only[Cx.back];rw[hr,an7]
 have le:Le Γ (Γ.back Γ' (ks++os) fp):=by
  refine⟨λb hb hno=> ?_,λb hb h=> ?_,rfl,fH,λk blk hk=> ?_⟩
  ·refine hle.heap b hb (λh=>hno ?_);obtain⟨i,k,h1,h2⟩:=(Cx.mw hg).1 h;obtain⟨b',g1,_⟩:=b9 i k h1;exact⟨k,b',g1,h2⟩
  ·obtain⟨k,blk,h1,h2⟩:=h;rw[KE]at h1;simp only[Cx.back]at h2;cases hi:idx (ks++os) k with
   |
    some i=>
    rw[hi]at h2
    obtain⟨b0,_,g2⟩:=DW hi
    obtain⟨i',k',g3,g4⟩:=(Cx.mw hg).1 (hle.gn b hb ⟨_,b0,g2,h2⟩)
    obtain⟨b',g1,_⟩:=b9 i' k' g3
    exact⟨k',b',g1,g4⟩
   |
    none=>
    rw[hi]at h1 h2
    exact⟨k,blk,h1,h2⟩
  ·cases hi:idx (ks++os) k with
   |
    some i=>
    obtain⟨b0,g1,g2⟩:=DW hi
    have GZ:=ot hi
    have fV:ks[i]? =some k:=by
     rw[List.getElem?_append]at GZ;split at GZ
     ·exact GZ
     ·rw[Jc k (JeQ GZ)]at hk;simp at hk
    obtain⟨b1,g3,g4⟩:=b9 i k fV
    rw[hk]at g3;cases g3
    have hce:get (Γ.call ks bM).bx (KB+i)=some (az (bz ks) blk):=by
     simp only[Cx.call,fE];rw[if_pos (by omega)];simp[g4]
    have hcι:(Γ.call ks bM).ι (KB+i)=Γ.ι k:=by
     simp only[Cx.call];rw[if_pos (by omega)];simp[fV]
    obtain⟨b2,g5,g6,g7⟩:=hle.ref _ _ hce
    rw[g2]at g5;cases g5
    refine⟨az (cU (ks++os)) b0,by rw[KE,hi];simp[g1],by rw[jx];rw[jx]at g6;exact g6,λht=> ?_⟩
    rw[jx]at ht g7
    obtain⟨g8,g9⟩:=g7 ht
    rw[hcι]at g8 g9
    refine⟨by simp only[Cx.back];rw[hi];exact g8,g9⟩
   |
    none=>
    refine⟨blk,by rw[KE,hi];exact hk,JaQ _,λ_=>⟨by simp only[Cx.back];rw[hi],λb hb cs e hc=>⟨cs,?_,rfl⟩⟩⟩
    have hp:=DX hi hk hb
    rw[←hc]
    refine hle.heap b (bN hc) (λh=>hp.2 ((Cx.mw hg).1 h))
 refine⟨same,le,⟨λk blk hk=> ?_,λi j b hi hj h1 h2=> ?_,λb h=>JhV (hm.bX b h) fH,λb h hp=>hm.apart b (le.gn b (hm.bX b hp) h) hp,hm.ll le⟩⟩
 ·rw[KE]at hk;cases hi:idx (ks++os) k with
  |
   some i=>
   rw[hi]at hk
   obtain⟨b0,g1,g2⟩:=DW hi
   simp only[List.getElem?_map,g1,JjJ,sJ]at hk
   subst hk
   have:=(wv.blk _ _ g2).aE same (JeX.1 dh b0 (JeQ g1))
   have e:(Γ.back Γ' (ks++os) fp).ι k=Γ'.ι (KB+i):=by simp only[Cx.back];rw[hi]
   rw[e];exact this
  |
   none=>
   rw[hi]at hk
   have e:(Γ.back Γ' (ks++os) fp).ι k=Γ.ι k:=by simp only[Cx.back];rw[hi]
   rw[e]
   have hb:=hm.blk k blk hk
   refine hb.mono le (λb A9=> ?_)
   have hp:=DX hi hk A9
   rw[A9]at hb
   exact hle.heap b hb.lt (λh=>hp.2 ((Cx.mw hg).1 h))
 ·rw[KE]at hi hj;simp only[Cx.back]at h1 h2;cases e1:idx (ks++os) i with
  |
   some x=>
   rw[e1]at h1
   obtain⟨b0,_,g2⟩:=DW e1
   cases e2:idx (ks++os) j with
   |
    some y=>
    rw[e2]at h2
    obtain⟨b1,_,g3⟩:=DW e2
    have:=wv.inj _ _ b (by simp[g2]) (by simp[g3]) h1 h2
    have KI:x=y:=by omega
    subst KI
    have:=ot e1
    rw[ot e2]at this
    exact(Option.some.inj this).symm
   |
    none=>
    rw[e2]at hj h2
    obtain⟨b1,Sm⟩:=JaW.1 hj
    have hp:=DX e2 Sm h2
    rw[←Mk]at hp
    exact absurd hp (wv.apart b ⟨_,b0,g2,h1⟩)
  |
   none=>
   rw[e1]at hi h1
   obtain⟨b0,uf⟩:=JaW.1 hi
   cases e2:idx (ks++os) j with
   |
    some y=>
    rw[e2]at h2
    obtain⟨b1,_,g3⟩:=DW e2
    have hp:=DX e1 uf h1
    rw[←Mk]at hp
    exact absurd hp (wv.apart b ⟨_,b1,g3,h2⟩)
   |
    none=>
    rw[e2]at hj h2
    exact hm.inj i j b (by simpa[uf]using hi) hj h1 h2
end Go.Ab
namespace Go.Ab
variable [cL]
variable {P:Program} {nt:Nat} {ds:List Deferred} {s:St} {Γ:Cx} {a:Act} {w:World} {l:Nat} {o:Obj}
abbrev FW (ro:Option Nat):Fence:= {Fence.wide with round:=ro}
theorem O8 {ro:Option Nat} {f:FuncId} {args:Array Value} {R:Ending->World->Prop} (h:Calls P f args w R):CallsIn (FW ro) 0 P f args w R:=
 (callsIn_wide (n:=0)).2 h
theorem MK {ro:Option Nat} {f:FuncId} {args:Array Value} {R:Ending->World->Prop} (h:CallsIn (FW ro) 0 P f args w R):Calls P f args w R:=
 (callsIn_wide (n:=0)).1 h
def isC:Obj->Bool
 | .cells .. | .map .. =>true
 |_=>false
def Cx.obj (Γ:Cx) (l:Nat) (o:Obj):Cx:= {Γ with heap:=Γ.heap.setIfInBounds l o}
def Cx.jk (Γ:Cx) (l:Nat):Prop:=∃x,Γ.heap[l]? =some x∧isC x=false
theorem jF {b:Nat} (h:b≠l):(Γ.obj l o).heap[b]? =Γ.heap[b]? :=by simp[Cx.obj,Array.getElem?_setIfInBounds_ne (Ne.symm h)]
theorem Cw (h:l<Γ.heap.size):(Γ.obj l o).heap[l]? =some o:=by simp[Cx.obj,h]
theorem qj:(Γ.obj l o).heap.size=Γ.heap.size:=by simp[Cx.obj]
theorem Cx.jk.lt (h:Γ.jk l):l<Γ.heap.size:=by obtain⟨x,hx,_⟩:=h;exact bN hx
theorem Cx.jk.ne' (h:Γ.jk l) {b:Nat} {x:Obj} (hb:Γ.heap[b]? =some x) (hx:isC x=true):b≠l:=by
 rintro rfl;obtain⟨y,hy,hc⟩:=h;rw[hb]at hy;cases hy;rw[hx]at hc;simp at hc
theorem Cx.jk.ne (h:Γ.jk l) {b:Nat} {c:Array Value} {e:TypeId} {z:Nat×Nat} (hb:Γ.heap[b]? =some (.cells c e z)):b≠l:=h.ne' hb rfl
theorem Cy (hm:Mem Γ) {b:Nat} (h:Γ.gn b):∃x,Γ.heap[b]? =some x∧isC x=true:=by
 obtain⟨k,blk,h1,h2⟩:=h;have:=hm.blk k blk h1;rw[h2]at this;cases blk with
 |box v=>obtain⟨b',c,e,e1,e2,_⟩:=this;cases e1;exact⟨_,e2,rfl⟩
 |arr sz l=>obtain⟨_,_,c,e,cs,rest,e2,_⟩:=this;exact⟨_,e2,rfl⟩
 |map b0 ks vs l=>obtain⟨e1,es,clock,e2,_⟩:=this;cases e1;exact⟨_,e2,rfl⟩
theorem Cz (hm:Mem Γ) (h:Γ.jk l):¬Γ.gn l:=by
 intro hb;obtain⟨x,hx,hc⟩:=Cy hm hb;exact h.ne' hx hc rfl
theorem KZ (h:Γ.jk l):OO Γ (Γ.obj l o) where
 cell b i c _ _ hc:=by
  have hb:b≠l:=by
   rintro rfl;obtain⟨x,hx,hp⟩:=h;unfold Ab.cell at hc;rw[hx]at hc;cases x<;>simp_all [isC]
  unfold Ab.cell at hc⊢;rw[jF hb];exact hc
 own b _ ho:=ho
 size:=by rw[qj];exact JaQ _
 ref k blk hk:=⟨blk,hk,JaQ _,λ_=>⟨rfl,λb _ cs e hc=>⟨cs,by rw[jF (h.ne hc)];exact hc,rfl⟩⟩⟩
theorem TH (hm:Mem Γ) (h:Γ.jk l):Mem (Γ.obj l o) where
 blk k blk hk:=(hm.blk k blk hk).qd (KZ h) λb hb=>by
  obtain⟨x,hx,hc⟩:=Cy hm ⟨k,blk,hk,hb⟩;exact jF (h.ne' hx hc)
 inj:=hm.inj
 bX b hb:=by rw[qj];exact hm.bX b hb
 apart:=hm.apart
 xN b cs hb:=by
  obtain⟨h1,e,x,h2⟩:=hm.xN b cs hb;exact⟨h1,e,x,by rw[jF (h.ne h2)];exact h2⟩
theorem ML (h:Γ.jk l) (ho:isC o=false):(Γ.obj l o).jk l:=⟨o,Cw h.lt,ho⟩
theorem Le.plain {A B:Cx} (h:Le A B) (hm:Mem A) {x:Obj} (hx:A.heap[l]? =some x) (hc:isC x=false):B.heap[l]? =some x:=by
 rw[h.heap l (bN hx) (Cz hm ⟨x,hx,hc⟩)];exact hx
theorem XM {A B:Cx} (h:Le A B) (hm:Mem A) (ha:A.jk l) (ho:isC o=false):Le (A.obj l o) (B.obj l o) where
 heap b hb hn:=by
  rw[qj]at hb;by_cases e:b=l
  ·subst e;rw[Cw hb,Cw (JhV hb h.size)]
  ·rw[jF e,jF e];exact h.heap b hb hn
 gn b hb hn:=by rw[qj]at hb;exact h.gn b hb hn
 bX:=h.bX
 size:=by rw[qj,qj];exact h.size
 ref k blk hk:=by
  obtain⟨bn,h1,h2,h3⟩:=h.ref k blk hk;refine⟨bn,h1,h2,λht=>⟨(h3 ht).1,λb hb cs e hc=> ?_⟩⟩;have cI:b≠l:=(ML ha ho).ne hc;rw[jF cI]at hc⊢;exact(h3 ht).2 b hb cs e hc
theorem FO {A B:Cx} (h:Le A B) (hl:A.heap.size≤l) (hb:B.jk l):Le A (B.obj l o) where
 heap b dq hn:=by rw[jF (by omega)];exact h.heap b dq hn
 gn b dq hn:=h.gn b dq hn
 bX:=h.bX
 size:=by rw[qj];exact h.size
 ref k blk hk:=by
  obtain⟨bn,h1,h2,h3⟩:=h.ref k blk hk;refine⟨bn,h1,h2,λht=>⟨(h3 ht).1,λb tc cs e hc=> ?_⟩⟩;obtain⟨DQ,h4,h5⟩:=(h3 ht).2 b tc cs e hc;exact⟨DQ,by rw[jF (hb.ne h4)];exact h4,h5⟩
theorem aiz {o':Obj} (h:Γ.heap[l]? =some o):(Γ.obj l o').obj l o=Γ:=by
 have dq:=bN h
 have:(Γ.heap.setIfInBounds l o').setIfInBounds l o=Γ.heap:=by
  apply Array.ext
  ·simp
  ·intro i h1 h2;rw[JnZ (by simpa using h2)];split
   ·subst_vars;exact((Array.getElem?_eq_some_iff.1 h).2).symm
   ·rename_i cI;rw[JnZ h2,if_neg cI]
 simp only[Cx.obj,this]
theorem gm.obj (hs:gm nt ds s Γ a) (h:Γ.jk l):gm nt ds s (Γ.obj l o) a:=
 ⟨hs.bx,hs.size,hs.defers,λk p hk=>(hs.env k p hk).qd (KZ h),TH hs.mem h⟩
theorem O9 (h:w.heap=Γ.heap):(w.putObj l o).heap=(Γ.obj l o).heap:=by simp[World.putObj,Cx.obj,h]
theorem WF.obj (w:World) (l:Nat) (o:Obj):WF w (w.putObj l o):=⟨rfl,rfl,rfl⟩
theorem WF.alloc (w:World) (o:Obj):WF w (w.alloc o):=⟨rfl,rfl,rfl⟩
def sG (B:Nat) (Γ:Cx) (ds:List Deferred):Prop:=
 ∃Ds:List Nat,ds=Ds.map (λD=> {target:= .collected D,args:= #[]})∧Ds.Nodup∧∀D∈Ds,B≤D∧Γ.heap[D]? =some (.deferred (some []))
theorem sG.nil {B:Nat}:sG B Γ []:=⟨[],rfl,.nil,by simp⟩
theorem sG.le {B:Nat} {Γ':Cx} (h:sG B Γ ds) (hm:Mem Γ) (hle:Le Γ Γ'):sG B Γ' ds:=by
 obtain⟨Ds,h1,h2,h3⟩:=h;exact⟨Ds,h1,h2,λD hD=>⟨(h3 D hD).1,hle.plain hm (h3 D hD).2 rfl⟩⟩
theorem sG.heap {B:Nat} {Γ':Cx} (h:sG B Γ ds) (he:Γ'.heap=Γ.heap):sG B Γ' ds:=by
 obtain⟨Ds,h1,h2,h3⟩:=h;exact⟨Ds,h1,h2,λD hD=>⟨(h3 D hD).1,by rw[he];exact(h3 D hD).2⟩⟩
def dS (n:Nat):List Nat:=(List.range n).map (KB+·)
def aaK (P:Program) (l:Nat) (Γc:Cx) (args:List PV) (fp:List aV) (R:List aV->Prop):Prop:=
 ∀
  (Γ:Cx) (w:World) (vs:List Value),w.heap=Γ.heap->Mem Γ->Γ.bx=av 0 fp->ff Γ args vs->OO Γc Γ->Γ.heap[l]? =Γc.heap[l]? ->
  YieldAt (FW none) 0 P l vs.toArray w (λe w'=>∃xD Γ',e= .returned (.bool true)∧R xD∧w'.heap=Γ'.heap∧Mem Γ'∧Γ'.bx=av 0 xD∧Le Γ Γ'∧WF w w')
class eJ where
 n:Nat
 spec:Nat->List PV->List aV->(List aV->Prop)->Prop
instance noY:eJ:=⟨0,λ_ _ _ _=>False⟩
def EJ [Y:eJ] (P:Program) (Γ:Cx):Prop:=∀l args fp R,Y.spec l args fp R->
 ∃Γ0 rec,Le Γ0 Γ∧(∀k blk,get Γ0.bx k=some blk->KB≤k∧k<KB+Y.n)∧Γ0.heap[l]? =some (.loop rec)∧Mem Γ0∧aaK P l Γ0 args fp R
theorem EJ.le [eJ] {Γ':Cx} (h:EJ P Γ) (hle:Le Γ Γ'):EJ P Γ':=λl args fp R hs=>by
 obtain⟨Γ0,rec,h1,h2⟩:=h l args fp R hs;exact⟨Γ0,rec,h1.trans hle,h2⟩
theorem EJ.no: @EJ _ noY P Γ:=λ_ _ _ _ h=>h.elim
def Jk [Y:eJ] (s:St) (d:Option Nat) (l:Nat) (args:List PV) (K:St->Prop):Prop:=
 ∃
  bM R,getAll s.bx (dS Y.n)=some bM∧ah (c9 Y.n) args=true∧bM.all (ab (c9 Y.n))=true∧Y.spec l args bM R∧
  ∀fp,R fp->(fp.length=Y.n∧fp.all (ab (c9 Y.n))=true)∧K ({s with bx:=aI s.bx (dS Y.n) fp}.put d (.bl true))
theorem tk (n:Nat):(dS n).Nodup:=by
 unfold dS;exact List.Pairwise.map _ (λa b h=>by simp only[ne_eq];omega) List.nodup_range
theorem zl {n i k:Nat}:(dS n)[i]? =some k↔i<n∧k=KB+i:=by
 unfold dS;simp only[List.getElem?_map,mJ];constructor
 ·rintro⟨x,h1,h2⟩;obtain⟨h3,h4⟩:=iJ.1 h1;simp at h3 h4;subst h4;exact⟨h3,h2.symm⟩
 ·rintro⟨h1,rfl⟩;exact⟨i,by simp[h1],rfl⟩
theorem CA {n k:Nat}:idx (dS n) k=if KB≤k∧k<KB+n then some (k-KB)else none:=by
 split
 ·rename_i h;exact Ct (tk n) (zl.2 ⟨by omega,by omega⟩)
 ·rename_i h;cases hi:idx (dS n) k with
  |none=>rfl
  |some i=>exact absurd (zl.1 (ot hi)) (by omega)
theorem uU (n:Nat):bR (dS n)=c9 n:=by
 funext k;simp only[bR,CA,c9];split<;>simp_all
theorem uV {n k:Nat}:bz (dS n) k=k:=by
 unfold bz;rw[CA];split
 ·rename_i i h;split at h<;>simp at h;omega
 ·rfl
mutual
theorem xW {ρ:Nat->Nat} (h:∀k,ρ k=k):∀p,aE ρ p=p
 | .rs k _ _ _ _ _ _=>by simp[aE,h]
 | .pt k _ _=>by simp[aE,h]
 | .st _ l=>by simp[aE,jG h l]
 | .ar _ _ l=>by simp[aE,jG h l]
 | .tup l=>by simp[aE,jG h l]
 | .sl _ l _=>by simp[aE,jG h l]
 | .fp _ l _=>by simp[aE,jG h l]
 | .fn _ x y=>by simp[aE,jG h x,jG h y]
 | .gd _ p=>by simp[aE,xW h p]
 | .ifc _ p=>by simp[aE,xW h p]
 | .un| .bl _| .int .. | .str _| .np| .nf| .ni| .mp .. =>by simp[aE]
theorem jG {ρ:Nat->Nat} (h:∀k,ρ k=k):∀l,aR ρ l=l
 |[]=>rfl
 |p::l=>by simp[aR,xW h p,jG h l]
end
theorem MM {ρ:Nat->Nat} (h:∀k,ρ k=k) (b:aV):az ρ b=b:=by
 cases b<;>simp[az,xW h,jG h]
theorem CC {ρ:Nat->Nat} (h:∀k,ρ k=k) (l:List aV):l.map (az ρ)=l:=by
 induction l<;>simp[MM h, *]
theorem Pa {Γ0:Cx} {n:Nat} {bM:List aV} (h0:∀k blk,get Γ0.bx k=some blk->KB≤k∧k<KB+n) (hle:Le Γ0 Γ) (hg:getAll Γ.bx (dS n)=some bM):OO Γ0 (Γ.call (dS n) bM) where
 cell b i c hb hn hc:=by
  have:=hle.heap b hb λh=>hn (.inl h);rw[show(Γ.call (dS n) bM).heap=Γ.heap from rfl,cell_of_heap this];exact hc
 own b hb ho:=by
  have hG:Γ.own b:=by
   rcases ho with ho|ho
   ·obtain⟨i,k,h1,h2⟩:=(Cx.mw hg).1 ho;obtain⟨_,b9⟩:=dH hg;obtain⟨b',g1,_⟩:=b9 i k h1;exact .inl ⟨k,b',g1,h2⟩
   ·exact ho.1
  exact hle.own b hb hG
 size:=hle.size
 ref k blk hk:=by
  obtain⟨h1,h2⟩:=h0 k blk hk;obtain⟨bn,g1,g2,g3⟩:=hle.ref k blk hk;have hs:=Cx.sF (Γ:=Γ) hg;obtain⟨avx,e1,e2,e3⟩:=hs.ref k bn (by rw[uU];simp[c9,h1,h2]) g1;rw[uV]at e1 e3;refine⟨avx,e1,by omega,λht=> ?_⟩;obtain⟨g4,g5⟩:=g3 (by omega);exact⟨by rw[e3,g4],g5⟩
end Go.Ab
namespace Go.Ab
variable [cL]
variable {P:Program} {nt:Nat} {ds:List Deferred} {s:St} {Γ:Cx} {a:Act} {w:World}
theorem xX:∀ {l:List Sh} {m:List PV},dz l m=true->aB m=rK l
 |[],[],_=>rfl
 |
  x::l,p::m,h=>by
  simp only[dz,aJ]at h
  simp only[aB,rK,j8 h.1,xX h.2]
 |[],_::_,h=>by simp[dz]at h
 |_::_,[],h=>by simp[dz]at h
theorem xY {e:Sh}:∀ {m:List PV},ju e m=true->∀x∈m,x.width=rI e
 |[],_=>by simp
 |
  p::m,h=>by
  simp only[ju,aJ]at h
  intro x hx
  rcases cJ.1 hx with rfl|hx
  ·exact j8 h.1
  ·exact xY h.2 x hx
mutual
theorem xb:∀(p:PV) {x:Sh},fits x p=true->aD Γ [p] (bW p)
 | .bl b,_,_=> .bl b .nil
 | .int k n,_,_=> .int k n .nil
 | .str l,_,_=> .str l _ (by simp) .nil
 |
  .st w l,x,h=>by
  cases x<;>simp only[fits,fJ,aJ,decide_eq_true_eq]at h
  simp only[bW]
  have h1:=Ay l h.2
  exact h1.st1 (by rw[h1.length,xX h.2,h.1])
 |
  .ar sz n l,x,h=>by
  cases x<;>simp only[fits,fJ,aJ,decide_eq_true_eq]at h
  simp only[bW]
  exact(Az l h.2).Tw (by rw[h.1.2.2,h.1.2.1]) (λx hx=>by rw[xY h.2 x hx,h.1.1])
 | .un,x,h=>by cases x<;>simp[fits]at h
 | .tup _,x,h=>by cases x<;>simp[fits]at h
 | .sl _ _ _,x,h=>by cases x<;>simp[fits]at h
 | .rs _ _ _ _ _ _ _,x,h=>by cases x<;>simp[fits]at h
 | .np,x,h=>by cases x<;>simp[fits]at h
 | .pt _ _ _,x,h=>by cases x<;>simp[fits]at h
 | .fp _ _ _,x,h=>by cases x<;>simp[fits]at h
 | .fn _ _ _,x,h=>by cases x<;>simp[fits]at h
 | .nf,x,h=>by cases x<;>simp[fits]at h
 | .gd _ _,x,h=>by cases x<;>simp[fits]at h
 | .ifc _ _,x,h=>by cases x<;>simp[fits]at h
 | .ni,x,h=>by cases x<;>simp[fits]at h
 | .mp _ _,x,h=>by cases x<;>simp[fits]at h
theorem Ay:∀(l:List PV) {xs:List Sh},dz xs l=true->aD Γ l (fC l)
 |[],_,_=> .nil
 |
  p::l,xs,h=>by
  cases xs with
  |nil=>simp[dz]at h
  |
   cons x xs=>
   simp only[dz,aJ]at h
   simp only[fC]
   exact(xb p h.1).cons (Ay l h.2)
theorem Az:∀(l:List PV) {e:Sh},ju e l=true->aD Γ l (fC l)
 |[],_,_=> .nil
 |
  p::l,e,h=>by
  simp only[ju,aJ]at h
  simp only[fC]
  exact(xb p h.1).cons (Az l h.2)
end
mutual
theorem kg:∀(p:PV) {x:Sh} {cs:List Value},fits x p=true->aD Γ [p] cs->cs=bW p
 | .bl b,_,_,_,hr=>by cases hr with|bl _ hr=>cases hr;rfl
 | .int k n,_,_,_,hr=>by cases hr with|int _ _ hr=>cases hr;rfl
 |
  .str l,_,_,_,hr=>by
  cases hr with
  |
   str _ s hl hr=>
   cases hr
   subst hl
   simp[bW]
 |
  .st w l,x,cs,h,hr=>by
  cases x<;>simp only[fits,fJ,aJ,decide_eq_true_eq]at h
  simp only[bW]
  exact xZ l h.2 hr.rF.1
 |
  .ar sz n l,x,cs,h,hr=>by
  cases x<;>simp only[fits,fJ,aJ,decide_eq_true_eq]at h
  simp only[bW]
  exact yc l h.2 hr.nQ.1
 | .un,x,_,h,_=>by cases x<;>simp[fits]at h
 | .tup _,x,_,h,_=>by cases x<;>simp[fits]at h
 | .sl _ _ _,x,_,h,_=>by cases x<;>simp[fits]at h
 | .rs _ _ _ _ _ _ _,x,_,h,_=>by cases x<;>simp[fits]at h
 | .np,x,_,h,_=>by cases x<;>simp[fits]at h
 | .pt _ _ _,x,_,h,_=>by cases x<;>simp[fits]at h
 | .fp _ _ _,x,_,h,_=>by cases x<;>simp[fits]at h
 | .fn _ _ _,x,_,h,_=>by cases x<;>simp[fits]at h
 | .nf,x,_,h,_=>by cases x<;>simp[fits]at h
 | .gd _ _,x,_,h,_=>by cases x<;>simp[fits]at h
 | .ifc _ _,x,_,h,_=>by cases x<;>simp[fits]at h
 | .ni,x,_,h,_=>by cases x<;>simp[fits]at h
 | .mp _ _,x,_,h,_=>by cases x<;>simp[fits]at h
theorem xZ:∀(l:List PV) {xs:List Sh} {cs:List Value},dz xs l=true->aD Γ l cs->cs=fC l
 |[],_,_,_,hr=>by cases hr;rfl
 |
  p::l,xs,cs,h,hr=>by
  cases xs with
  |nil=>simp[dz]at h
  |
   cons x xs=>
   simp only[dz,aJ]at h
   obtain⟨c1,c2,rfl,h1,h2⟩:=hr.lZ
   simp only[fC,kg p h.1 h1,xZ l h.2 h2]
theorem yc:∀(l:List PV) {e:Sh} {cs:List Value},ju e l=true->aD Γ l cs->cs=fC l
 |[],_,_,_,hr=>by cases hr;rfl
 |
  p::l,e,cs,h,hr=>by
  simp only[ju,aJ]at h
  obtain⟨c1,c2,rfl,h1,h2⟩:=hr.lZ
  simp only[fC,kg p h.1 h1,yc l h.2 h2]
end
theorem yd {p:PV} {x:Sh} (h:fits x p=true):aL Γ p (cK p):=by
 have h1:=xb (Γ:=Γ) p h;cases p<;>first|(cases x<;>simp[fits]at h;done)|skip
 ·simpa only[aL,cK,bW]using h1
 ·simpa only[aL,cK,bW]using h1
 ·simpa only[aL,cK,bW]using h1
 ·exact⟨_,rfl,by simpa only[bW]using h1⟩
 ·exact⟨_,rfl,by simpa only[bW]using h1⟩
theorem EK {p:PV} {x:Sh} {v:Value} (h:fits x p=true) (hr:aL Γ p v):v=cK p:=by
 cases p<;>first|(cases x<;>simp[fits]at h;done)|skip
 ·have:=kg _ h (by simpa only[aL]using hr);simpa[bW,cK]using this
 ·have:=kg _ h (by simpa only[aL]using hr);simpa[bW,cK]using this
 ·have:=kg _ h (by simpa only[aL]using hr);simpa[bW,cK]using this
 ·obtain⟨cs,rfl,h1⟩:=hr;have:=kg _ h h1;subst this;rfl
 ·obtain⟨cs,rfl,h1⟩:=hr;have:=kg _ h h1;subst this;rfl
mutual
theorem FP:∀(p:PV),oV p=true->aD Γ [p] (bW p)
 | .bl b,_=> .bl b .nil
 | .int k n,_=> .int k n .nil
 | .str l,_=> .str l _ (by simp) .nil
 | .nf,_=> .nf .nil
 |
  .fn f a b,h=>by
  simp only[oV,aJ,List.isEmpty_iff]at h
  obtain⟨rfl,rfl⟩:=h
  exact .fn f [] [] .nil .nil (by simp) (by simp) .nil
 |
  .st w l,h=>by
  simp only[oV,aJ,decide_eq_true_eq]at h
  simp only[bW]
  have h1:=Hs l h.2
  exact h1.st1 (by rw[h1.length,h.1])
 | .un,h=>by simp[oV]at h
 | .ar _ _ _,h=>by simp[oV]at h
 | .tup _,h=>by simp[oV]at h
 | .sl _ _ _,h=>by simp[oV]at h
 | .rs _ _ _ _ _ _ _,h=>by simp[oV]at h
 | .np,h=>by simp[oV]at h
 | .pt _ _ _,h=>by simp[oV]at h
 | .fp _ _ _,h=>by simp[oV]at h
 | .gd _ _,h=>by simp[oV]at h
 | .ifc _ _,h=>by simp[oV]at h
 | .ni,h=>by simp[oV]at h
 | .mp _ _,h=>by simp[oV]at h
theorem Hs:∀(l:List PV),Mq l=true->aD Γ l (fC l)
 |[],_=> .nil
 |
  p::l,h=>by
  simp only[Mq,aJ]at h
  simp only[fC]
  exact(FP p h.1).cons (Hs l h.2)
end
mutual
theorem qk:∀(p:PV) {cs:List Value},oV p=true->aD Γ [p] cs->cs=bW p
 | .bl b,_,_,hr=>by cases hr with|bl _ hr=>cases hr;rfl
 | .int k n,_,_,hr=>by cases hr with|int _ _ hr=>cases hr;rfl
 |
  .str l,_,_,hr=>by
  cases hr with
  |
   str _ s hl hr=>
   cases hr
   subst hl
   simp[bW]
 | .nf,_,_,hr=>by cases hr with|nf hr=>cases hr;rfl
 |
  .fn f a b,_,h,hr=>by
  simp only[oV,aJ,List.isEmpty_iff]at h
  obtain⟨rfl,rfl⟩:=h
  cases hr with
  |fn _ _ _ h1 h2 _ _ hr=>cases h1;cases h2;cases hr;rfl
 |
  .st w l,cs,h,hr=>by
  simp only[oV,aJ,decide_eq_true_eq]at h
  simp only[bW]
  exact EL l h.2 hr.rF.1
 | .un,_,h,_=>by simp[oV]at h
 | .ar _ _ _,_,h,_=>by simp[oV]at h
 | .tup _,_,h,_=>by simp[oV]at h
 | .sl _ _ _,_,h,_=>by simp[oV]at h
 | .rs _ _ _ _ _ _ _,_,h,_=>by simp[oV]at h
 | .np,_,h,_=>by simp[oV]at h
 | .pt _ _ _,_,h,_=>by simp[oV]at h
 | .fp _ _ _,_,h,_=>by simp[oV]at h
 | .gd _ _,_,h,_=>by simp[oV]at h
 | .ifc _ _,_,h,_=>by simp[oV]at h
 | .ni,_,h,_=>by simp[oV]at h
 | .mp _ _,_,h,_=>by simp[oV]at h
theorem EL:∀(l:List PV) {cs:List Value},Mq l=true->aD Γ l cs->cs=fC l
 |[],_,_,hr=>by cases hr;rfl
 |
  p::l,cs,h,hr=>by
  simp only[Mq,aJ]at h
  obtain⟨c1,c2,rfl,h1,h2⟩:=hr.lZ
  simp only[fC,qk p h.1 h1,EL l h.2 h2]
end
theorem TI {p:PV} (h:oV p=true):aL Γ p (cK p):=by
 have h1:=FP (Γ:=Γ) p h;cases p<;>first|(simp[oV]at h;done)|skip
 ·simpa only[aL,cK,bW]using h1
 ·simpa only[aL,cK,bW]using h1
 ·simpa only[aL,cK,bW]using h1
 ·exact⟨_,rfl,by simpa only[bW]using h1⟩
 ·simpa only[aL,cK,bW]using h1
 ·simpa only[aL,cK,bW]using h1
theorem Pb {p:PV} (h:oV p=true):gP Γ p (cK p):=by
 have h1:=FP (Γ:=Γ) p h;cases p<;>first|(simp[oV]at h;done)|skip
 ·simpa only[gP,cK,bW]using h1
 ·simpa only[gP,cK,bW]using h1
 ·simpa only[gP,cK,bW]using h1
 ·exact⟨_,rfl,by simpa only[bW]using h1⟩
 ·simpa only[gP,cK,bW]using h1
 ·simpa only[gP,cK,bW]using h1
theorem Ht {p:PV} {v:Value} (h:oV p=true) (hr:aL Γ p v):v=cK p:=by
 cases p<;>first|(simp[oV]at h;done)|skip
 ·have:=qk _ h (by simpa only[aL]using hr);simpa[bW,cK]using this
 ·have:=qk _ h (by simpa only[aL]using hr);simpa[bW,cK]using this
 ·have:=qk _ h (by simpa only[aL]using hr);simpa[bW,cK]using this
 ·obtain⟨cs,rfl,h1⟩:=hr;have:=qk _ h h1;subst this;rfl
 ·have:=qk _ h (by simpa only[aL]using hr);simpa[bW,cK]using this
 ·have:=qk _ h (by simpa only[aL]using hr);simpa[bW,cK]using this
def CheckAt (P:Program) (Γ:Cx) (em:Bool) (d:Nat) (t:TypeId) (x:Sh):Prop:=
 ∀(w:World) (p:PV) (v:Value),fits x p=true->aL Γ p v->(Instr.checkKey em d t v).run P w= .ok () w
theorem ye {em:Bool} {d:Nat} {xs:List Value}:∀(fs:List Field) (l:List Sh) (ps:List PV) (pre1 c1:List Value) (o:Nat) (w:World),
  xs=pre1++c1->pre1.length=o->aD Γ ps c1->dz l ps=true->
  fs.all (λf=>f.name != "_")=true->fs.map (·.offset)=zd o l->fs.map (λf=>gT P f.type)=l.map (λx=>some (rI x))->
  fs.map (λf=>lM P f.type)=l.map (λx=>some x.agg)->(∀(i:Nat) f x,fs[i]? =some f->l[i]? =some x->CheckAt P Γ em d f.type x)->
  (forIn (m:=Sem) fs PUnit.unit λf _=>do
   if f.name≠ "_" then
    Instr.checkKey em d f.type (←part f.type xs.toArray f.offset)
    pure (ForInStep.yield PUnit.unit)
   else pure (ForInStep.yield PUnit.unit)).run P w= .ok PUnit.unit w
 |[],l,ps,pre1,c1,o,w,hx,Oe,h1,f1,hn,Ao,fH,Xi,cq=>by simp
 |
  f::fs,l,ps,pre1,c1,o,w,hx,Oe,h1,f1,hn,Ao,fH,Xi,cq=>by
  cases l with
  |nil=>simp at fH
  |
   cons x l=>
   cases ps with
   |nil=>simp[dz]at f1
   |
    cons p ps=>
    simp only[dz,aJ]at f1
    simp only[JdX,List.cons.injEq,zd]at Ao fH Xi
    simp only[JoZ,aJ]at hn
    obtain⟨a1,b1,rfl,r1,r2⟩:=h1.lZ
    have wp:=j8 f1.1
    have ap:=lN f1.1
    have Xj:lM P f.type=some x.agg:=Xi.1
    obtain⟨v,hv,Xk⟩:=ow (P:=P) (w:=w) (t:=f.type) r1 hx (Oe.trans Ao.1.symm) (by rw[ap];exact Xj) (by rw[wp];exact fH.1)
    have he:=cq 0 f x rfl rfl w p v f1.1 Xk
    have ih:=ye (em:=em) (d:=d) (xs:=xs) fs l ps (pre1++a1) b1 (o+rI x) w (by rw[hx];simp) (by simp[Oe,r1.fS,wp]) r2 f1.2 hn.2 Ao.2 fH.2 Xi.2
     (λi g y hg hy=>cq (i+1) g y (by simpa using hg) (by simpa using hy))
    have cI:f.name≠ "_" :=by simpa using hn.1
    simp only[List.forIn_cons,bJ,cI,ne_eq,not_false_eq_true,if_true,hv,he,rJ,JbW]
    exact ih
theorem Hu {em:Bool} {d len n:Nat} {t:TypeId} {e:Sh} {xs:List Value} (hn:n=rI e) (hg:lM P t=some e.agg) (hz:gT P t=some n) (heq:CheckAt P Γ em d t e):
  ∀
   (ps:List PV) (pre1 c1:List Value) (i:Nat) (w:World),xs=pre1++c1->pre1.length=i*n->aD Γ ps c1->ju e ps=true->ps.length=len->
   (forIn (m:=Sem) (List.range' i len 1) PUnit.unit λi _=>do
      Instr.checkKey em d t (←part t xs.toArray (i*(←sizeOf t)))
      pure (ForInStep.yield PUnit.unit)).run P w= .ok PUnit.unit w:=by
 induction len with
 |zero=>intro ps pre1 c1 i w _ _ _ _ _;simp
 |
  succ len ih=>
  intro ps pre1 c1 i w hx Oe h1 f1 l1
  cases ps with
  |nil=>simp at l1
  |
   cons p ps=>
   simp only[ju,aJ]at f1
   obtain⟨a1,b1,rfl,r1,r2⟩:=h1.lZ
   have wp:=j8 f1.1
   have ap:=lN f1.1
   obtain⟨v,hv,Xk⟩:=ow (P:=P) (w:=w) (t:=t) r1 hx Oe (by rw[ap];exact hg) (by rw[wp,←hn];exact hz)
   have he:=heq w p v f1.1 Xk
   have ih':=ih ps (pre1++a1) b1 (i+1) w (by rw[hx];simp) (by simp[Oe,r1.fS,wp,JgQ];omega) r2 f1.2 (by simpa using l1)
   simp only[List.range'_succ,List.forIn_cons,bJ,run_sizeOf hz,hv,he,rJ,JbW]
   exact ih'
theorem EM {em:Bool}:∀(n:Nat) {t:TypeId} {x:Sh} (d:Nat),n≤d->rL P n t=some x->CheckAt P Γ em d t x:=by
 intro n;induction n with
 |zero=>intro t x d _ h;simp[rL]at h
 |
  succ n ih=>
  intro t x d hd h w p v fp hp
  obtain⟨d,rfl⟩:∃d',d=d'+1:=⟨d-1,by omega⟩
  simp only[rL]at h
  split at h<;>(try(simp only[sJ,reduceCtorEq]at h;try subst h))
  ·rename_i hu
   cases p<;>simp[fits]at fp
   rw[hp.bl]
   simp only[Instr.checkKey,bJ,run_underlying hu,rJ];rfl
  ·rename_i k hu
   cases p<;>simp[fits]at fp
   rw[hp.int]
   simp only[Instr.checkKey,bJ,run_underlying hu,rJ];rfl
  ·rename_i hu
   cases p<;>simp[fits]at fp
   obtain⟨s1,rfl,rfl⟩:=hp.str
   simp only[Instr.checkKey,bJ,run_underlying hu,rJ];rfl
  ·rename_i fs hu
   split at h
   ·rename_i l hl
    split at h
    ·rename_i ur
     obtain⟨c1,c2,c3,c4,c5⟩:=ur
     simp only[sJ]at h
     subst h
     cases p<;>simp only[fits,fJ,aJ,decide_eq_true_eq]at fp
     rename_i w1 m1
     obtain⟨cs,rfl,hc⟩:=hp.cells rfl
     have:=ye (em:=em) (d:=d) (xs:=cs) fs.toList l m1 [] cs 0 w rfl rfl hc.rF.1 fp.2 c2 c3 c4 c5 (λi f y KF hyi=>by
      refine ih d (by omega) ?_;have:=FF.allM_get hl KF;rw[hyi]at this;exact this)
     simp only[Instr.checkKey,bJ,run_underlying hu,rJ]
     rw[←Array.forIn_toList,this]
     rfl
    ·exact absurd h (by simp)
   ·exact absurd h (by simp)
  ·rename_i k e hu
   split at h
   ·rename_i x' hx'
    split at h
    ·rename_i ur
     simp only[sJ]at h
     subst h
     cases p<;>simp only[fits,fJ,aJ,decide_eq_true_eq]at fp
     rename_i z1 n1 m1
     obtain⟨cs,rfl,hc⟩:=hp.cells rfl
     have hg:lM P e=some x'.agg:=ur.2
     have:=Hu (P:=P) (Γ:=Γ) (em:=em) (d:=d) (len:=k) (n:=rI x') (t:=e) (e:=x') (xs:=cs) rfl hg ur.1 (ih d (by omega) hx') m1 [] cs 0 w rfl (by simp) hc.nQ.1 fp.2 fp.1.2.2
     simp only[Instr.checkKey,bJ,run_underlying hu,rJ]
     rw[Std.Legacy.Range.forIn_eq_forIn_range']
     simp only[Std.Legacy.Range.size,Nat.sub_zero,Nat.add_sub_cancel,Nat.div_one]
     rw[this]
     rfl
    ·exact absurd h (by simp)
   ·exact absurd h (by simp)
  all_goals simp at h
def tn (p:PV):List (PV×PV)->Nat->Option (Nat×PV)
 |[],_=>none
 |(k,v)::r,i=>if PV.beq p k=true then some (i,v)else tn p r (i+1)
theorem Hv (p:PV):∀(l:List (PV×PV)) (i:Nat),(tn p l i).map (·.2)=Ax p l
 |[],_=>rfl
 |
  (k,v)::r,i=>by
  simp only[tn,Ax]
  split
  ·rfl
  ·exact Hv p r (i+1)
def wB (ks:Sh) (es:List MapEntry) (l:List (PV×PV)):Prop:=es.map (λe=>(e.key,e.val))=l.map (λx=>(cK x.1,cK x.2))∧∀x∈l,fits ks x.1=true
theorem wB.cons {ks:Sh} {e:MapEntry} {es:List MapEntry} {x:PV×PV} {l:List (PV×PV)} (h:wB ks (e::es) (x::l)):e.key=cK x.1∧e.val=cK x.2∧fits ks x.1=true∧wB ks es l:=by
 obtain⟨h1,h2⟩:=h;simp only[JdX,List.cons.injEq,Prod.mk.injEq]at h1;exact⟨h1.1.1,h1.1.2,h2 x (by simp),h1.2,λy hy=>h2 y (by simp[hy])⟩
theorem AB {t:TypeId} {ks:Sh} {p:PV} (he:EqAt P Γ 10000 t ks) (hp:fits ks p=true):∀(es:List MapEntry) (l:List (PV×PV)) (i:Nat),wB ks es l->
  (Instr.findAsking t (cK p) es i).run P w= .ok ((tn p l i).map λx=>(x.1,cK x.2)) w
 |
  [],l,i,h=>by
  cases l with
  |nil=>simp[Instr.findAsking,tn]
  |cons=>simp[wB]at h
 |
  e::es,l,i,h=>by
  cases l with
  |nil=>simp[wB]at h
  |
   cons x l=>
   obtain⟨h1,h2,h3,h4⟩:=h.cons
   have:=he w p x.1 (cK p) (cK x.1) hp h3 (yd hp) (yd h3)
   have ih:=AB he hp es l (i+1) h4
   rw[←h1]at this
   have this':(Op.equal t (cK p) e.key).run P w= .ok (PV.beq p x.1) w:=this
   obtain⟨k,v⟩:=x
   simp only[Instr.findAsking,bJ,this',rJ,tn]
   by_cases hb:PV.beq p k=true
   ·simp only[hb,if_true,JbW,JjJ,h2]
   ·simp only[hb,fJ,if_false];exact ih
theorem Hw {d:TypeDesc} {ks:Sh} {p:PV} (hp:fits ks p=true) (hk:∀q,fits ks q=true->Instr.sameNow d (cK p) (cK q)=some (PV.beq p q)):∀(es:List MapEntry) (l:List (PV×PV)) (i:Nat),wB ks es l->
  Instr.findNow d (cK p) es i=some ((tn p l i).map λx=>(x.1,cK x.2))
 |
  [],l,i,h=>by
  cases l with
  |nil=>simp[Instr.findNow,tn]
  |cons=>simp[wB]at h
 |
  e::es,l,i,h=>by
  cases l with
  |nil=>simp[wB]at h
  |
   cons x l=>
   obtain⟨h1,h2,h3,h4⟩:=h.cons
   have ih:=Hw hp hk es l (i+1) h4
   obtain⟨k,v⟩:=x
   simp only[Instr.findNow,h1,hk k h3,tn]
   cases hb:PV.beq p k
   ·simp only[fJ,if_false];exact ih
   ·simp only[if_true,JjJ,h2]
theorem Jl {d:TypeDesc} {v:Value} (hk:∀u,Instr.sameNow d v u=none):∀(es:List MapEntry) (i:Nat),Instr.findNow d v es i=if es=[]then some none else none
 |[],_=>by simp[Instr.findNow]
 |e::es,i=>by simp[Instr.findNow,hk]
theorem Pc (a b:List UInt8):((⟨a.toArray⟩:ByteArray)==⟨b.toArray⟩)=(a==b):=by
 cases h:(a==b)
 ·have:a≠b:=by simpa using h
  cases h2:((⟨a.toArray⟩:ByteArray)==⟨b.toArray⟩)
  ·rfl
  ·have:=(MapKept.bytes_beq _ _).1 h2;simp at this;contradiction
 ·have:a=b:=by simpa using h
  subst this;exact(MapKept.bytes_beq _ _).2 rfl
theorem Hx {t:TypeId} {ks:Sh} {p:PV} (A8:rL P 20 t=some ks) (hp:fits ks p=true) {es:List MapEntry} {l:List (PV×PV)} (h:wB ks es l):
  (Instr.findKey t (cK p) es).run P w= .ok ((tn p l 0).map λx=>(x.1,cK x.2)) w:=by
 have he:EqAt P ⟨#[],λ_=>none,[],λ_=>False⟩ 10000 t ks:=FF 20 10000 (by omega) A8
 have now:∀ {d:TypeDesc},P.underlying t=some d->(∀q,fits ks q=true->Instr.sameNow d (cK p) (cK q)=some (PV.beq p q))->(Instr.findKey t (cK p) es).run P w= .ok ((tn p l 0).map λx=>(x.1,cK x.2)) w:=by
  intro d hu hk;simp only[Instr.findKey,bJ,run_underlying hu,rJ,Hw hp hk es l 0 h,JbW]
 have never:∀ {d:TypeDesc},P.underlying t=some d->(∀u,Instr.sameNow d (cK p) u=none)->(Instr.findKey t (cK p) es).run P w= .ok ((tn p l 0).map λx=>(x.1,cK x.2)) w:=by
  intro d hu hk;simp only[Instr.findKey,bJ,run_underlying hu,rJ,Jl hk es 0];by_cases hn:es=[]
  ·subst hn;cases l with
   |nil=>simp[tn]
   |cons=>simp[wB]at h
  ·rw[if_neg hn];exact AB he hp es l 0 h
 simp only[rL]at A8;split at A8<;>(try(simp only[sJ,reduceCtorEq]at A8;try subst A8))
 ·rename_i hu;refine now hu λq hq=> ?_;cases p<;>simp[fits]at hp;cases q<;>simp[fits]at hq;rfl
 ·rename_i k hu;refine now hu λq hq=> ?_;cases p<;>simp[fits]at hp;cases q<;>simp[fits]at hq;subst hp hq;simp[Instr.sameNow,cK,PV.beq]
 ·rename_i hu;refine now hu λq hq=> ?_;cases p<;>simp[fits]at hp;cases q<;>simp[fits]at hq;simp only[Instr.sameNow,cK,PV.beq,Pc]
 ·rename_i fs hu;exact never hu λu=>by simp[Instr.sameNow]
 ·rename_i k e hu;exact never hu λu=>by simp[Instr.sameNow]
 all_goals simp at A8
mutual
theorem beq_eq:∀(p q:PV) {x:Sh},fits x p=true->fits x q=true->PV.beq p q=true->p=q
 |
  .bl a,q,x,hp,hq,h=>by
  cases x<;>simp[fits]at hp
  cases q<;>simp[fits]at hq
  simpa[PV.beq]using h
 |
  .int k n,q,x,hp,hq,h=>by
  cases x<;>simp[fits]at hp
  cases q<;>simp[fits]at hq
  subst hp hq
  simpa[PV.beq]using h
 |
  .str l,q,x,hp,hq,h=>by
  cases x<;>simp[fits]at hp
  cases q<;>simp[fits]at hq
  simpa[PV.beq]using h
 |
  .st w l,q,x,hp,hq,h=>by
  cases x<;>simp only[fits,fJ,aJ,decide_eq_true_eq]at hp
  cases q<;>simp only[fits,fJ,aJ,decide_eq_true_eq]at hq
  rename_i xs w' m
  rw[hp.1,hq.1,K0 l m hp.2 hq.2 (by simpa[PV.beq]using h)]
 |
  .ar z n l,q,x,hp,hq,h=>by
  cases x<;>simp only[fits,fJ,aJ,decide_eq_true_eq]at hp
  cases q<;>simp only[fits,fJ,aJ,decide_eq_true_eq]at hq
  rename_i n' e z' k m
  rw[hp.1.1,hq.1.1,hp.1.2.1,hq.1.2.1,K5 l m hp.2 hq.2 (by simpa[PV.beq]using h)]
 | .un,q,x,hp,_,_=>by cases x<;>simp[fits]at hp
 | .tup _,q,x,hp,_,_=>by cases x<;>simp[fits]at hp
 | .sl _ _ _,q,x,hp,_,_=>by cases x<;>simp[fits]at hp
 | .rs _ _ _ _ _ _ _,q,x,hp,_,_=>by cases x<;>simp[fits]at hp
 | .np,q,x,hp,_,_=>by cases x<;>simp[fits]at hp
 | .pt _ _ _,q,x,hp,_,_=>by cases x<;>simp[fits]at hp
 | .fp _ _ _,q,x,hp,_,_=>by cases x<;>simp[fits]at hp
 | .fn _ _ _,q,x,hp,_,_=>by cases x<;>simp[fits]at hp
 | .nf,q,x,hp,_,_=>by cases x<;>simp[fits]at hp
 | .gd _ _,q,x,hp,_,_=>by cases x<;>simp[fits]at hp
 | .ifc _ _,q,x,hp,_,_=>by cases x<;>simp[fits]at hp
 | .ni,q,x,hp,_,_=>by cases x<;>simp[fits]at hp
 | .mp _ _,q,x,hp,_,_=>by cases x<;>simp[fits]at hp
theorem K0:∀(l m:List PV) {xs:List Sh},dz xs l=true->dz xs m=true->PV.lL l m=true->l=m
 |[],m,xs,hp,hq,h=>by cases m with|nil=>rfl|cons=>simp[PV.lL]at h
 |
  p::l,m,xs,hp,hq,h=>by
  cases m with
  |nil=>simp[PV.lL]at h
  |
   cons q m=>
   cases xs with
   |nil=>simp[dz]at hp
   |
    cons x xs=>
    simp only[dz,aJ]at hp hq
    simp only[PV.lL,aJ]at h
    rw[beq_eq p q hp.1 hq.1 h.1,K0 l m hp.2 hq.2 h.2]
theorem K5:∀(l m:List PV) {e:Sh},ju e l=true->ju e m=true->PV.lL l m=true->l=m
 |[],m,xs,hp,hq,h=>by cases m with|nil=>rfl|cons=>simp[PV.lL]at h
 |
  p::l,m,e,hp,hq,h=>by
  cases m with
  |nil=>simp[PV.lL]at h
  |
   cons q m=>
   simp only[ju,aJ]at hp hq
   simp only[PV.lL,aJ]at h
   rw[beq_eq p q hp.1 hq.1 h.1,K5 l m hp.2 hq.2 h.2]
end
mutual
theorem uX:∀(p:PV) {x:Sh},fits x p=true->∀v∈bW p,∀n,Instr.sameBits n v v=true
 | .bl a,x,_=>by simp[bW,Instr.sameBits]
 | .int k n,x,_=>by simp[bW,Instr.sameBits]
 |
  .str l,x,_=>by
  intro v hv n
  simp only[bW,JqW]at hv
  subst hv
  cases n<;>simp only[Instr.sameBits]<;>exact(MapKept.bytes_beq _ _).2 rfl
 |
  .st w l,x,h=>by
  cases x<;>simp only[fits,fJ,aJ,decide_eq_true_eq]at h
  exact yf l h.2
 |
  .ar z n l,x,h=>by
  cases x<;>simp only[fits,fJ,aJ,decide_eq_true_eq]at h
  exact yg l h.2
 | .un,x,hp=>by cases x<;>simp[fits]at hp
 | .tup _,x,hp=>by cases x<;>simp[fits]at hp
 | .sl _ _ _,x,hp=>by cases x<;>simp[fits]at hp
 | .rs _ _ _ _ _ _ _,x,hp=>by cases x<;>simp[fits]at hp
 | .np,x,hp=>by cases x<;>simp[fits]at hp
 | .pt _ _ _,x,hp=>by cases x<;>simp[fits]at hp
 | .fp _ _ _,x,hp=>by cases x<;>simp[fits]at hp
 | .fn _ _ _,x,hp=>by cases x<;>simp[fits]at hp
 | .nf,x,hp=>by cases x<;>simp[fits]at hp
 | .gd _ _,x,hp=>by cases x<;>simp[fits]at hp
 | .ifc _ _,x,hp=>by cases x<;>simp[fits]at hp
 | .ni,x,hp=>by cases x<;>simp[fits]at hp
 | .mp _ _,x,hp=>by cases x<;>simp[fits]at hp
theorem yf:∀(l:List PV) {xs:List Sh},dz xs l=true->∀v∈fC l,∀n,Instr.sameBits n v v=true
 |[],_,_=>by simp[fC]
 |
  p::l,xs,h=>by
  cases xs with
  |nil=>simp[dz]at h
  |
   cons x xs=>
   simp only[dz,aJ]at h
   intro v hv
   rcases JaZ.1 hv with hv|hv
   ·exact uX p h.1 v hv
   ·exact yf l h.2 v hv
theorem yg:∀(l:List PV) {e:Sh},ju e l=true->∀v∈fC l,∀n,Instr.sameBits n v v=true
 |[],_,_=>by simp[fC]
 |
  p::l,e,h=>by
  simp only[ju,aJ]at h
  intro v hv
  rcases JaZ.1 hv with hv|hv
  ·exact uX p h.1 v hv
  ·exact yg l h.2 v hv
end
theorem Hy {l:List Value} (h:∀v∈l,∀n,Instr.sameBits n v v=true):Instr.sameBits 10000 (.agg l.toArray) (.agg l.toArray)=true:=by
 show Instr.sameBits (9999+1) (.agg l.toArray) (.agg l.toArray)=true;simp only[Instr.sameBits,beq_self_eq_true,JjZ,JeX];intro x hx;obtain⟨i,hi⟩:=List.mem_iff_getElem?.1 hx;rw[List.getElem?_zip_eq_some]at hi;obtain⟨h1,h2⟩:=hi;obtain⟨x1,x2⟩:=x;simp only at h1 h2⊢;rw[h1]at h2;cases h2;exact h x1 (by simpa using JeQ h1) _
theorem MN {p:PV} {x:Sh} (h:fits x p=true):Instr.sameBits 10000 (cK p) (cK p)=true:=by
 have hb:=uX p h;cases p<;>first|(cases x<;>simp[fits]at h;done)|skip
 ·exact hb _ (by simp[bW,cK]) _
 ·exact hb _ (by simp[bW,cK]) _
 ·exact hb _ (by simp[bW,cK]) _
 ·exact Hy (by simpa[bW]using hb)
 ·exact Hy (by simpa[bW]using hb)
theorem MO {p:PV} {x:Sh} (h:fits x p=true):(Instr.keyThatStays (cK p) (cK p)).run P w= .ok (cK p) w:=by
 simp only[Instr.keyThatStays,MN h,if_true,JbW]
end Go.Ab
namespace Go.Ab
variable [cL]
variable {P:Program} {nt:Nat} {ds:List Deferred} {s:St} {Γ:Cx} {a:Act} {w:World}
theorem aL.mp {k b:Nat} {v:Value} (h:aL Γ (.mp k b) v):v= .map (some b):=by
 simp only[aL]at h;cases h;rfl
theorem MP {o:Oper} {t:TypeId} {ks vs:Sh} {K:St->Prop} (ho:o.op= .makeMap t none) (hs:gm nt ds s Γ a) (hw:w.heap=Γ.heap) (hd:∀k,o.dst=some k->k<nt) (he:ex s o.dst (.mkMap ks vs) K):
  jT P nt ds o a w Γ K:=by
 simp only[ex]at he;split at he
 ·rename_i k hk;obtain⟨gS,hK⟩:=he;rw[←hs.bx]at gS;have hle:=zg Γ (.map #[] 0) (k:=k) (.map Γ.heap.size ks vs []) gS;have iD:Mem (Γ.ext (.map #[] 0) k (.map Γ.heap.size ks vs [])):=FJ hs.mem gS ⟨rfl,#[],0,by simp[Cx.ext],rfl,by simp⟩;have h1:=hs.le hle iD (xU:=put s.bx k (.map Γ.heap.size ks vs [])) (by simp[Cx.ext,hs.bx])
  have h2:aL (Γ.ext (.map #[] 0) k (.map Γ.heap.size ks vs [])) (.mp k Γ.heap.size) (.map (some w.heap.size)):=by
   rw[hw];simp only[aL];exact .mp _ _ .nil
  have h3:=h1.put (d:=some k) (λj hj=>by cases hj;exact hd k hk) h2;refine⟨.value (.map (some w.heap.size)),_,w.alloc (.map #[] 0),_,_,?_,.inl rfl,by rw[hk];exact h3,by simp[World.alloc,Cx.ext,hw],hle,⟨rfl,rfl,rfl⟩,hK _⟩;simp[execOp,ho,Instr.makeMap,Result.andThen]
 ·exact he.elim
theorem Hz {z p:PV} (hz:oV z=true):∀ {l:List (PV×PV)},(∀x∈l,oV x.2=true)->oV ((Ax p l).getD z)=true
 |[],_=>by simpa[Ax]using hz
 |
  (k,v)::r,h=>by
  simp only[Ax]
  split
  ·exact h (k,v) (by simp)
  ·exact Hz hz λx hx=>h x (by simp[hx])
theorem Jm {o:Oper} {t k e:TypeId} {ks vs:Sh} {z:PV} {ok:Bool} {m x:Operand} {m' x':AX} {K:St->Prop} (ho:o.op= .lookup t m x ok) (hu:P.underlying t=some (.map k e)) (hm:gv m=some m') (hx:gv x=some x')
  (Tm:rL P 20 k=some ks) (hz:zeroOf P e=some z) (hf:oV z=true) (hs:gm nt ds s Γ a) (hw:w.heap=Γ.heap) (hd:∀k,o.dst=some k->k<nt) (he:ex s o.dst (.mapGet ks vs z ok m' x') K):
  jT P nt ds o a w Γ K:=by
 simp only[ex]at he;obtain⟨pm,Xr,tf⟩:=bw hm hs rfl he;obtain⟨p,Hc,qZ⟩:=bw hx hs rfl Xr;clear he Xr;have he:=Hc;clear Hc;split at he
 ·rename_i kk b;split at he
  ·rename_i b' BZ D3 l hg;obtain⟨⟨rfl,rfl,rfl,hp⟩,hK⟩:=he;rw[←hs.bx]at hg;have Ey:=hs.mem.blk _ _ hg;obtain⟨_,es,clock,hb,hen,GX⟩:=Ey;obtain⟨zv,OF,_,_,Tj,_⟩:=j9 (Γ:=Γ) hz;have Xs:=Ht hf Tj;subst Xs;have hkv:=EK hp qZ;have hE:wB BZ es.toList l:=⟨hen,λy hy=>(GX y hy).1⟩
   have Ml:=Hx (P:=P) (w:=w) Tm hp hE;have B8:=EM (P:=P) (Γ:=Γ) (em:=es.isEmpty) 20 10000 (by omega) Tm w p _ hp (yd hp);have hlk:=Hv p l 0;have KJ:oV ((Ax p l).getD z)=true:=Hz hf λy hy=>(GX y hy).2;have xK:=tf.mp
   have fU:(Instr.lookup t (a.eval m) (a.eval x) ok).run P w= .ok (if ok then .tuple #[cK ((Ax p l).getD z),.bool (Ax p l).isSome]else cK ((Ax p l).getD z)) w:=by
    rw[xK,hkv];simp only[Instr.lookup,bJ,run_underlying hu,rJ,MapKept.run_getObj_map (by rw[hw];exact hb),JbW,B8,Ml];rw[←hlk];cases KK:tn p l 0 with
    |none=>simp[OF,Result.andThen]
    |some y=>simp
   refine qh (v:=if ok then .tuple #[cK ((Ax p l).getD z),.bool (Ax p l).isSome]else cK ((Ax p l).getD z)) hs hd (Le.refl Γ) hs.mem rfl ?_ hw (WF.refl w) ?_ hK
   ·have e2:execOp a.eval o=(do Pure.pure (Next.value (←Instr.lookup t (a.eval m) (a.eval x) ok))):=by unfold execOp;rw[ho]
    rw[e2,bJ,fU];rfl
   ·cases ok with
    |false=>simpa using TI KJ
    |true=>exact⟨[_,_],rfl,Pb KJ,.bl _ .nil,trivial⟩
  ·exact he.elim
 ·exact he.elim
theorem HA {ks:Sh} {p v:PV} (hp:fits ks p=true):∀ {es:List MapEntry} {l:List (PV×PV)} {i:Nat},wB ks es l->
  (tn p l i=none->(es++[(⟨cK p,cK v,i⟩:MapEntry)]).map (λe=>(e.key,e.val))=(wA p v l).map (λx=>(cK x.1,cK x.2)))∧
  (∀j q,tn p l i=some (j,q)->∃j' e0,j=i+j'∧es[j']? =some e0∧e0.key=cK p∧
   ∀f:MapEntry->MapEntry,(f e0).key=cK p->(f e0).val=cK v->(es.modify j' f).map (λe=>(e.key,e.val))=(wA p v l).map (λx=>(cK x.1,cK x.2)))
 |
  [],l,i,h=>by
  cases l with
  |nil=>simp[tn,wA]
  |cons=>simp[wB]at h
 |
  e::es,l,i,h=>by
  cases l with
  |nil=>simp[wB]at h
  |
   cons x l=>
   obtain⟨h1,h2,h3,h4⟩:=h.cons
   obtain⟨k,u⟩:=x
   have ih:=HA (v:=v) hp (i:=i+1) h4
   simp only[tn,wA]
   by_cases hb:PV.beq p k=true
   ·simp only[hb,if_true]
    have wM:=beq_eq p k hp h3 hb
    refine⟨by simp,λj q hj=> ?_⟩
    simp only[sJ,Prod.mk.injEq]at hj
    refine⟨0,e,by omega,rfl,by rw[h1,wM],λf Tn To=> ?_⟩
    simp only[List.modify_zero_cons,JdX,Tn,To]
    rw[h4.1]
   ·simp only[hb,fJ,if_false]
    refine⟨λhn=> ?_,λj q hj=> ?_⟩
    ·have:=ih.1 hn
     simp only[JeZ,JdX,h1,h2]
     simp only[JeV,JdX,List.map_nil]at this⊢
     rw[this]
    ·obtain⟨j',e0,g1,g2,g3,g4⟩:=ih.2 j q hj
     refine⟨j'+1,e0,by omega,by simpa using g2,g3,λf Tn To=> ?_⟩
     simp only[List.modify_succ_cons,JdX,h1,h2,g4 f Tn To]
theorem HB {ks:Sh} {p v:PV} (hp:fits ks p=true) (hv:oV v=true):∀ {l:List (PV×PV)},(∀x∈l,fits ks x.1=true∧oV x.2=true)->∀x∈wA p v l,fits ks x.1=true∧oV x.2=true
 |[],_=>by simp[wA,hp,hv]
 |
  (k,u)::r,h=>by
  intro x hx
  simp only[wA]at hx
  split at hx
  ·rcases cJ.1 hx with rfl|hx
   ·exact⟨hp,hv⟩
   ·exact h x (by simp[hx])
  ·rcases cJ.1 hx with rfl|hx
   ·exact h _ (by simp)
   ·exact HB hp hv (λy hy=>h y (by simp[hy])) x hx
theorem BD {k b:Nat} {blk bn:aV} {es:Array MapEntry} {cl:Nat} {o':Obj} (hg:get Γ.bx k=some blk) (hb:Γ.ι k=some b) (hc:Γ.heap[b]? =some (.map es cl)) (ht:blk.aO≤bn.aO):
  Le Γ (Γ.gx b o' k bn) where
 heap b' tc cI:=by
  have:b≠b':=by intro h;subst h;exact cI ⟨k,blk,hg,hb⟩
  simp only[Cx.gx];rw[Array.getElem?_setIfInBounds_ne this]
 gn b' tc h:=by
  obtain⟨i,bl,Sg,hi⟩:=h;simp only[Cx.gx,eF]at Sg hi;by_cases fV:k=i
  ·subst fV;exact⟨k,blk,hg,hi⟩
  ·rw[if_neg fV]at Sg;exact⟨i,bl,Sg,hi⟩
 bX:=rfl
 size:=by simp[Cx.gx]
 ref i bl h:=by
  have keep:∀b2,Γ.ι i=some b2->∀cs e',Γ.heap[b2]? =some (.cells cs e' (0,0))->∃DQ,(Γ.gx b o' k bn).heap[b2]? =some (.cells DQ e' (0,0))∧DQ.size=cs.size:=by
   intro b2 A9 cs e' D2;by_cases Ft:b=b2
   ·subst Ft;rw[hc]at D2;simp at D2
   ·exact⟨cs,by simp only[Cx.gx];rw[Array.getElem?_setIfInBounds_ne Ft];exact D2,rfl⟩
  by_cases fV:k=i
  ·subst fV;rw[hg]at h;cases h;exact⟨bn,by simp[Cx.gx,bG],ht,λ_=>⟨rfl,keep⟩⟩
  ·exact⟨bl,by simp only[Cx.gx];rw[bp _ _ _ _ fV];exact h,JaQ _,λ_=>⟨rfl,keep⟩⟩
theorem Pd (hm:Mem Γ) {k b:Nat} {blk bn:aV} {es:Array MapEntry} {cl:Nat} {o':Obj} (hg:get Γ.bx k=some blk) (hb:Γ.ι k=some b) (hc:Γ.heap[b]? =some (.map es cl)) (ht:blk.aO≤bn.aO)
  (hr:bn.xM (Γ.gx b o' k bn) (some b)):Mem (Γ.gx b o' k bn) where
 blk i bl h:=by
  by_cases fV:k=i
  ·subst fV;simp only[Cx.gx,bG,sJ]at h;subst h;have:(Γ.gx b o' k bn).ι k=some b:=hb;rw[this];exact hr
  ·simp only[Cx.gx]at h;rw[bp _ _ _ _ fV]at h;have:=hm.blk i bl h
   exact this.mono (BD hg hb hc ht) (λb2 A9=>by
    have cI:b≠b2:=by
     intro h';subst h';exact fV (hm.inj k i b (by simp[hg]) (by simp[h]) hb A9)
    simp only[Cx.gx];rw[Array.getElem?_setIfInBounds_ne cI])
 inj i j b2 hi hj h1 h2:=by
  refine hm.inj i j b2 ?_ ?_ h1 h2
  ·simp only[Cx.gx,eF]at hi;split at hi
   ·subst_vars;simp[hg]
   ·exact hi
  ·simp only[Cx.gx,eF]at hj;split at hj
   ·subst_vars;simp[hg]
   ·exact hj
 bX b2 h:=by have:=hm.bX b2 h;simpa[Cx.gx]using this
 apart b2 h hp:=hm.apart b2 ((BD (o':=o') hg hb hc ht).gn b2 (hm.bX b2 hp) h) hp
 xN:=hm.ll (BD hg hb hc ht)
theorem CD {o:Oper} {t k e:TypeId} {ks vs:Sh} {m x y:Operand} {m' x' y':AX} {K:St->Prop} (ho:o.op= .mapUpdate t m x y∨o.op= .insert t m x y) (hu:P.underlying t=some (.map k e)) (hm:gv m=some m') (hx:gv x=some x') (hy:gv y=some y')
  (Tm:rL P 20 k=some ks) (hs:gm nt ds s Γ a) (hw:w.heap=Γ.heap) (he:ex s o.dst (.mapSet ks vs m' x' y') K):jT P nt ds o a w Γ K:=by
 simp only[ex]at he;obtain⟨pm,Xr,tf⟩:=bw hm hs rfl he;obtain⟨p,Hc,qZ⟩:=bw hx hs rfl Xr;obtain⟨v,he3,hr3⟩:=bw hy hs rfl Hc;clear he Xr Hc;split at he3
 ·rename_i kk b;split at he3
  ·rename_i b' BZ D3 l hg;obtain⟨⟨hdn,rfl,rfl,rfl,hp,hv⟩,hK⟩:=he3;rw[←hs.bx]at hg;have Ey:=hs.mem.blk _ _ hg;obtain⟨hι,es,clock,hb,hen,GX⟩:=Ey;have hkv:=EK hp qZ;have hvv:=Ht hv hr3;have hE:wB BZ es.toList l:=⟨hen,λy hy=>(GX y hy).1⟩
   have Ml:=Hx (P:=P) (w:=w) Tm hp hE;have B8:=EM (P:=P) (Γ:=Γ) (em:=false) 20 10000 (by omega) Tm w p _ hp (yd hp);have xK:=tf.mp;have tc:w.heap[b']? =some (.map es clock):=by rw[hw];exact hb
   have an9:=HA (v:=v) hp (i:=0) hE
   have main:∃es' cl',(Instr.mapUpdate t (a.eval m) (a.eval x) (a.eval y)).run P w= .ok () {w with heap:=w.heap.setIfInBounds b' (.map es' cl')}∧
     es'.toList.map (λe=>(e.key,e.val))=(wA p v l).map (λx=>(cK x.1,cK x.2)):=by
    rw[xK,hkv,hvv]
    cases KK:tn p l 0 with
    |
     none=>
     refine⟨es.push ⟨cK p,cK v,clock⟩,clock+1,?_,?_⟩
     ·simp only[Instr.mapUpdate,bJ,run_underlying hu,rJ,MapKept.run_getObj_map tc,B8,Ml,KK,JoJ,MapKept.run_setObj_map _ tc]
     ·have:=an9.1 KK
      simpa using this
    |
     some jq=>
     obtain⟨j,q⟩:=jq
     obtain⟨j',e0,g1,g2,g3,g4⟩:=an9.2 j q KK
     have hj:j=j':=by omega
     subst hj
     refine⟨es.modify j λe=> {e with key:=cK p,val:=cK v},clock,?_,?_⟩
     ·have ge:(es[j]?.map (·.key)).getD (cK p)=cK p:=by
       rw[←Array.getElem?_toList,g2];simp[g3]
      simp only[Instr.mapUpdate,bJ,run_underlying hu,rJ,MapKept.run_getObj_map tc,B8,Ml,KK,JjJ,ge,MO hp,MapKept.run_setObj_map _ tc]
     ·have:=g4 (λe=> {e with key:=cK p,val:=cK v}) rfl rfl
      rw[←this]
      congr 1
      apply JjW
      intro i
      simp[List.getElem?_modify]
   obtain⟨es',cl',fU,avA⟩:=main;have hle:=BD (o':= .map es' cl') (bn:= .map b' BZ D3 (wA p v l)) hg hι hb (JaQ _);have iD:=Pd (o':= .map es' cl') (bn:= .map b' BZ D3 (wA p v l)) hs.mem hg hι hb (JaQ _) ⟨rfl,es',cl',by simp only[Cx.gx];rw[uJ (bN hb)],avA,HB hp hv GX⟩;have h1:=hs.le hle iD (xU:=put s.bx kk (.map b' BZ D3 (wA p v l))) (by simp[Cx.gx,hs.bx]);refine⟨.skip,undef,{w with heap:=w.heap.setIfInBounds b' (.map es' cl')},_,_,?_,.inr ⟨rfl,rfl⟩,by rw[hdn];exact h1,?_,hle,⟨rfl,rfl,rfl⟩,hK⟩
   ·have e2:execOp a.eval o=(do Instr.mapUpdate t (a.eval m) (a.eval x) (a.eval y);Pure.pure Next.skip):=by rcases ho with ho|ho<;>(unfold execOp;rw[ho])
    rw[e2,bJ,fU];rfl
   ·simp[Cx.gx,hw]
  ·exact he3.elim
 ·exact he3.elim
end Go.Ab
namespace Go.Ab
variable [cL]
variable {P:Program} {nt:Nat} {ds:List Deferred} {s:St} {Γ:Cx} {a:Act} {w:World}
theorem aD.aiA {Δ:Cx}:∀ {l:List PV} {cs:List Value},aD Γ l cs->l.all PV.isNum=true->aD Δ l cs
 |_,_,.nil,_=> .nil
 |_,_,.int k n h,hn=> .int k n (aD.aiA h (by simpa[PV.isNum]using hn))
 |_,_,.un _ _,hn=>by simp[PV.isNum]at hn
 |_,_,.bl _ _,hn=>by simp[PV.isNum]at hn
 |_,_,.str _ _ _ _,hn=>by simp[PV.isNum]at hn
 |_,_,.st _ _ _ _ _,hn=>by simp[PV.isNum]at hn
 |_,_,.ar _ _ _ _ _ _ _,hn=>by simp[PV.isNum]at hn
 |_,_,.sl _ _ _ _ _ _ _ _ _ _ _,hn=>by simp[PV.isNum]at hn
 |_,_,.rs _ _ _ _ _ _ _ _ _ _ _ _ _,hn=>by simp[PV.isNum]at hn
 |_,_,.np _,hn=>by simp[PV.isNum]at hn
 |_,_,.pt _ _ _ _ _ _ _ _ _,hn=>by simp[PV.isNum]at hn
 |_,_,.fp _ _ _ _ _ _ _ _ _ _,hn=>by simp[PV.isNum]at hn
 |_,_,.fn _ _ _ _ _ _ _ _,hn=>by simp[PV.isNum]at hn
 |_,_,.nf _,hn=>by simp[PV.isNum]at hn
 |_,_,.ifc _ _ _ _ _,hn=>by simp[PV.isNum]at hn
 |_,_,.ni _,hn=>by simp[PV.isNum]at hn
 |_,_,.mp _ _ _,hn=>by simp[PV.isNum]at hn
def Cx.lit (Γ:Cx) (b:Nat) (o:Obj) (k:Nat) (blk:aV):Cx:=
 {heap:=Γ.heap.setIfInBounds b o,ι:=λi=>if i=k then none else Γ.ι i,bx:=put Γ.bx k blk,bX:=Γ.bX}
theorem FQ (hm:Mem Γ) {k b:Nat} {blk bn:aV} {o o':Obj} (hg:get Γ.bx k=some blk) (hb:Γ.ι k=some b) (ho:Γ.heap[b]? =some o) (ht:blk.aO<bn.aO):Le Γ (Γ.lit b o' k bn) where
 heap b' tc cI:=by
  have:b≠b':=by intro h;subst h;exact cI ⟨k,blk,hg,hb⟩
  simp only[Cx.lit];rw[Array.getElem?_setIfInBounds_ne this]
 gn b' tc h:=by
  obtain⟨i,bl,Sg,hi⟩:=h;simp only[Cx.lit,eF]at Sg hi;by_cases fV:k=i
  ·subst fV;simp at hi
  ·rw[if_neg fV]at Sg;rw[if_neg (λe=>fV e.symm)]at hi;exact⟨i,bl,Sg,hi⟩
 bX:=rfl
 size:=by simp[Cx.lit]
 ref i bl h:=by
  by_cases fV:k=i
  ·subst fV;rw[hg]at h;cases h;exact⟨bn,by simp[Cx.lit,bG],by omega,λe=>by omega⟩
  ·refine⟨bl,by simp only[Cx.lit];rw[bp _ _ _ _ fV];exact h,JaQ _,λ_=>⟨by simp only[Cx.lit];rw[if_neg (λe=>fV e.symm)],λb2 A9 cs e hc=>⟨cs,?_,rfl⟩⟩⟩
   have cI:b≠b2:=by
    intro h';subst h';exact fV (hm.inj k i b (by rw[hg];rfl) (by rw[h];rfl) hb A9)
   simp only[Cx.lit];rw[Array.getElem?_setIfInBounds_ne cI];exact hc
theorem TJ (hm:Mem Γ) {k b:Nat} {blk bn:aV} {o o':Obj} (hg:get Γ.bx k=some blk) (hb:Γ.ι k=some b) (ho:Γ.heap[b]? =some o) (ht:blk.aO<bn.aO) (hr:bn.xM (Γ.lit b o' k bn) none):Mem (Γ.lit b o' k bn) where
 blk i bl h:=by
  by_cases fV:k=i
  ·subst fV;simp only[Cx.lit,bG,sJ]at h;subst h;have:(Γ.lit b o' k bn).ι k=none:=by simp[Cx.lit]
   rw[this];exact hr
  ·simp only[Cx.lit]at h;rw[bp _ _ _ _ fV]at h;have h2:=hm.blk i bl h;have hi:(Γ.lit b o' k bn).ι i=Γ.ι i:=by simp only[Cx.lit];rw[if_neg (λe=>fV e.symm)]
   rw[hi]
   exact h2.mono (FQ hm hg hb ho ht) (λb2 A9=>by
    have cI:b≠b2:=by
     intro h';subst h';exact fV (hm.inj k i b (by simp[hg]) (by simp[h]) hb A9)
    simp only[Cx.lit];rw[Array.getElem?_setIfInBounds_ne cI])
 inj i j b2 hi hj h1 h2:=by
  simp only[Cx.lit]at h1 h2;have GZ:¬i=k:=by intro e;rw[if_pos e]at h1;cases h1
  have hkj:¬j=k:=by intro e;rw[if_pos e]at h2;cases h2
  rw[if_neg GZ]at h1;rw[if_neg hkj]at h2;refine hm.inj i j b2 ?_ ?_ h1 h2
  ·simp only[Cx.lit]at hi;rwa [bp _ _ _ _ (λe=>GZ e.symm)]at hi
  ·simp only[Cx.lit]at hj;rwa [bp _ _ _ _ (λe=>hkj e.symm)]at hj
 bX b2 h:=by have:=hm.bX b2 h;simpa[Cx.lit]using this
 apart b2 h hp:=hm.apart b2 ((FQ hm (o':=o') hg hb ho ht).gn b2 (hm.bX b2 hp) h) hp
 xN:=hm.ll (FQ hm hg hb ho ht)
theorem Bi (w:World) (t e e':TypeId) (C:Array Value) (b n c:Nat) (ht:P.underlying t=some (.slice e)) (he:P.underlying e=some (.int .u8)) (hb:w.heap[b]? =some (.cells C e' (0,0))):
  (convert t t (.slice (some ⟨b,0,none⟩) n c)).run P w= .ok (.slice (some ⟨b,0,none⟩) n c) {w with heap:=w.heap.setIfInBounds b (.cells C e' (C.size,C.size+1))}:=by
 have A8:w.shape? b=some (e',C.size):=by unfold World.shape?;rw[hb]
 have pS:w.freeze ⟨b,C.size,none⟩ 1= {w with heap:=w.heap.setIfInBounds b (.cells C e' (C.size,C.size+1))}:=by
  unfold World.freeze;rw[if_neg (by decide)]
  have:∀f:Obj->Obj,w.heap.modify b f=w.heap.setIfInBounds b (f (.cells C e' (0,0))):=by
   intro f;apply Array.ext_getElem?;intro i;rw[Array.getElem?_modify,Array.getElem?_setIfInBounds];by_cases h:b=i
   ·subst h;rw[hb];simp[bN hb]
   ·simp[h]
  rw[this];rfl
 simp[convert,run_underlying ht,run_underlying he,markStringish,A8,pS]
theorem MQ {o:Oper} {t e:TypeId} {x:Operand} {x':AX} {K:St->Prop} (ho:o.op= .convert t t x) (h1:P.underlying t=some (.slice e)) (h3:P.underlying e=some (.int .u8))
  (hx:gv x=some x') (hs:gm nt ds s Γ a) (hw:w.heap=Γ.heap) (hd:∀k,o.dst=some k->k<nt) (he:ex s o.dst (.convL x') K):jT P nt ds o a w Γ K:=by
 simp only[ex]at he;obtain⟨p,hp,hr⟩:=bw hx hs rfl he;cases p<;>simp only at hp<;>first|exact hp.elim|skip
 rename_i k pth off len aO sz c;split at hp
 ·rename_i bP l hg;obtain⟨⟨rfl,rfl,rfl,rfl,rfl,rfl,rfl,cI,avB⟩,hK⟩:=hp;rw[←hs.bx]at hg;obtain⟨ad,aX,hv,dh⟩:=hr.rs hg rfl;have Ey:=hs.mem.blk _ _ hg;unfold ia at dh;have hlen:0<l.length:=by cases l<;>simp at cI⊢
  cases hι:Γ.ι k with
  |none=>rw[hι]at dh;simp only at dh;omega
  |
   some b=>
   rw[hι]at dh
   simp only at dh
   obtain⟨Xt,had,_,avC⟩:=dh
   obtain⟨_,Mj,e0,azw,An⟩:=avC trivial
   have avD:ad=some ⟨b,0,none⟩:=by
    rcases had with h|h
    ·omega
    ·simpa[bK]using h
   subst avD
   simp only[aV.xM,hι]at Ey
   obtain⟨aoa,_,C,e1,cs,rest,hC,GY,Hd,_⟩:=Ey
   have B9:w.heap[b]? =some (.cells C e1 (0,0)):=by rw[hw];exact hC
   have ht:(aV.arr 1 l).aO<(aV.arr 1 (l++[.int .u8 0])).aO:=by simp[aV.aO]
   have fU:(execOp a.eval o).run P w= .ok (.value (.slice (some ⟨b,0,none⟩) l.length aX)) {w with heap:=w.heap.setIfInBounds b (.cells C e1 (C.size,C.size+1))}:=by
    have e2:execOp a.eval o=(do Pure.pure (Next.value (←convert t t (a.eval x)))):=by unfold execOp;rw[ho]
    rw[e2,bJ,hv,Bi w t e e1 C b l.length aX h1 h3 B9];rfl
   have hle:=FQ hs.mem (o':= .cells C e1 (C.size,C.size+1)) hg hι hC ht
   have iD:=TJ hs.mem (o':= .cells C e1 (C.size,C.size+1)) hg hι hC ht ⟨by
    intro y hy;rcases JaZ.1 hy with h|h
    ·exact aoa y h
    ·simp at h;subst h;rfl,by omega,trivial⟩
   have g1:=hs.le hle iD (xU:=put s.bx k (.arr 1 (l++[.int .u8 0]))) (by simp[Cx.lit,hs.bx])
   have aob:¬(Γ.lit b (.cells C e1 (C.size,C.size+1)) k (.arr 1 (l++[.int .u8 0]))).own b:=by
    rintro(⟨i,bl,q1,q2⟩|q)
    ·simp only[Cx.lit]at q1 q2;by_cases fV:i=k
     ·rw[if_pos fV]at q2;cases q2
     ·rw[if_neg fV]at q2;rw[bp _ _ _ _ (λe=>fV e.symm)]at q1;exact fV (hs.mem.inj i k b (by simp[q1]) (by simp[hg]) q2 hι)
    ·exact hs.mem.apart b ⟨k,_,hg,hι⟩ q
   have EA:aL (Γ.lit b (.cells C e1 (C.size,C.size+1)) k (.arr 1 (l++[.int .u8 0]))) (.sl 1 l false) (.slice (some ⟨b,0,none⟩) l.length aX):=by
    simp only[aL];refine .sl 1 l false _ aX (Hd.aiA avB) aoa Xt (by simp) (λ_=>⟨b,0,rfl,by simp[Cx.lit];exact bN hC,aob,λi c hc=> ?_⟩) .nil;simp only[cell,Cx.lit,JhQ];rw[uJ (bN hC)];simp only;rw[←Array.getElem?_toList,GY,List.getElem?_append_left (iJ.1 hc).1];exact hc
   have g2:=g1.put hd EA
   refine⟨_,_,_,_,_,fU,.inl rfl,g2,by simp[Cx.lit,hw],hle,⟨rfl,rfl,rfl⟩,hK⟩
 ·exact hp.elim
end Go.Ab
namespace Go.Ab
variable [cL]
variable {P:Program} {nt:Nat} {ds:List Deferred} {s:St} {Γ:Cx} {a:Act} {w:World}
theorem HC {o:Oper} {t u e:TypeId} {kn:IntKind} {i:TypeInfo} {z:Value} {zz:PV} {x y:Operand} {x' y':AX} {K:St->Prop} (ho:o.op= .call {callee:= .builtin .append,args:= #[x,y],argTypes:= #[t,u]})
  (ht:P.underlying t=some (.slice e)) (hu:P.underlying u=some (.int kn)) (hi:P.info? e=some i) (hz:i.zero=some z) (hzz:zeroOf P e=some zz) (hzs:z.cells.size=i.size) (j6:0<i.size) (aeb:z.cells.toList.all eK=true)
  (hx:gv x=some x') (hy:gv y=some y') (hs:gm nt ds s Γ a) (hw:w.heap=Γ.heap) (hd:∀k,o.dst=some k->k<nt) (he:ex s o.dst (.appendZ i.size i.bytes zz x' y') K):jT P nt ds o a w Γ K:=by
 simp only[ex]at he;obtain⟨p,hp,tf⟩:=bw hx hs rfl he;obtain⟨q,hq,qZ⟩:=bw hy hs rfl hp;obtain⟨kv,m,hm,hA⟩:=fc hq qZ;obtain⟨zv,OF,Tj,DT,_,azx⟩:=j9 (Γ:=Γ) hzz;have Xn:zz.width=i.size:=by rw[zf hi]at DT;exact(Option.some.inj DT).symm
 have avE:zv=z:=by
  have h1:=OF w;simp only[zeroValue,typeInfo,bJ]at h1;simp[hi,hz]at h1;exact h1.symm
 subst avE;unfold qf at hA;split at hA
 ·exact hA.elim
 rename_i k hk;split at hA
 case h_2=>exact hA.elim
 rename_i k2 len aO bP n;split at hA
 case h_2=>exact hA.elim
 rename_i sz'' l hg;obtain⟨⟨gS,h1,h2,h3,hln,avs,OC,dq,h5,h6⟩,hK⟩:=hA;subst h1 h2 h3;have lI:=hg;rw[←hs.bx]at lI;obtain⟨ad,aX,hv,dh⟩:=tf.rs lI rfl;obtain⟨nJ,_,lG⟩:=hs.mem.blk k2 _ lI;have hwt:∀x∈l.take len,x.width=i.size:=λx hx=>nJ x (JbX hx);have Fw:(l.take len).length=len:=by rw[lJ];omega
 have xF:aX=n:=by
  unfold ia at dh;split at dh
  ·exact dh.2.2
  ·exact dh.2.2.1
 subst xF;obtain⟨mn,rfl⟩:∃mn:Nat,m=mn:=⟨m.toNat,by omega⟩
 simp only[Int.toNat_natCast]at dq h5 h6 hK
 --the old cells
 obtain⟨cs,D2,nI⟩:∃cs,aD Γ (l.take len) cs∧(0<len->∃b o,ad=some ⟨b,o,none⟩∧∀j x,cs[j]? =some x->cell Γ.heap b (o+j)=some x):=by
  unfold ia at dh;cases hι:Γ.ι k2 with
  |
   none=>
   rw[hι]at dh
   obtain⟨rfl,_,_⟩:=dh
   exact⟨[],by simpa using aD.nil,by simp⟩
  |
   some b=>
   rw[hι]at dh lG
   obtain⟨o1,o2,_,_⟩:=dh
   obtain⟨c,ce,cs,rest,h7,h8,h9,Jb⟩:=lG
   refine⟨cs.take (len*i.size),h9.Hq nJ len (by omega),λhp=> ?_⟩
   rcases o2 with o2|rfl
   ·omega
   refine⟨b,_,rfl,λj x hj=> ?_⟩
   have hb:=mq h7 cs rest h8
   have Ez:cs[j]? =some x:=by
    rw[List.getElem?_take]at hj;split at hj
    ·exact hj
    ·cases hj
   simpa[bK]using hb j x Ez
 have rD:cs.length=len*i.size:=by rw[D2.length,bf hwt,Fw]
 obtain⟨w',cap,r1,r2,r3,r4⟩:=zi (P:=P) (w:=w) (ty:=o.type) (kv:=kv) ht hu hi hz (ad:=ad) (sLen:=len) (sCap:=aX) (n:=mn) (olds:=cs)
  (.inl ⟨ad,aX,rfl,λj6=>by rw[hw];exact nI (by omega)⟩) rD (by omega) j6 dq h6 h5
 rw[←hv,←hm]at r1
 have hzl:(Builtin.zeroCells zv.cells mn).toList=(List.replicate mn zv.cells.toList).flatten:=by
  have:=lX zv.cells mn;simpa[Builtin.zeroCells]using this
 have hrz:=iO Tj mn;rw[←hzl]at hrz
 exact qg (cap:=cap) (l:=l.take len++List.replicate mn zz) (cs:=cs++(Builtin.zeroCells zv.cells mn).toList) (rest:=(Builtin.zeroCells zv.cells (cap-(len+mn))).toList) hs hw hk (hd k hk) gS j6 (D2.append hrz)
  (λx hx=>(JaZ.1 hx).elim (hwt x) (λhx=>by rw[(JqV.1 hx).2];exact Xn))
  (by simp only[JaJ,JbZ,sC,hzs,rD,←JgQ];congr 1;omega)
  (by rw[JaJ,Fw,JcW];exact r2) (wR (by omega) aeb)
  (by rw[JaJ,Fw,JcW];exact kf ho r1) r3 r4
  (by rw[JaJ,Fw,JcW];exact hK)
end Go.Ab
