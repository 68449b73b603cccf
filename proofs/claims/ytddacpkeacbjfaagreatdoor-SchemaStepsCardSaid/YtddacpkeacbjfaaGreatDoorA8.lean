/- The reckoning, its end. No condition. -/
import Derived.Test.YtddacpkeacbjfaaGreatDoorA7
set_option linter.all false
namespace Go.Ab
variable [cM]
variable {P:Program} [gQ]
inductive EX|nm|rt|ex (id:Nat)
 deriving DecidableEq
def EX.toE:EX->Exit
 | .nm=> .normal
 | .rt=> .ret
 | .ex id=> .exit id
abbrev lT:=List (EX×AS)
def In (o:lT) (e:EX) (s:St):Prop:=∃σ,(e,σ)∈o∧gS σ s
mutual
def Ic:AV->AV->Option AV
 | .bl x,.bl y=>some (.bl (if x=y then x else none))
 | .int k n,.int k' m=>if k=k' then some (.int k (if n=m then n else none))else none
 | .str l,.str m=>if l=m then some (.str l)else none
 | .st w l,.st w' m=>if w=w' then(match uk l m with|some r=>some (.st w r)|none=>none)else none
 | .ar sz n l,.ar bu n' m=>if sz=bu∧n=n' then(match uk l m with|some r=>some (.ar sz n r)|none=>none)else none
 | .sl sz l c,.sl bu m c'=>if sz=bu∧c=c' then(match uk l m with|some r=>some (.sl sz r c)|none=>none)else none
 | .tup l,.tup m=>(match uk l m with|some r=>some (.tup r)|none=>none)
 | .rs k p off len aD sz c,.rs k' p' off' aCf agc bu c'=>if k=k'∧p=p'∧off=off'∧len=aCf∧aD=agc∧sz=bu∧c=c' then some (.rs k p off len aD sz c)else none
 | .pt k p aD,.pt k' p' agc=>if k=k'∧p=p'∧aD=agc then some (.pt k p aD)else none
 | .np,.np=>some .np
 | .no,.no=>some .no
 |_,_=>none
def uk:Xe->Xe->Option (Xe)
 |[],[]=>some []
 |a::l,b::m=>(match Ic a b,uk l m with|some x,some r=>some (x::r)|_,_=>none)
 |_,_=>none
end
mutual
theorem rY:∀ {a b c:AV} {p:PV},Ic a b=some c->gm a p∨gm b p->gm c p:=by
 intro a b c p h hp;cases a<;>cases b<;>simp only[Ic,reduceCtorEq,sJ]at h
 case bl.bl x y=>
  subst h;rcases hp with hp|hp<;>cases p<;>simp only[gm]at hp⊢<;>intro z hz
  ·split at hz
   ·exact hp z hz
   ·simp at hz
  ·split at hz
   ·rename_i e;exact hp z (e▸hz)
   ·simp at hz
 case int.int k n k' m=>
  split at h<;>simp only[sJ,reduceCtorEq]at h;rename_i e;subst h e;rcases hp with hp|hp<;>cases p<;>simp only[gm]at hp⊢<;>refine⟨hp.1,λz hz=> ?_⟩
  ·split at hz
   ·exact hp.2 z hz
   ·simp at hz
  ·split at hz
   ·rename_i e;exact hp.2 z (e▸hz)
   ·simp at hz
 case str.str=>
  split at h<;>simp only[sJ,reduceCtorEq]at h;rename_i e;subst h e;rcases hp with hp|hp<;>exact hp
 case st.st w l w' m=>
  split at h<;>(try simp only[reduceCtorEq]at h)
  rename_i e;subst e;split at h<;>simp only[sJ,reduceCtorEq]at h;rename_i r hr;subst h;rcases hp with hp|hp<;>cases p<;>simp only[gm]at hp⊢
  ·exact⟨hp.1,jz hr (.inl hp.2)⟩
  ·exact⟨hp.1,jz hr (.inr hp.2)⟩
 case ar.ar=>
  split at h<;>(try simp only[reduceCtorEq]at h)
  rename_i e;obtain⟨rfl,rfl⟩:=e;split at h<;>simp only[sJ,reduceCtorEq]at h;rename_i r hr;subst h;rcases hp with hp|hp<;>cases p<;>simp only[gm]at hp⊢
  ·exact⟨hp.1,jz hr (.inl hp.2)⟩
  ·exact⟨hp.1,jz hr (.inr hp.2)⟩
 case sl.sl=>
  split at h<;>(try simp only[reduceCtorEq]at h)
  rename_i e;obtain⟨rfl,rfl⟩:=e;split at h<;>simp only[sJ,reduceCtorEq]at h;rename_i r hr;subst h;rcases hp with hp|hp<;>cases p<;>simp only[gm]at hp⊢
  ·exact⟨hp.1,jz hr (.inl hp.2)⟩
  ·exact⟨hp.1,jz hr (.inr hp.2)⟩
 case tup.tup=>
  split at h<;>simp only[sJ,reduceCtorEq]at h;rename_i r hr;subst h;rcases hp with hp|hp<;>cases p<;>simp only[gm]at hp⊢
  ·exact jz hr (.inl hp)
  ·exact jz hr (.inr hp)
 case rs.rs=>
  split at h<;>simp only[sJ,reduceCtorEq]at h;rename_i e;obtain⟨rfl,rfl,rfl,rfl,rfl,rfl,rfl⟩:=e;subst h;rcases hp with hp|hp<;>exact hp
 case pt.pt=>
  split at h<;>simp only[sJ,reduceCtorEq]at h;rename_i e;obtain⟨rfl,rfl,rfl⟩:=e;subst h;rcases hp with hp|hp<;>exact hp
 case np.np=>subst h;rcases hp with hp|hp<;>exact hp
 case no.no=>subst h;rcases hp with hp|hp<;>exact hp
theorem jz:∀ {l m r:Xe} {ps:WG},uk l m=some r->bB l ps∨bB m ps->bB r ps
 |[],[],r,ps,h,hp=>by simp only[uk,sJ]at h;subst h;rcases hp with hp|hp<;>exact hp
 |[],_::_,_,_,h,_=>by simp[uk]at h
 |_::_,[],_,_,h,_=>by simp[uk]at h
 |
  a::l,b::m,r,ps,h,hp=>by
  simp only[uk]at h
  split at h<;>simp only[sJ,reduceCtorEq]at h
  rename_i x r' h1 h2
  subst h
  rcases hp with hp|hp<;>cases ps<;>simp only[bB]at hp⊢
  ·exact⟨rY h1 (.inl hp.1),jz h2 (.inl hp.2)⟩
  ·exact⟨rY h1 (.inr hp.1),jz h2 (.inr hp.2)⟩
end
def KA:AB->AB->Option AB
 | .box a,.box b=>(match Ic a b with|some c=>some (.box c)|none=>none)
 | .arr sz l,.arr bu m=>if sz=bu then(match uk l m with|some r=>some (.arr sz r)|none=>none)else none
 |_,_=>none
def EO {a b c:AB} {p:aU} (h:KA a b=some c) (hp:gB a p∨gB b p):gB c p:=by
 cases a<;>cases b<;>simp only[KA,reduceCtorEq]at h
 ·split at h<;>simp only[sJ,reduceCtorEq]at h;rename_i r hr;subst h;rcases hp with hp|hp<;>cases p<;>simp only[gB]at hp⊢
  ·exact rY hr (.inl hp)
  ·exact rY hr (.inr hp)
 ·split at h<;>(try simp only[reduceCtorEq]at h)
  rename_i e;subst e;split at h<;>simp only[sJ,reduceCtorEq]at h;rename_i r hr;subst h;rcases hp with hp|hp<;>cases p<;>simp only[gB]at hp⊢
  ·exact⟨hp.1,jz hr (.inl hp.2)⟩
  ·exact⟨hp.1,jz hr (.inr hp.2)⟩
def mk {α β:Type} (f:Nat->Option β):List (Nat×α)->List (Nat×β)
 |[]=>[]
 |(k,_)::r=>match f k with|some b=>(k,b)::mk f r|none=>mk f r
theorem za {α β:Type} {f:Nat->Option β}:∀ {l:List (Nat×α)} {k:Nat} {b:β},get (mk f l) k=some b->f k=some b
 |[],_,_,h=>by simp[mk,get]at h
 |
  (j,_)::r,k,b,h=>by
  simp only[mk]at h
  split at h
  ·rename_i b' hb
   simp only[get]at h
   split at h
   ·rename_i e;cases h;subst e;exact hb
   ·exact za h
  ·exact za h
theorem um {α β:Type} {f:Nat->Option β}:∀ {l:List (Nat×α)} {k:Nat} {a:α} {b:β},get l k=some a->f k=some b->get (mk f l) k=some b
 |[],_,_,_,h,_=>by simp at h
 |
  (j,_)::r,k,a,b,h,hf=>by
  simp only[get]at h
  simp only[mk]
  split at h
  ·rename_i e;subst e
   rw[hf];simp
  ·rename_i e
   have:=um (l:=r) h hf
   cases hj:f j with
   |none=>exact this
   |some x=>simp only[get];rw[if_neg e];exact this
def jB (σ τ:AS) (k:Nat):Option AB:=match get σ.bx k,get τ.bx k with|some a,some b=>KA a b|_,_=>none
def jE (σ τ:AS) (k:Nat):Option AV:=match get σ.env k,get τ.env k with|some a,some b=>Ic a b|_,_=>none
def Rv (σ τ:AS):Option AS:=
 if(σ.bx.all λx=>(jB σ τ x.1).isSome)&&(τ.bx.all λx=>(get σ.bx x.1).isSome)then
  some {env:=mk (jE σ τ) σ.env,bx:=mk (jB σ τ) σ.bx}else none
theorem get_mem {α:Type}:∀ {l:List (Nat×α)} {k:Nat} {a:α},get l k=some a->(k,a)∈l
 |[],_,_,h=>by simp at h
 |
  (j,b)::r,k,a,h=>by
  simp only[get]at h
  split at h
  ·rename_i e;cases h;subst e;simp
  ·exact List.mem_cons_of_mem _ (get_mem h)
def Ie {σ τ ρ:AS} {s:St} (h:Rv σ τ=some ρ) (hs:gS σ s∨gS τ s):gS ρ s:=by
 unfold Rv at h;split at h<;>simp only[sJ,reduceCtorEq]at h;rename_i hc;simp only[aJ,JbJ]at hc;subst h;have hse:xL s.env:=by rcases hs with hs|hs<;>exact hs.se
 have hsb:xL s.bx:=by rcases hs with hs|hs<;>exact hs.sb
 refine⟨λk a hk=> ?_,λk hk=> ?_,λk b hk=> ?_,hse,hsb⟩
 ·have:=za hk;unfold jE at this;split at this
  ·rename_i x y h1 h2;rcases hs with hs|hs
   ·obtain⟨p,g1,g2⟩:=hs.env k x h1;exact⟨p,g1,rY this (.inl g2)⟩
   ·obtain⟨p,g1,g2⟩:=hs.env k y h2;exact⟨p,g1,rY this (.inr g2)⟩
  ·simp at this
 ·have hn:get σ.bx k=none:=by
   cases hx:get σ.bx k with
   |none=>rfl
   |
    some b=>
    have h1:=hc.1 (k,b) (get_mem hx)
    obtain⟨c,h2⟩:=JaZ.1 h1
    have:=um hx h2
    simp only at hk
    rw[hk]at this;cases this
  rcases hs with hs|hs
  ·exact hs.none k hn
  ·refine hs.none k ?_;cases hx:get τ.bx k with
   |none=>rfl
   |
    some b=>
    have h1:=hc.2 (k,b) (get_mem hx)
    rw[hn]at h1;simp at h1
 ·have:=za hk;unfold jB at this;split at this
  ·rename_i x y h1 h2;rcases hs with hs|hs
   ·obtain⟨p,g1,g2⟩:=hs.bx k x h1;exact⟨p,g1,EO this (.inl g2)⟩
   ·obtain⟨p,g1,g2⟩:=hs.bx k y h2;exact⟨p,g1,EO this (.inr g2)⟩
  ·simp at this
def Ig (e:EX) (σ:AS):lT->lT
 |[]=>[(e,σ)]
 |(e',τ)::r=>if e=e' then(match Rv σ τ with|some ρ=>(e,ρ)::r|none=>(e',τ)::Ig e σ r)else(e',τ)::Ig e σ r
def vT:lT->lT
 |[]=>[]
 |(e,σ)::r=>Ig e σ (vT r)
def In.cons {o:lT} {e e':EX} {s:St} {σ:AS} (h:In o e s):In ((e',σ)::o) e s:=by
 obtain⟨τ,h1,h2⟩:=h;exact⟨τ,List.mem_cons_of_mem _ h1,h2⟩
theorem CW {e:EX} {σ:AS} {s:St} (h:gS σ s):∀o,In (Ig e σ o) e s
 |[]=>⟨σ,by simp[Ig],h⟩
 |
  (e',τ)::r=>by
  simp only[Ig]
  split
  ·split
   ·rename_i ρ hj
    exact⟨ρ,by simp,Ie hj (.inl h)⟩
   ·exact(CW h r).cons
  ·exact(CW h r).cons
theorem CX {e e0:EX} {σ:AS} {s:St}:∀ {o:lT},In o e0 s->In (Ig e σ o) e0 s
 |[],h=>by obtain⟨τ,h1,_⟩:=h;simp at h1
 |
  (e',τ)::r,h=>by
  obtain⟨ρ,h1,h2⟩:=h
  simp only[Ig]
  rcases cJ.1 h1 with h1|h1
  ·cases h1
   split
   ·rename_i he;subst he
    split
    ·rename_i ρ' hj
     exact⟨ρ',by simp,Ie hj (.inr h2)⟩
    ·exact⟨τ,by simp,h2⟩
   ·exact⟨τ,by simp,h2⟩
  ·split
   ·split
    ·exact⟨ρ,List.mem_cons_of_mem _ h1,h2⟩
    ·exact(CX ⟨ρ,h1,h2⟩).cons
   ·exact(CX ⟨ρ,h1,h2⟩).cons
theorem oj {e:EX} {s:St}:∀ {o:lT},In o e s->In (vT o) e s
 |[],h=>h
 |
  (e',τ)::r,h=>by
  obtain⟨ρ,h1,h2⟩:=h
  simp only[vT]
  rcases cJ.1 h1 with h1|h1
  ·cases h1;exact CW h2 _
  ·exact CX (oj ⟨ρ,h1,h2⟩)
def Dtm (P:Program) (c:bT) (s:St) (e:EX) (s':St):Prop:=∀Q:Exit->UD,Q e.toE s'->aw P c Q s
mutual
def Js (D:Yx):AV->Bool
 | .bl _| .int .. | .str _| .np| .no=>true
 | .st _ l| .ar _ _ l| .sl _ l _| .tup l| .fp _ l _=>Rw D l
 | .rs k _ _ _ _ _ _| .pt k _ _=> !D.contains k
 | .gd _ v=>Js D v
 | .un=>false
def Rw (D:Yx):Xe->Bool
 |[]=>true
 |a::l=>Js D a&&Rw D l
end
mutual
theorem Ga {D:Yx} {k:Nat} (hk:k∈D):∀ {a:AV} {p:PV},gm a p->Js D a=true->ae (λj=>decide (j≠k)) p=true
 | .bl _,p,h,_=>by cases p<;>simp only[gm]at h;rfl
 | .int ..,p,h,_=>by cases p<;>simp only[gm]at h;rfl
 | .str _,p,h,_=>by cases p<;>simp only[gm]at h;rfl
 | .np,p,h,_=>by simp only[gm]at h;subst h;rfl
 | .no,p,h,_=>by simp only[gm]at h;subst h;rfl
 | .st _ l,p,h,hp=>by cases p<;>simp only[gm]at h;simp only[ae];exact sT hk h.2 (by simpa[Js]using hp)
 | .ar _ _ l,p,h,hp=>by cases p<;>simp only[gm]at h;simp only[ae];exact sT hk h.2 (by simpa[Js]using hp)
 | .sl _ l _,p,h,hp=>by cases p<;>simp only[gm]at h;simp only[ae];exact sT hk h.2 (by simpa[Js]using hp)
 | .fp _ l _,p,h,hp=>by cases p<;>simp only[gm]at h;simp only[ae];exact sT hk h.2 (by simpa[Js]using hp)
 | .tup l,p,h,hp=>by cases p<;>simp only[gm]at h;simp only[ae];exact sT hk h (by simpa[Js]using hp)
 |
  .rs k' _ _ _ _ _ _,p,h,hp=>by
  simp only[gm]at h;subst h
  simp only[ae,decide_eq_true_eq]
  rintro rfl;simp[Js,hk]at hp
 |
  .pt k' _ _,p,h,hp=>by
  simp only[gm]at h;subst h
  simp only[ae,decide_eq_true_eq]
  rintro rfl;simp[Js,hk]at hp
 | .gd _ v,p,h,hp=>by cases p<;>simp only[gm]at h;simp only[ae];exact Ga hk h.2 (by simpa[Js]using hp)
 | .un,_,_,hp=>by simp[Js]at hp
theorem sT {D:Yx} {k:Nat} (hk:k∈D):∀ {l:Xe} {m:WG},bB l m->Rw D l=true->al (λj=>decide (j≠k)) m=true
 |[],[],_,_=>rfl
 |[],_::_,h,_=>by simp[bB]at h
 |_::_,[],h,_=>by simp[bB]at h
 |
  a::l,p::m,h,hp=>by
  simp only[bB]at h
  simp only[Rw,aJ]at hp
  simp only[al,aJ]
  exact⟨Ga hk h.1 hp.1,sT hk h.2 hp.2⟩
end
def Wm (D:Yx):AB->Bool
 | .box v=>Js D v
 | .arr _ l=>Rw D l
def Wn {D:Yx} {k:Nat} (hk:k∈D) {b:AB} {blk:aU} (h:gB b blk) (hp:Wm D b=true):af (λj=>decide (j≠k)) blk=true:=by
 cases b<;>cases blk<;>simp only[gB]at h<;>simp only[Wm]at hp<;>simp only[af]
 ·exact Ga hk h hp
 ·exact sT hk h.2 hp
mutual
def rfA:AV->Yx
 | .st _ l| .ar _ _ l| .sl _ l _| .tup l| .fp _ l _=>rfL l
 | .rs k _ _ _ _ _ _| .pt k _ _=>[k]
 | .gd _ v=>rfA v
 |_=>[]
def rfL:Xe->Yx
 |[]=>[]
 |a::l=>rfA a++rfL l
end
def Rx (σ σ1:AS):Option AS:=
 let R:=σ.env.flatMap λx=>match get σ1.env x.1 with|some a=>rfA a|none=>[]
 let D:=(σ1.bx.filter λx=>(get σ.bx x.1).isNone&& !R.contains x.1).map (·.1)
 if(σ1.bx.all λx=>match get σ1.bx x.1 with|some b=>Wm D b|none=>false)&&D.all (λk=>decide (k<KB))then
  some {
      env:=mk (λk=>match get σ1.env k with|some a=>if Js D a=true then some a else none|none=>none) σ.env,
      bx:=mk (λk=>if D.contains k=true then none else get σ1.bx k) σ1.bx}
 else none
theorem CY {f:Nat->Bool}:∀ {l:List (Nat×PV)},(∀x∈l,ae f x.2=true)->aW f l=true
 |[],_=>rfl
 |(k,p)::r,h=>by simp only[aW,aJ];exact⟨h (k,p) (by simp),CY λx hx=>h x (by simp[hx])⟩
theorem EP {f:Nat->Bool}:∀ {l:List (Nat×aU)},(∀x∈l,af f x.2=true)->bA f l=true
 |[],_=>rfl
 |(k,p)::r,h=>by simp only[bA,aJ];exact⟨h (k,p) (by simp),EP λx hx=>h x (by simp[hx])⟩
theorem pj {α:Type} (sl:Yx):∀(l:List (Nat×α)) (j:Nat),get (j2 sl l) j=if sl.contains j=true then get l j else none
 |[],j=>by simp[get]
 |
  (k,v)::r,j=>by
  simp only[j2]
  by_cases hk:sl.contains k=true
  ·rw[if_pos hk]
   simp only[get]
   by_cases e:k=j
   ·subst e;rw[if_pos rfl,if_pos rfl,if_pos hk]
   ·rw[if_neg e,if_neg e];exact pj sl r j
  ·rw[if_neg hk]
   simp only[get]
   by_cases e:k=j
   ·subst e;rw[pj sl r k,if_neg hk,if_neg hk]
   ·rw[if_neg e];exact pj sl r j
theorem xP {α:Type} {sl:Yx}:∀ {l:List (Nat×α)},xL l->xL (j2 sl l)
 |[],_=>trivial
 |
  (k,v)::r,h=>by
  simp only[j2]
  split
  ·refine⟨λj x hj=> ?_,xP h.2⟩
   rw[pj]at hj
   split at hj
   ·exact h.1 j x hj
   ·simp at hj
  ·exact xP h.2
theorem xQ {α:Type} {n:Nat}:∀ {l:List (Nat×α)},xL l->xL (del l n)
 |[],_=>trivial
 |
  (k,v)::r,h=>by
  simp only[del]
  split
  ·exact xQ h.2
  ·refine⟨λj x hj=> ?_,xQ h.2⟩
   rw[gK]at hj
   split at hj
   ·simp at hj
   ·exact h.1 j x hj
theorem aaa {D0:Yx} {Q:Nat->W7}:∀(D:Yx) (s:St),(∀k∈D,k<KB∧(∀x∈s.env,ae (λj=>decide (j≠k)) x.2=true)∧∀x∈s.bx,af (λj=>decide (j≠k)) x.2=true)->xL s.bx->
  ∃s',s'.env=s.env∧(∀k,get s'.bx k=if k∈D then none else get s.bx k)∧xL s'.bx∧∀K:UD,K s'->fG (D.map .dr) s K
 |[],s,_,hs=>⟨s,rfl,by simp,hs,λK hK=>hK⟩
 |
  k::D,s,h,hs=>by
  obtain⟨h1,h2,h3⟩:=h k (by simp)
  have fQ:∀ {l:List (Nat×aU)} {x:Nat×aU},x∈del l k->x∈l:=by
   intro l;induction l with
   |nil=>intro x hx;simp at hx
   |
    cons y r ih=>
    intro x hx
    obtain⟨j,b⟩:=y
    simp only[del]at hx
    split at hx
    ·exact List.mem_cons_of_mem _ (ih hx)
    ·rcases cJ.1 hx with rfl|hx
     ·simp
     ·exact List.mem_cons_of_mem _ (ih hx)
  obtain⟨s',e1,e2,e3,e4⟩:=aaa (D0:=D0) (Q:=Q) D {s with bx:=del s.bx k} (λj hj=>by
   obtain⟨g1,g2,g3⟩:=h j (by simp[hj]);exact⟨g1,g2,λx hx=>g3 x (fQ hx)⟩) (xQ hs)
  refine⟨s',e1,λj=> ?_,e3,λK hK=> ?_⟩
  ·rw[e2]
   simp only[gK,cJ]
   by_cases hj:j∈D
   ·simp[hj]
   ·by_cases wa:j=k
    ·simp[wa]
    ·simp[hj,wa]
  ·simp only[JcQ,fG,gT,dr1]
   exact⟨⟨CY h2,EP λx hx=>h3 x (fQ hx),h1⟩,e4 K hK⟩
def Wo {σ σ1 σ2:AS} {s:St} (h:gS σ1 s) (hc:Rx σ σ1=some σ2):∃c s',gS σ2 s'∧∀K:UD,K s'->fG c s K:=by
 unfold Rx at hc;simp only at hc;generalize hD:(σ1.bx.filter λx=>(get σ.bx x.1).isNone&& !(σ.env.flatMap λx=>match get σ1.env x.1 with|some a=>rfA a|none=>[]).contains x.1).map (·.1)=D at hc;split at hc<;>simp only[sJ,reduceCtorEq]at hc;rename_i cL;simp only[aJ,JbJ,decide_eq_true_eq]at cL;generalize hE:mk (λk=>match get σ1.env k with|some a=>if Js D a=true then some a else none|none=>none) σ.env=E at hc
 have hEg:∀k a,get E k=some a->get σ1.env k=some a∧Js D a=true:=by
  intro k a hk;rw[←hE]at hk;have:=za hk;split at this
  ·rename_i a' ha;split at this<;>simp only[sJ,reduceCtorEq]at this;rename_i ho;subst this;exact⟨ha,ho⟩
  ·simp at this
 have hkb:∀x∈s.bx,∃b,get σ1.bx x.1=some b∧gB b x.2∧Wm D b=true:=by
  intro x hx;have hg:=h.sb.mem (k:=x.1) (x:=x.2) hx;cases hb:get σ1.bx x.1 with
  |none=>rw[h.none _ hb]at hg;cases hg
  |
   some b=>
   obtain⟨blk,g1,g2⟩:=h.bx _ _ hb
   rw[hg]at g1;cases g1
   refine⟨b,rfl,g2,?_⟩
   have:=cL.1 (x.1,b) (get_mem hb)
   simp only[hb]at this
   exact this
 have hdr:∀k∈D,k<KB∧(∀x∈j2 (E.map (·.1)) s.env,ae (λj=>decide (j≠k)) x.2=true)∧∀x∈s.bx,af (λj=>decide (j≠k)) x.2=true:=by
  intro k hk;refine⟨cL.2 k hk,λx hx=> ?_,λx hx=> ?_⟩
  ·have hg:=(xP h.se).mem (k:=x.1) (x:=x.2) hx;rw[pj]at hg;split at hg
   ·rename_i Al;simp only[List.contains_eq_mem,decide_eq_true_eq,JcV]at Al;obtain⟨y,hy,U4⟩:=Al;cases hga:get E x.1 with
    |
     none=>
     exfalso
     have:∀ {l:List (Nat×AV)} {y:Nat×AV},y∈l->(get l y.1).isSome=true:=by
      intro l;induction l with
      |nil=>intro y hy;simp at hy
      |
       cons z r ih=>
       intro y hy
       obtain⟨j,b⟩:=z
       simp only[get]
       split
       ·rfl
       ·rcases cJ.1 hy with rfl|hy
        ·rename_i bY;exact absurd rfl bY
        ·exact ih hy
     have:=this hy
     rw[U4,hga]at this
     simp at this
    |
     some a=>
     obtain⟨h1,h2⟩:=hEg _ _ hga
     obtain⟨p,h3,h4⟩:=h.env _ _ h1
     rw[hg]at h3;cases h3
     exact Ga hk h4 h2
   ·simp at hg
  ·obtain⟨b,h1,h2,h3⟩:=hkb x hx;exact Wn hk h2 h3
 obtain⟨s',e1,e2,e3,e4⟩:=aaa (D0:=[]) (Q:=λ_ _=>True) D {s with env:=j2 (E.map (·.1)) s.env} hdr h.sb;refine⟨.keep (E.map (·.1))::D.map .dr,s',?_,λK hK=>by simp only[fG,gT];exact e4 K hK⟩;subst hc;refine⟨λk a hk=> ?_,λk hk=> ?_,λk b hk=> ?_,by rw[e1];exact xP h.se,e3⟩
 ·obtain⟨h1,h2⟩:=hEg k a hk;obtain⟨p,h3,h4⟩:=h.env k a h1;refine⟨p,?_,h4⟩;rw[e1,pj,if_pos,h3];simp only[List.contains_eq_mem,decide_eq_true_eq];exact JcV.2 ⟨(k,a),get_mem hk,rfl⟩
 ·rw[e2];split
  ·rfl
  ·rename_i hkD;refine h.none k ?_;cases hb:get σ1.bx k with
   |none=>rfl
   |
    some b=>
    have:=um (f:=λk=>if D.contains k=true then none else get σ1.bx k) hb (b:=b) (by simp[hkD,hb])
    simp only at hk
    rw[hk]at this;cases this
 ·have:=za hk;split at this
  ·simp at this
  ·rename_i hkD;obtain⟨blk,g1,g2⟩:=h.bx k b this;refine⟨blk,?_,g2⟩;rw[e2,if_neg (by simpa using hkD)];exact g1
end Go.Ab
namespace Go.Ab
mutual
def rZ (k sz:Nat) (l0:Xe):AV->AV
 | .rs k' p off len aD bu c=>if k'=k then(if aD=l0.length∧p=[]∧bu=sz∧off+len≤l0.length then .sl sz ((l0.drop off).take len) (decide (c= .clip))else .un)else .rs k' p off len aD bu c
 | .pt k' p aD=>if k'=k then .un else .pt k' p aD
 | .st w l=> .st w (vU k sz l0 l)
 | .ar z n l=> .ar z n (vU k sz l0 l)
 | .tup l=> .tup (vU k sz l0 l)
 | .sl z l c=> .sl z (vU k sz l0 l) c
 | .fp z l p=> .fp z (vU k sz l0 l) p
 | .gd b p=> .gd b (rZ k sz l0 p)
 |p=>p
def vU (k sz:Nat) (l0:Xe):Xe->Xe
 |[]=>[]
 |p::l=>rZ k sz l0 p::vU k sz l0 l
end
def Ml (k sz:Nat) (l0:Xe):AB->AB
 | .box v=> .box (rZ k sz l0 v)
 | .arr z l=> .arr z (vU k sz l0 l)
variable {k sz:Nat} {l0:Xe} {m0:WG}
mutual
theorem Bv (h0:bB l0 m0):∀(a:AV) {p:PV},gm a p->gm (rZ k sz l0 a) (eG k sz m0 p)
 | .un,_,_=>by simp[rZ,gm]
 | .no,p,h=>by simp only[gm]at h;subst h;simp[rZ,eG,gm]
 | .bl _,p,h=>by cases p<;>simp only[gm]at h;simpa[rZ,eG,gm]using h
 | .int _ _,p,h=>by cases p<;>simp only[gm]at h;simpa[rZ,eG,gm]using h
 | .str _,p,h=>by cases p<;>simp only[gm]at h;simpa[rZ,eG,gm]using h
 | .st _ l,p,h=>by cases p<;>simp only[gm]at h;simp only[rZ,eG,gm];exact⟨h.1,pT h0 l h.2⟩
 | .ar _ _ l,p,h=>by cases p<;>simp only[gm]at h;simp only[rZ,eG,gm];exact⟨h.1,pT h0 l h.2⟩
 | .tup l,p,h=>by cases p<;>simp only[gm]at h;simp only[rZ,eG,gm];exact pT h0 l h
 | .sl _ l _,p,h=>by cases p<;>simp only[gm]at h;simp only[rZ,eG,gm];exact⟨h.1,pT h0 l h.2⟩
 | .fp _ l _,p,h=>by cases p<;>simp only[gm]at h;simp only[rZ,eG,gm];exact⟨h.1,pT h0 l h.2⟩
 | .np,p,h=>by simp only[gm]at h;subst h;simp[rZ,eG,gm]
 | .gd _ a,p,h=>by cases p<;>simp only[gm]at h;simp only[rZ,eG,gm];exact⟨h.1,Bv h0 a h.2⟩
 |
  .pt _ _ _,p,h=>by
  simp only[gm]at h;subst h
  simp only[rZ,eG]
  split
  ·simp[gm]
  ·simp[gm]
 |
  .rs _ _ off len _ _ _,p,h=>by
  simp only[gm]at h;subst h
  simp only[rZ,eG,h0.length]
  split
  ·split
   ·simp only[gm,true_and];exact(h0.drop off).take len
   ·simp[gm]
  ·simp[gm]
theorem pT (h0:bB l0 m0):∀(l:Xe) {m:WG},bB l m->bB (vU k sz l0 l) (fF k sz m0 m)
 |[],m,h=>by cases m<;>simp only[bB]at h;simp[vU,fF,bB]
 |a::l,m,h=>by cases m<;>simp only[bB]at h;simp only[vU,fF,bB];exact⟨Bv h0 a h.1,pT h0 l h.2⟩
end
def Ry (h0:bB l0 m0) {b:AB} {blk:aU} (h:gB b blk):gB (Ml k sz l0 b) (wz k sz m0 blk):=by
 cases b<;>cases blk<;>simp only[gB]at h<;>simp only[Ml,wz,gB]
 ·exact Bv h0 _ h
 ·exact⟨h.1,pT h0 _ h.2⟩
section
variable [cM]
theorem xL.fX {α:Type} (f:α->α):∀ {l:List (Nat×α)},xL l->xL (fX f l)
 |[],_=>trivial
 |
  (n,x)::r,h=>by
  refine⟨λj y hj=> ?_,xL.fX f h.2⟩
  rw[dM]at hj
  obtain⟨z,hz,_⟩:=mJ.1 hj
  exact h.1 j z hz
mutual
def rsK:AV->Yx
 | .rs k .. =>[k]
 | .st _ l| .ar _ _ l| .tup l| .sl _ l _=>adp l
 | .gd _ p=>rsK p
 |_=>[]
def adp:Xe->Yx
 |[]=>[]
 |p::l=>rsK p++adp l
end
def Rz:Yx->AS->Option AS
 |[],σ=>some σ
 |
  k::r,σ=>match get σ.bx k with
  |some (.arr sz l)=>if mi l=true∧k<KB then Rz r {env:=fX (rZ k sz l) σ.env,bx:=fX (Ml k sz l) (del σ.bx k)}else none
  |_=>none
theorem Mm:∀ {ks:Yx} {σ σ':AS} {s:St},gS σ s->Rz ks σ=some σ'->∃s',gS σ' s'∧∀K:UD,K s'->fG (ks.map .fz) s K
 |[],σ,σ',s,h,hr=>by simp only[Rz,sJ]at hr;subst hr;exact⟨s,h,λK hK=>hK⟩
 |
  k::r,σ,σ',s,h,hr=>by
  simp only[Rz]at hr
  split at hr<;>(try simp only[reduceCtorEq]at hr)
  rename_i sz l hb
  split at hr<;>(try simp only[reduceCtorEq]at hr)
  rename_i hc
  obtain⟨blk,b1,b2⟩:=h.bx _ _ hb
  cases blk<;>simp only[gB]at b2
  rename_i bu m
  obtain⟨rfl,b2⟩:=b2
  have hp:=b2.xK hc.1
  have hS:gS {env:=fX (rZ k bu l) σ.env,bx:=fX (Ml k bu l) (del σ.bx k)} {env:=fX (eG k bu m) s.env,bx:=fX (wz k bu m) (del s.bx k)}:= {
   env:=λj a hj=>by
    rw[dM]at hj;obtain⟨z,hz,rfl⟩:=mJ.1 hj;obtain⟨p,p1,p2⟩:=h.env _ _ hz;exact⟨_,by rw[dM,p1];rfl,Bv b2 _ p2⟩
   none:=λj hj=>by
    rw[dM,gK]at hj⊢;split at hj
    ·rename_i e;rw[if_pos e];rfl
    ·rename_i e;rw[if_neg e,h.none j (by simpa using hj)];rfl
   bx:=λj b hj=>by
    rw[dM,gK]at hj;split at hj
    ·simp at hj
    ·rename_i e;obtain⟨z,hz,rfl⟩:=mJ.1 hj;obtain⟨p,p1,p2⟩:=h.bx _ _ hz;exact⟨_,by rw[dM,gK,if_neg e,p1];rfl,Ry b2 p2⟩
   se:=h.se.fX _
   sb:=(xQ h.sb).fX _}
  obtain⟨s',g1,g2⟩:=Mm hS hr
  refine⟨s',g1,λK hK=> ?_⟩
  simp only[JcQ,fG,gT,fz1,b1]
  exact⟨⟨hp.refs _,hc.2⟩,g2 K hK⟩
end
end Go.Ab
namespace Go.Ab
variable [cM]
variable {P:Program} [gQ]
def nrm:lT->List AS
 |[]=>[]
 |(.nm,σ)::r=>σ::nrm r
 |_::r=>nrm r
def oth:lT->lT
 |[]=>[]
 |(.nm,_)::r=>oth r
 |x::r=>x::oth r
theorem RA {s:St}:∀ {o:lT},In o .nm s->∃σ∈nrm o,gS σ s
 |[],h=>by obtain⟨σ,h1,_⟩:=h;simp at h1
 |
  (e,τ)::r,h=>by
  obtain⟨σ,h1,h2⟩:=h
  rcases cJ.1 h1 with h1|h1
  ·cases h1;exact⟨τ,by simp[nrm],h2⟩
  ·obtain⟨ρ,h3,h4⟩:=RA ⟨σ,h1,h2⟩
   exact⟨ρ,by cases e<;>simp[nrm,h3],h4⟩
theorem RB {e:EX} {s:St} (he:e≠ .nm):∀ {o:lT},In o e s->In (oth o) e s
 |[],h=>h
 |
  (e',τ)::r,h=>by
  obtain⟨σ,h1,h2⟩:=h
  rcases cJ.1 h1 with h1|h1
  ·cases h1
   cases e with
   |nm=>exact absurd rfl he
   |rt=>exact⟨τ,by simp[oth],h2⟩
   |ex id=>exact⟨τ,by simp[oth],h2⟩
  ·have:=RB he ⟨σ,h1,h2⟩
   cases e' with
   |nm=>exact this
   |rt=>exact this.cons
   |ex id=>exact this.cons
def xR (f:AS->Option lT):lT->Option lT
 |[]=>some []
 |(.nm,σ)::r=>(match f σ,xR f r with|some a,some b=>some (a++b)|_,_=>none)
 |x::r=>(match xR f r with|some b=>some (x::b)|none=>none)
def In.app {o o':lT} {e:EX} {s:St} (h:In o e s∨In o' e s):In (o++o') e s:=by
 rcases h with⟨σ,h1,h2⟩|⟨σ,h1,h2⟩
 ·exact⟨σ,JaX.2 (.inl h1),h2⟩
 ·exact⟨σ,JaX.2 (.inr h1),h2⟩
theorem CZ {f:AS->Option lT} {s:St}:∀ {o r:lT},xR f o=some r->In o .nm s->∃σ a,gS σ s∧f σ=some a∧∀e s',In a e s'->In r e s'
 |[],_,_,h=>by obtain⟨σ,h1,_⟩:=h;simp at h1
 |
  (e,τ)::o,r,hb,h=>by
  obtain⟨σ,h1,h2⟩:=h
  cases e with
  |
   nm=>
   simp only[xR]at hb
   split at hb<;>simp only[sJ,reduceCtorEq]at hb
   rename_i a b ha tB
   subst hb
   rcases cJ.1 h1 with h1|h1
   ·cases h1;exact⟨τ,a,h2,ha,λe s' h=>In.app (.inl h)⟩
   ·obtain⟨σ',a',g1,g2,g3⟩:=CZ tB ⟨σ,h1,h2⟩
    exact⟨σ',a',g1,g2,λe s' h=>In.app (.inr (g3 e s' h))⟩
  |
   _=>
   simp only[xR]at hb
   split at hb<;>simp only[sJ,reduceCtorEq]at hb
   rename_i b tB
   subst hb
   rcases cJ.1 h1 with h1|h1
   ·cases h1
   ·obtain⟨σ',a',g1,g2,g3⟩:=CZ tB ⟨σ,h1,h2⟩
    exact⟨σ',a',g1,g2,λe s' h=>(g3 e s' h).cons⟩
theorem zb {f:AS->Option lT} {s:St} {e:EX} (he:e≠ .nm):∀ {o r:lT},xR f o=some r->In o e s->In r e s
 |[],_,_,h=>by obtain⟨σ,h1,_⟩:=h;simp at h1
 |
  (e',τ)::o,r,hb,h=>by
  obtain⟨σ,h1,h2⟩:=h
  cases e' with
  |
   nm=>
   simp only[xR]at hb
   split at hb<;>simp only[sJ,reduceCtorEq]at hb
   rename_i a b ha tB
   subst hb
   rcases cJ.1 h1 with h1|h1
   ·cases h1;exact absurd rfl he
   ·exact In.app (.inr (zb he tB ⟨σ,h1,h2⟩))
  |
   _=>
   simp only[xR]at hb
   split at hb<;>simp only[sJ,reduceCtorEq]at hb
   rename_i b tB
   subst hb
   rcases cJ.1 h1 with h1|h1
   ·cases h1;exact⟨τ,by simp,h2⟩
   ·exact(zb he tB ⟨σ,h1,h2⟩).cons
def Mn (id:Nat):lT->lT
 |[]=>[]
 |(e,σ)::r=>((if e= .ex id then .nm else e),σ)::Mn id r
theorem Ih {id:Nat} {e:EX} {s:St}:∀ {o:lT},In o e s->In (Mn id o) (if e= .ex id then .nm else e) s
 |[],h=>by obtain⟨σ,h1,_⟩:=h;simp at h1
 |
  (e',τ)::r,h=>by
  obtain⟨σ,h1,h2⟩:=h
  rcases cJ.1 h1 with h1|h1
  ·cases h1;exact⟨τ,by simp[Mn],h2⟩
  ·exact(Ih ⟨σ,h1,h2⟩).cons
mutual
def sU (ρ:Nat->Nat):AV->AV
 | .rs k p o l t z c=> .rs (ρ k) p o l t z c
 | .pt k p t=> .pt (ρ k) p t
 | .st w l=> .st w (vV ρ l)
 | .ar z n l=> .ar z n (vV ρ l)
 | .tup l=> .tup (vV ρ l)
 | .sl z l c=> .sl z (vV ρ l) c
 | .fp z l p=> .fp z (vV ρ l) p
 | .gd b v=> .gd b (sU ρ v)
 |a=>a
def vV (ρ:Nat->Nat):Xe->Xe
 |[]=>[]
 |a::l=>sU ρ a::vV ρ l
end
mutual
theorem Bw (ρ:Nat->Nat):∀ {a:AV} {p:PV},gm a p->gm (sU ρ a) (aI ρ p)
 | .un,_,_=>by simp only[sU,gm]
 | .no,p,h=>by simp only[gm]at h;subst h;simp only[sU,aI,gm]
 | .bl _,p,h=>by cases p<;>simp only[gm]at h;simpa only[sU,aI,gm]using h
 | .int _ _,p,h=>by cases p<;>simp only[gm]at h;simpa only[sU,aI,gm]using h
 | .str _,p,h=>by cases p<;>simp only[gm]at h;simpa only[sU,aI,gm]using h
 | .st _ l,p,h=>by cases p<;>simp only[gm]at h;simp only[sU,aI,gm];exact⟨h.1,pU ρ h.2⟩
 | .ar _ _ l,p,h=>by cases p<;>simp only[gm]at h;simp only[sU,aI,gm];exact⟨h.1,pU ρ h.2⟩
 | .tup l,p,h=>by cases p<;>simp only[gm]at h;simp only[sU,aI,gm];exact pU ρ h
 | .sl _ l _,p,h=>by cases p<;>simp only[gm]at h;simp only[sU,aI,gm];exact⟨h.1,pU ρ h.2⟩
 | .fp _ l _,p,h=>by cases p<;>simp only[gm]at h;simp only[sU,aI,gm];exact⟨h.1,pU ρ h.2⟩
 | .rs ..,p,h=>by simp only[gm]at h;subst h;simp only[sU,aI,gm]
 | .pt ..,p,h=>by simp only[gm]at h;subst h;simp only[sU,aI,gm]
 | .np,p,h=>by simp only[gm]at h;subst h;simp only[sU,aI,gm]
 | .gd _ v,p,h=>by cases p<;>simp only[gm]at h;simp only[sU,aI,gm];exact⟨h.1,Bw ρ h.2⟩
theorem pU (ρ:Nat->Nat):∀ {l:Xe} {m:WG},bB l m->bB (vV ρ l) (bw ρ m)
 |[],[],_=>by simp only[vV,bw,bB]
 |[],_::_,h=>by simp[bB]at h
 |_::_,[],h=>by simp[bB]at h
 |
  a::l,p::m,h=>by
  simp only[bB]at h
  simp only[vV,bw,bB]
  exact⟨Bw ρ h.1,pU ρ h.2⟩
end
def Mo (ρ:Nat->Nat):AB->AB
 | .box v=> .box (sU ρ v)
 | .arr z l=> .arr z (vV ρ l)
def Ii (ρ:Nat->Nat) {b:AB} {blk:aU} (h:gB b blk):gB (Mo ρ b) (aG ρ blk):=by
 cases b<;>cases blk<;>simp only[gB]at h<;>simp only[Mo,aG,gB]
 ·exact Bw ρ h
 ·exact⟨h.1,pU ρ h.2⟩
def mvA (k:Nat) (σ:AS):AS:=match get σ.bx k with
 |
  some b=>(match([1,2,3,4,5,6,7].map λj=>k+1000*j).find? λj=>(get σ.bx j).isNone with
  |some k'=>if k<KB∧k'<KB∧k≠k'∧(get σ.bx k').isNone=true then {env:=fX (sU (wA k k')) σ.env,bx:=put (fX (Mo (wA k k')) (del σ.bx k)) k' (Mo (wA k k') b)}else σ
  |none=>σ)
 |none=>σ
def adr {k:Nat} {σ:AS} {s:St} (h:gS σ s):∃c s',gS (mvA k σ) s'∧∀K:UD,K s'->fG c s K:=by
 unfold mvA;split
 ·rename_i b hb;split
  ·rename_i k' Fk;split
   ·rename_i hc;obtain⟨h1,h2,h3,h4⟩:=hc;obtain⟨blk,b1,b2⟩:=h.bx _ _ hb;have hn:get s.bx k'=none:=h.none _ (mj h4);refine⟨[.mv k k'],{env:=fX (aI (wA k k')) s.env,bx:=put (fX (aG (wA k k')) (del s.bx k)) k' (aG (wA k k') blk)},?_,λK hK=> ?_⟩
    ·exact {
      env:=λj a hj=>by
       rw[dM]at hj;obtain⟨z,hz,rfl⟩:=mJ.1 hj;obtain⟨p,p1,p2⟩:=h.env _ _ hz;exact⟨_,by rw[dM,p1];rfl,Bw _ p2⟩
      none:=λj hj=>by
       rw[dc,dM,gK]at hj⊢;by_cases e:k'=j
       ·rw[if_pos e]at hj;cases hj
       ·rw[if_neg e]at hj⊢;by_cases e2:j=k
        ·rw[if_pos e2];rfl
        ·rw[if_neg e2]at hj⊢;rw[h.none j (by simpa using hj)];rfl
      bx:=λj c hj=>by
       rw[dc,dM,gK]at hj⊢;by_cases e:k'=j
       ·rw[if_pos e]at hj⊢;cases hj;exact⟨_,rfl,Ii _ b2⟩
       ·rw[if_neg e]at hj⊢;by_cases e2:j=k
        ·rw[if_pos e2]at hj;cases hj
        ·rw[if_neg e2]at hj⊢;obtain⟨z,hz,rfl⟩:=mJ.1 hj;obtain⟨p,p1,p2⟩:=h.bx _ _ hz;exact⟨_,by rw[p1];rfl,Ii _ p2⟩
      se:=h.se.fX _
      sb:=xL.put _ _ (xL.fX _ (xQ h.sb))}
    ·simp only[fG,gT,mv1,b1];exact⟨⟨hn,h1,h2,h3⟩,hK⟩
   ·exact⟨[],s,h,λK hK=>hK⟩
  ·exact⟨[],s,h,λK hK=>hK⟩
 ·exact⟨[],s,h,λK hK=>hK⟩
def ads:Yx->AS->AS
 |[],σ=>σ
 |k::r,σ=>ads r (mvA k σ)
theorem Mp:∀ {l:Yx} {σ:AS} {s:St},gS σ s->∃c s',gS (ads l σ) s'∧∀K:UD,K s'->fG c s K
 |[],σ,s,h=>⟨[],s,h,λK hK=>hK⟩
 |
  k::r,σ,s,h=>by
  obtain⟨c1,s1,g1,g2⟩:=adr (k:=k) h
  obtain⟨c2,s2,g3,g4⟩:=Mp (l:=r) g1
  refine⟨c1++c2,s2,g3,λK hK=> ?_⟩
  rw[j5]
  exact g2 _ (g4 K hK)
def alz (σ σ2:AS):Yx:=(σ2.bx.filter λx=>(get σ.bx x.1).isNone).map (·.1)
def Ij (f:AS->Option lT):Nat->AS->Option lT
 |0,_=>none
 |
  n+1,σ=>match f σ with
  |
   some o=>let m:=vT o
   match nrm m with
   |[]=>some (oth m)
   |
    [σ1]=>(match Rx σ σ1 with
    |some σ2=>(match Ij f n (ads (alz σ σ2) σ2)with|some r=>some (vT (oth m++r))|none=>none)
    |none=>none)
   |_=>none
  |none=>none
inductive LpE (P:Program) (x:bT):Nat->St->EX->UD
 |fin {n s e s'}:e≠ .nm->Dtm P x s e s'->LpE P x n s e s'
 |more {n s s1 s2 e s'} {c:List Cut}:Dtm P x s .nm s1->(∀K:UD,K s2->fG c s1 K)->LpE P x n s2 e s'->LpE P x (n+1) s e s'
theorem LpE.aw {x:bT} {n:Nat} {s s':St} {e:EX} (h:LpE P x n s e s'):Dtm P (.loop x) s e s':=by
 intro Q hQ;refine⟨λn s=>LpE P x n s e s',[],⟨n,h⟩,λn s h=> ?_⟩;cases h with
 |
  fin he hd=>
  refine hd _ ?_
  cases e with
  |nm=>exact absurd rfl he
  |rt=>exact hQ
  |ex id=>exact hQ
 |more hd hc hr=>exact hd _ ⟨_,hc _ ⟨_,Nat.lt_succ_self _,hr⟩⟩
theorem Ik {f:AS->Option lT} {x:bT} (hf:∀σ o s,f σ=some o->gS σ s->∃e s',In o e s'∧Dtm P x s e s'):∀n {σ:AS} {o:lT} {s:St},Ij f n σ=some o->gS σ s->∃e s',In o e s'∧e≠ .nm∧∃m,LpE P x m s e s'
 |0,_,_,_,h,_=>by simp[Ij]at h
 |
  n+1,σ,o,s,h,hs=>by
  simp only[Ij]at h
  split at h<;>(try simp only[reduceCtorEq]at h)
  rename_i o1 h1
  obtain⟨e,s1,g1,g2⟩:=hf _ _ _ h1 hs
  have g1:=oj g1
  by_cases he:e= .nm
  ·subst he
   obtain⟨τ,t1,t2⟩:=RA g1
   split at h<;>(try simp only[reduceCtorEq]at h)
   ·rename_i hn;rw[hn]at t1;simp at t1
   ·rename_i σ1 hn
    rw[hn]at t1
    simp only[List.mem_singleton]at t1
    subst t1
    split at h<;>(try simp only[reduceCtorEq]at h)
    rename_i σ2 hc
    split at h<;>simp only[sJ,reduceCtorEq]at h
    rename_i r hr
    subst h
    obtain⟨c,s2,c1,c2⟩:=Wo t2 hc
    obtain⟨c',s3,c3,c4⟩:=Mp (l:=alz σ σ2) c1
    obtain⟨e,s',d1,d2,m,d3⟩:=Ik hf n hr c3
    exact⟨e,s',oj (In.app (.inr d1)),d2,m+1,.more (c:=c++c') g2 (λK hK=>by rw[j5];exact c2 _ (c4 K hK)) d3⟩
  ·have g3:=RB he g1
   have g4:In o e s1:=by
    split at h<;>(try simp only[reduceCtorEq]at h)
    ·simp only[sJ]at h;subst h;exact g3
    ·split at h<;>(try simp only[reduceCtorEq]at h)
     split at h<;>simp only[sJ,reduceCtorEq]at h;subst h;exact oj (In.app (.inl g3))
   exact⟨e,s1,g4,he,0,.fin he g2⟩
def Bx (SP:ZQ):bT->AS->Option lT
 | .skip,σ=>some [(.nm,σ)]
 | .region l,σ=>match Rs SP σ l with|some σ'=>some [(.nm,σ')]|none=>none
 | .regionD l ord u,σ=>match drA SP l u (900001::900002::drW SP l u σ ord) σ ord with|some σ'=>some [(.nm,σ')]|none=>none
 |
  .seq x y,σ=>match Bx SP x σ with
  |some o=>(match xR (λτ=>Bx SP y τ) (vT o)with|some r=>some (vT r)|none=>none)
  |none=>none
 |
  .cond c x y,σ=>match vxA σ c with
  |some (.bl (some b))=>if b=true then Bx SP x σ else Bx SP y σ
  |some (.gd true (.bl (some b)))=>if b=true then Bx SP x σ else Bx SP y σ
  |some (.bl none)=>(match Bx SP x σ,Bx SP y σ with|some a,some b=>some (vT (a++b))|_,_=>none)
  |some (.gd true (.bl none))=>(match Bx SP x σ,Bx SP y σ with|some a,some b=>some (vT (a++b))|_,_=>none)
  |_=>none
 | .block id x,σ=>match Bx SP x σ with|some o=>some (vT (Mn id o))|none=>none
 | .loop x,σ=>Ij (λτ=>Bx SP x τ) 400 σ
 | .exit id,σ=>some [(.ex id,σ)]
 | .ret,σ=>some [(.rt,σ)]
 |_,_=>none
theorem adu {SP:ZQ} (hS:av P SP):∀(c:bT) {σ:AS} {o:lT} {s:St},Bx SP c σ=some o->gS σ s->∃e s',In o e s'∧Dtm P c s e s':=by
 have one:∀ {c:bT} {σ:AS} {s:St} (e:EX),gS σ s->(∀Q:Exit->UD,Q e.toE s->aw P c Q s)->∃e' s',In [(e,σ)] e' s'∧Dtm P c s e' s':=λe h hd=>⟨e,_,⟨_,by simp,h⟩,hd⟩
 intro c;induction c with
 |skip=>intro σ o s h hs;simp only[Bx,sJ]at h;subst h;exact one .nm hs λQ h=>h
 |exit id=>intro σ o s h hs;simp only[Bx,sJ]at h;subst h;exact one (.ex id) hs λQ h=>h
 |ret=>intro σ o s h hs;simp only[Bx,sJ]at h;subst h;exact one .rt hs λQ h=>h
 |
  region l=>
  intro σ o s h hs
  simp only[Bx]at h
  split at h<;>simp only[sJ,reduceCtorEq]at h
  rename_i σ' h1
  subst h
  obtain⟨s',h2,h3⟩:=Mk hS hs h1
  exact⟨.nm,s',⟨σ',by simp,h2⟩,λQ hQ=>h3 _ hQ⟩
 |
  regionD l ord u=>
  intro σ o s h hs
  simp only[Bx]at h
  split at h<;>simp only[sJ,reduceCtorEq]at h
  rename_i σ' h1
  subst h
  obtain⟨s',h2,h3⟩:=F9 hS rfl hs h1
  exact⟨.nm,s',⟨σ',by simp,h2⟩,λQ hQ=>⟨_,h3 _ hQ⟩⟩
 |
  seq x y ihx ihy=>
  intro σ o s h hs
  simp only[Bx]at h
  split at h<;>(try simp only[reduceCtorEq]at h)
  rename_i o1 h1
  split at h<;>simp only[sJ,reduceCtorEq]at h
  rename_i r hr
  subst h
  obtain⟨e,s1,g1,g2⟩:=ihx h1 hs
  have g1:=oj g1
  by_cases he:e= .nm
  ·subst he
   obtain⟨τ,a,t1,t2,t3⟩:=CZ hr g1
   obtain⟨e,s2,k1,k2⟩:=ihy t2 t1
   exact⟨e,s2,oj (t3 _ _ k1),λQ hQ=>g2 _ (k2 _ hQ)⟩
  ·refine⟨e,s1,oj (zb he hr g1),λQ hQ=>g2 _ ?_⟩
   cases e with
   |nm=>exact absurd rfl he
   |rt=>exact hQ
   |ex id=>exact hQ
 |
  cond c x y ihx ihy=>
  intro σ o s h hs
  simp only[Bx]at h
  split at h<;>(try simp only[reduceCtorEq]at h)
  ·rename_i b hb
   have hv:=j8 hs hb
   cases LM:vx s c<;>rw[LM]at hv<;>simp only[gm]at hv
   have:=hv b rfl
   subst this
   rename_i b
   split at h
   ·rename_i e
    obtain⟨e',s1,g1,g2⟩:=ihx h hs
    exact⟨e',s1,g1,λQ hQ=>by simp only[aw,LM];exact⟨λ_=>g2 Q hQ,λh=>by rw[e]at h;cases h⟩⟩
   ·rename_i e
    obtain⟨e',s1,g1,g2⟩:=ihy h hs
    exact⟨e',s1,g1,λQ hQ=>by simp only[aw,LM];exact⟨λh=>absurd h e,λ_=>g2 Q hQ⟩⟩
  ·rename_i b hb
   have hv:=j8 hs hb
   cases LM:vx s c<;>rw[LM]at hv<;>simp only[gm]at hv
   rename_i g q
   obtain⟨rfl,hv⟩:=hv
   cases q<;>simp only[gm]at hv
   rename_i b'
   have:=hv b rfl
   subst this
   split at h
   ·rename_i e
    obtain⟨e',s1,g1,g2⟩:=ihx h hs
    exact⟨e',s1,g1,λQ hQ=>by simp only[aw,LM];exact⟨trivial,λ_=>g2 Q hQ,λh=>by rw[e]at h;cases h⟩⟩
   ·rename_i e
    obtain⟨e',s1,g1,g2⟩:=ihy h hs
    exact⟨e',s1,g1,λQ hQ=>by simp only[aw,LM];exact⟨trivial,λh=>absurd h e,λ_=>g2 Q hQ⟩⟩
  ·rename_i hb
   have hv:=j8 hs hb
   cases LM:vx s c<;>rw[LM]at hv<;>simp only[gm]at hv
   rename_i b
   split at h<;>simp only[sJ,reduceCtorEq]at h
   rename_i oa ob ha tB
   subst h
   cases b with
   |
    true=>
    obtain⟨e',s1,g1,g2⟩:=ihx ha hs
    exact⟨e',s1,oj (In.app (.inl g1)),λQ hQ=>by simp only[aw,LM];exact⟨λ_=>g2 Q hQ,λh=>by cases h⟩⟩
   |
    false=>
    obtain⟨e',s1,g1,g2⟩:=ihy tB hs
    exact⟨e',s1,oj (In.app (.inr g1)),λQ hQ=>by simp only[aw,LM];exact⟨(λh=>absurd h (by simp)),λ_=>g2 Q hQ⟩⟩
  ·rename_i hb
   have hv:=j8 hs hb
   cases LM:vx s c<;>rw[LM]at hv<;>simp only[gm]at hv
   rename_i g q
   obtain⟨rfl,hv⟩:=hv
   cases q<;>simp only[gm]at hv
   rename_i b
   split at h<;>simp only[sJ,reduceCtorEq]at h
   rename_i oa ob ha tB
   subst h
   cases b with
   |
    true=>
    obtain⟨e',s1,g1,g2⟩:=ihx ha hs
    exact⟨e',s1,oj (In.app (.inl g1)),λQ hQ=>by simp only[aw,LM];exact⟨trivial,λ_=>g2 Q hQ,λh=>by cases h⟩⟩
   |
    false=>
    obtain⟨e',s1,g1,g2⟩:=ihy tB hs
    exact⟨e',s1,oj (In.app (.inr g1)),λQ hQ=>by simp only[aw,LM];exact⟨trivial,(λh=>absurd h (by simp)),λ_=>g2 Q hQ⟩⟩
 |
  block id x ih=>
  intro σ o s h hs
  simp only[Bx]at h
  split at h<;>simp only[sJ,reduceCtorEq]at h
  rename_i o1 h1
  subst h
  obtain⟨e,s1,g1,g2⟩:=ih h1 hs
  refine⟨_,s1,oj (Ih (id:=id) g1),λQ hQ=> ?_⟩
  simp only[aw]
  refine g2 _ ?_
  cases e with
  |nm=>simpa[QE,EX.toE]using hQ
  |rt=>simpa[QE,EX.toE]using hQ
  |
   ex id'=>
   simp only[EX.toE,QE]
   by_cases e:id'=id
   ·subst e;simpa[EX.toE]using hQ
   ·rw[if_neg e]
    have:¬EX.ex id'=EX.ex id:=by simpa using e
    rw[if_neg this]at hQ
    exact hQ
 |
  loop x ih=>
  intro σ o s h hs
  simp only[Bx]at h
  obtain⟨e,s',h1,h2,m,h3⟩:=Ik (P:=P) (x:=x) (λσ o s h hs=>ih h hs) 400 h hs
  exact⟨e,s',h1,h3.aw⟩
 |_=>intro σ o s h hs;simp[Bx]at h
def Il (σ:AS):ZB->Option (Xe)
 |[]=>some []
 |k::r=>match xf true σ k,Il σ r with|some a,some l=>some (a::l)|_,_=>none
theorem By {σ:AS} {s:St} (h:gS σ s):∀ {r:ZB} {l:Xe},Il σ r=some l->∃ps,bB l ps∧∀K:WG->Prop,K ps->G6 s r K
 |[],l,hx=>by simp only[Il,sJ]at hx;subst hx;exact⟨[],by simp[bB],λK hK=>hK⟩
 |
  k::r,l,hx=>by
  simp only[Il]at hx
  split at hx<;>simp only[sJ,reduceCtorEq]at hx
  rename_i a l' h1 h2
  subst hx
  obtain⟨p,g1,g2⟩:=CQ h h1
  obtain⟨ps,g3,g4⟩:=By h h2
  exact⟨p::ps,by simp only[bB];exact⟨g1,g3⟩,λK hK=>g2 _ (g4 _ hK)⟩
def Im:Xe->AV
 |[p]=>p
 |ps=> .tup ps
def Io:AV->Bool
 | .un| .no| .gd .. | .tup _=>false
 |_=>true
def RC {a:AV} {p:PV} (h:gm a p) (hf:Io a=true):p.flat=true:=by
 cases a<;>simp[Io]at hf<;>cases p<;>simp[gm]at h<;>rfl
theorem Gb:∀ {l:Xe} {ps:WG},bB l ps->gm (Im l) (dN ps)
 |[],[],h=>by simp[Im,dN,gm,bB]
 |[a],[p],h=>by simp only[bB]at h;exact h.1
 |a::b::l,p::q::ps,h=>by simp only[Im,dN,gm];exact h
 |[],_::_,h=>by simp[bB]at h
 |_::_,[],h=>by simp[bB]at h
 |[_],_::_::_,h=>by simp[bB]at h
 |_::_::_,[_],h=>by simp[bB]at h
theorem zc:∀ {l:Xe} {ps:WG},bB l ps->l.all Io=true->ps.all PV.flat=true
 |[],[],_,_=>rfl
 |[],_::_,h,_=>by simp[bB]at h
 |_::_,[],h,_=>by simp[bB]at h
 |
  a::l,p::ps,h,hf=>by
  simp only[bB]at h
  simp only[JgX,aJ]at hf⊢
  exact⟨RC h.1 hf.1,zc h.2 hf.2⟩
def leR:AV->AV->Bool
 | .rs k [] o le t s c,.rs k' [] o' le' t' s' c'=>decide (k=k'∧o=o'∧le=le'∧t=t'∧s=s'∧c=c')
 |a,b=>Om a b
def Ou:Xe->Xe->Bool
 |[],[]=>true
 |a::l,b::m=>leR a b&&Ou l m
 |_,_=>false
def leG:AV->AV->Bool
 | .tup l,.tup m=>Ou l m
 |_,_=>false
def adv {a b:AV} {p:PV} (h:leR a b=true) (hp:gm a p):gm b p:=by
 unfold leR at h;split at h
 ·simp only[decide_eq_true_eq]at h;obtain⟨rfl,rfl,rfl,rfl,rfl,rfl⟩:=h;exact hp
 ·exact Kw h hp
theorem Mq:∀ {l m:Xe} {ps:WG},Ou l m=true->bB l ps->bB m ps
 |[],[],_,_,h=>h
 |[],_::_,_,h,_=>by simp[Ou]at h
 |_::_,[],_,h,_=>by simp[Ou]at h
 |a::l,b::m,[],_,h=>by simp[bB]at h
 |
  a::l,b::m,p::ps,h,hp=>by
  simp only[Ou,aJ]at h
  simp only[bB]at hp⊢
  exact⟨adv h.1 hp.1,Mq h.2 hp.2⟩
def adw {a b:AV} {p:PV} (h:leG a b=true) (hp:gm a p):gm b p:=by
 cases a<;>cases b<;>simp only[leG,fJ]at h;cases p<;>simp only[gm]at hp⊢;exact Mq h hp
def gk:Xe->Option Nat
 |[]=>none
 | .rs k .. ::_=>some k
 |_::r=>gk r
def aab (res:ZB) (r:SR):EX×AS->Bool
 |
  (e,σ)=>(match e with| .ex _=>false|_=>true)&&(match r with
  |
   .val a=>(match Il σ res with
   |
    some l0=>(match Rz (dd (adp l0)) σ with
    |
     some σ'=>(match Il σ' res with
     |some l=>l.all Io&&(Im l).rX&&a.rX&&Om (Im l) a
     |none=>false)
    |none=>false)
   |none=>false)
  |
   .own bu m=>(match Il σ res with
   |
    some [.rs k [] 0 len aD sz .tip]=>(match get σ.bx k with
    |some (.arr sz'' l)=>decide (sz=bu∧sz''=sz∧len=l.length∧aD=l.length)&&mi l&&mi m&&A4 l m
    |_=>false)
   |_=>false)
  |
   .gen r bu m=>(match Il σ res with
   |
    some l=>(match gk l with
    |
     some k=>(match get σ.bx k with
     |some (.arr sz'' c)=>decide (sz''=bu)&&l.all Io&&On k (Im l)&&On KB r&&mi c&&mi m&&A4 c m&&leG (Jr KB (Im l)) r
     |_=>false)
    |none=>false)
   |none=>false))
def Ov:Nat->Xe->List (Nat×AV)
 |_,[]=>[]
 |i,p::r=>(i,p)::Ov (i+1) r
theorem Mr:∀ {l:Xe} {ps:WG} {i k:Nat} {a:AV},bB l ps->get (Ov i l) k=some a->∃p,get (ah i ps) k=some p∧gm a p
 |[],_,_,_,_,_,h=>by simp[Ov,get]at h
 |_::_,[],_,_,_,h,_=>by simp[bB]at h
 |
  b::l,p::ps,i,k,a,hg,h=>by
  simp only[bB]at hg
  simp only[Ov,get]at h
  simp only[ah,get]
  split at h
  ·rename_i e;cases h;exact⟨p,by rw[if_pos e],hg.1⟩
  ·rename_i e;rw[if_neg e];exact Mr hg.2 h
theorem Ms:∀(ps:WG) (i:Nat),xL (ah i ps)
 |[],_=>trivial
 |
  p::ps,i=>by
  refine⟨λj x hj=> ?_,Ms ps (i+1)⟩
  rw[wG]at hj
  split at hj
  ·omega
  ·simp at hj
def adx (SP:ZQ) (P:Program) (own sp:Yx) (e:Spec):Bool:=
 match Kv P own sp e.f with
 |
  some A=>decide (e.args.length≤A.nt)&&(match Bx SP A.code ⟨Ov 0 e.args,[]⟩with
  |some o=>o.all (aab A.res e.res)
  |none=>false)
 |none=>false
def RD {own sp:Yx} {f:FuncId} {A:dP} (h:eI P own sp f=some A):eI P own sp f=some A.er:=by
 rw[h];unfold eI at h;(repeat' split at h)<;>simp only[sJ,reduceCtorEq]at h;subst h;rename_i hc _;simp only[dP.er,EF _ _ _ hc]
end Go.Ab
namespace Go.Ab
variable [cM]
variable {P:Program}
def ai {SP:ZQ} (hS:av P SP) {own sp:Yx} {e:Spec} (h:adx SP P own sp e=true):e.ok P:=by
 intro ps hg;unfold adx at h;split at h
 case h_2=>simp at h
 rename_i A hA;simp only[aJ,decide_eq_true_eq]at h;obtain⟨hl,h⟩:=h;split at h
 case h_2=>simp at h
 rename_i o ho;have xh:ps.length≤A.nt:=by rw[hg.length];exact hl
 have h0:gS ⟨Ov 0 e.args,[]⟩ ⟨ah 0 ps,az 0 []⟩:=⟨λk a hk=>Mr hg hk,λk _=>rfl,λk b hk=>by simp[get]at hk,Ms ps 0,trivial⟩
 obtain⟨ex,s',⟨σ,Al,hs⟩,hd⟩:=adu hS A.code ho h0;have cL:=JbJ.1 h _ Al;unfold aab at cL;simp only[aJ]at cL;obtain⟨hex,cL⟩:=cL;have ht:eI P own sp e.f=some A.er:=RD (by rw[Wj];exact hA)
 have agd:∀ {R:PV->WD->Prop},QJ 0 A.res R s'->ab P e.f ps [] R:=by
  intro R hR;refine ab.intro ht xh (hd _ ?_);cases ex with
  |ex id=>simp at hex
  |nm=>exact hR
  |rt=>exact hR
 split at cL
 ·rename_i a hr;split at cL
  case h_2=>simp at cL
  rename_i l0 Jz;split at cL
  case h_2=>simp at cL
  rename_i σ' hz;split at cL
  case h_2=>simp at cL
  rename_i l AP;simp only[aJ]at cL;obtain⟨⟨⟨hf,hp⟩,hpa⟩,hle⟩:=cL;obtain⟨s2,k1,k2⟩:=Mm hs hz;obtain⟨qs,g1,g2⟩:=By k1 AP;have hv:=(Gb g1).rX hp;rw[hr];refine⟨hpa,dN qs,Kw hle (Gb g1),agd ⟨_,[],k2 _ ?_⟩⟩;refine g2 _ ⟨[],⟨rfl,by simp,rfl⟩,⟨zc g1 hf,hv.refs _,rfl⟩,?_⟩;rw[hv.aI];exact⟨rfl,rfl⟩
 ·rename_i bu m hr;split at cL
  case h_2=>simp at cL
  rename_i k len aD sz AP;split at cL
  ·rename_i sz'' l hb;simp only[aJ,decide_eq_true_eq]at cL;obtain⟨⟨⟨⟨rfl,rfl,rfl,rfl⟩,hp⟩,rv⟩,hle⟩:=cL;obtain⟨qs,g1,g2⟩:=By hs AP;cases qs with
   |nil=>simp[bB]at g1
   |
    cons q qs=>
    simp only[bB]at g1
    obtain⟨g1,g3⟩:=g1
    cases qs with
    |cons _ _=>simp[bB]at g3
    |
     nil=>
     simp only[gm]at g1
     subst g1
     obtain⟨blk,b1,b2⟩:=hs.bx _ _ hb
     cases blk<;>simp only[gB]at b2
     rename_i sz3 x
     obtain⟨rfl,b2⟩:=b2
     have hx:=b2.xK hp
     have hlen:=b2.length
     rw[hr]
     refine⟨rv,x,qy hle b2,agd ⟨[],[k],?_⟩⟩
     refine g2 _ ⟨[.arr _ x],⟨by simp only[getAll,b1];rfl,by simp,rfl⟩,⟨rfl,by simp[cW,idx],by simp[af,hx.refs]⟩,?_⟩
     simp only[dN,aI,JcQ,List.map_nil,aG,hx.aI,hlen]
     exact⟨by simp[bV,idx],by trivial⟩
  ·simp at cL
 ·rename_i r bu m hr;split at cL
  case h_2=>simp at cL
  rename_i l AP;split at cL
  case h_2=>simp at cL
  rename_i k hk;split at cL
  case h_2=>simp at cL
  rename_i sz'' c hb;simp only[aJ,decide_eq_true_eq]at cL;obtain⟨⟨⟨⟨⟨⟨⟨rfl,hf⟩,ho⟩,U9⟩,hp⟩,rv⟩,hle⟩,aCi⟩:=cL;obtain⟨qs,g1,g2⟩:=By hs AP;have hT:=Gb g1;obtain⟨blk,b1,b2⟩:=hs.bx _ _ hb;cases blk<;>simp only[gB]at b2;rename_i sz3 x;obtain⟨rfl,b2⟩:=b2;have hx:=b2.xK hp;have e1:bV [k] k=KB:=by simp[bV,idx]
  have hg:gm (Jr KB (Im l)) (aI (bV [k]) (dN qs)):=by
   have:=F6 (bV [k]) hT ho;rwa [e1]at this
  rw[hr];refine⟨⟨U9,rv⟩,aI (bV [k]) (dN qs),x,adw aCi hg,qy hle b2,agd ⟨[],[k],?_⟩⟩;refine g2 _ ⟨[.arr _ x],⟨by simp only[getAll,b1];rfl,by simp,rfl⟩,⟨zc g1 hf,CS (by simp[cW,idx]) hT ho,by simp[af,hx.refs]⟩,rfl,?_⟩;simp only[JcQ,List.map_nil,aG,hx.aI]
def ax {P:Program} {SP:ZQ} {e:Spec} (hS:av P SP) (own sp:Yx) (h:adx SP P own sp e=true):av P (e::SP):= .cons (ai hS h) hS
end Go.Ab
