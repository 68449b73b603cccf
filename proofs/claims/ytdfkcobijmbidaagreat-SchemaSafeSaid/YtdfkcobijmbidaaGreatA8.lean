/- The reckoning, its end. No condition. -/
import Derived.Test.YtdfkcobijmbidaaGreatA7
set_option linter.all false
namespace Go.Ab
variable [eg]
variable {P:Program} [iE]
inductive EX|nm|rt|ex (id:Nat)
 deriving DecidableEq
def EX.toE:EX->Exit
 | .nm=> .normal
 | .rt=> .ret
 | .ex id=> .exit id
abbrev lG:=List (EX×AS)
def In (o:lG) (e:EX) (s:St):Prop:=∃σ,(e,σ)∈o∧gS σ s
mutual
def Fh:AV->AV->Option AV
 | .bl x,.bl y=>some (.bl (if x=y then x else none))
 | .int k n,.int k' m=>if k=k' then some (.int k (if n=m then n else none))else none
 | .str l,.str m=>if l=m then some (.str l)else none
 | .st w l,.st w' m=>if w=w' then(match rD l m with|some r=>some (.st w r)|none=>none)else none
 | .ar sz n l,.ar bB n' m=>if sz=bB∧n=n' then(match rD l m with|some r=>some (.ar sz n r)|none=>none)else none
 | .sl sz l c,.sl bB m c'=>if sz=bB∧c=c' then(match rD l m with|some r=>some (.sl sz r c)|none=>none)else none
 | .tup l,.tup m=>(match rD l m with|some r=>some (.tup r)|none=>none)
 | .rs k p off len aC sz c,.rs k' p' off' auT Zn bB c'=>if k=k'∧p=p'∧off=off'∧len=auT∧aC=Zn∧sz=bB∧c=c' then some (.rs k p off len aC sz c)else none
 | .pt k p aC,.pt k' p' Zn=>if k=k'∧p=p'∧aC=Zn then some (.pt k p aC)else none
 | .np,.np=>some .np
 | .no,.no=>some .no
 |_,_=>none
def rD:List AV->List AV->Option (List AV)
 |[],[]=>some []
 |a::l,b::m=>(match Fh a b,rD l m with|some x,some r=>some (x::r)|_,_=>none)
 |_,_=>none
end
mutual
theorem pP:∀ {a b c:AV} {p:PV},Fh a b=some c->gm a p∨gm b p->gm c p:=by
 intro a b c p h hp
 cases a<;>cases b<;>simp only[Fh,reduceCtorEq,sJ]at h
 case bl.bl x y=>
  subst h
  rcases hp with hp|hp<;>cases p<;>simp only[gm]at hp⊢<;>intro z hz
  ·split at hz
   ·exact hp z hz
   ·simp at hz
  ·split at hz
   ·rename_i e;exact hp z (e▸hz)
   ·simp at hz
 case int.int k n k' m=>
  split at h<;>simp only[sJ,reduceCtorEq]at h
  rename_i e;subst h e
  rcases hp with hp|hp<;>cases p<;>simp only[gm]at hp⊢<;>refine⟨hp.1,λz hz=> ?_⟩
  ·split at hz
   ·exact hp.2 z hz
   ·simp at hz
  ·split at hz
   ·rename_i e;exact hp.2 z (e▸hz)
   ·simp at hz
 case str.str=>
  split at h<;>simp only[sJ,reduceCtorEq]at h
  rename_i e;subst h e
  rcases hp with hp|hp<;>exact hp
 case st.st w l w' m=>
  split at h<;>(try simp only[reduceCtorEq]at h)
  rename_i e;subst e
  split at h<;>simp only[sJ,reduceCtorEq]at h
  rename_i r hr;subst h
  rcases hp with hp|hp<;>cases p<;>simp only[gm]at hp⊢
  ·exact⟨hp.1,jI hr (.inl hp.2)⟩
  ·exact⟨hp.1,jI hr (.inr hp.2)⟩
 case ar.ar=>
  split at h<;>(try simp only[reduceCtorEq]at h)
  rename_i e;obtain⟨rfl,rfl⟩:=e
  split at h<;>simp only[sJ,reduceCtorEq]at h
  rename_i r hr;subst h
  rcases hp with hp|hp<;>cases p<;>simp only[gm]at hp⊢
  ·exact⟨hp.1,jI hr (.inl hp.2)⟩
  ·exact⟨hp.1,jI hr (.inr hp.2)⟩
 case sl.sl=>
  split at h<;>(try simp only[reduceCtorEq]at h)
  rename_i e;obtain⟨rfl,rfl⟩:=e
  split at h<;>simp only[sJ,reduceCtorEq]at h
  rename_i r hr;subst h
  rcases hp with hp|hp<;>cases p<;>simp only[gm]at hp⊢
  ·exact⟨hp.1,jI hr (.inl hp.2)⟩
  ·exact⟨hp.1,jI hr (.inr hp.2)⟩
 case tup.tup=>
  split at h<;>simp only[sJ,reduceCtorEq]at h
  rename_i r hr;subst h
  rcases hp with hp|hp<;>cases p<;>simp only[gm]at hp⊢
  ·exact jI hr (.inl hp)
  ·exact jI hr (.inr hp)
 case rs.rs=>
  split at h<;>simp only[sJ,reduceCtorEq]at h
  rename_i e;obtain⟨rfl,rfl,rfl,rfl,rfl,rfl,rfl⟩:=e;subst h
  rcases hp with hp|hp<;>exact hp
 case pt.pt=>
  split at h<;>simp only[sJ,reduceCtorEq]at h
  rename_i e;obtain⟨rfl,rfl,rfl⟩:=e;subst h
  rcases hp with hp|hp<;>exact hp
 case np.np=>subst h;rcases hp with hp|hp<;>exact hp
 case no.no=>subst h;rcases hp with hp|hp<;>exact hp
theorem jI:∀ {l m r:List AV} {ps:List PV},rD l m=some r->bH l ps∨bH m ps->bH r ps
 |[],[],r,ps,h,hp=>by simp only[rD,sJ]at h;subst h;rcases hp with hp|hp<;>exact hp
 |[],_::_,_,_,h,_=>by simp[rD]at h
 |_::_,[],_,_,h,_=>by simp[rD]at h
 |
  a::l,b::m,r,ps,h,hp=>by
  simp only[rD]at h
  split at h<;>simp only[sJ,reduceCtorEq]at h
  rename_i x r' h1 h2
  subst h
  rcases hp with hp|hp<;>cases ps<;>simp only[bH]at hp⊢
  ·exact⟨pP h1 (.inl hp.1),jI h2 (.inl hp.2)⟩
  ·exact⟨pP h1 (.inr hp.1),jI h2 (.inr hp.2)⟩
end
def Hf:AB->AB->Option AB
 | .box a,.box b=>(match Fh a b with|some c=>some (.box c)|none=>none)
 | .arr sz l,.arr bB m=>if sz=bB then(match rD l m with|some r=>some (.arr sz r)|none=>none)else none
 |_,_=>none
theorem Ca {a b c:AB} {p:a9} (h:Hf a b=some c) (hp:gB a p∨gB b p):gB c p:=by
 cases a<;>cases b<;>simp only[Hf,reduceCtorEq]at h
 ·split at h<;>simp only[sJ,reduceCtorEq]at h
  rename_i r hr;subst h
  rcases hp with hp|hp<;>cases p<;>simp only[gB]at hp⊢
  ·exact pP hr (.inl hp)
  ·exact pP hr (.inr hp)
 ·split at h<;>(try simp only[reduceCtorEq]at h)
  rename_i e;subst e
  split at h<;>simp only[sJ,reduceCtorEq]at h
  rename_i r hr;subst h
  rcases hp with hp|hp<;>cases p<;>simp only[gB]at hp⊢
  ·exact⟨hp.1,jI hr (.inl hp.2)⟩
  ·exact⟨hp.1,jI hr (.inr hp.2)⟩
def mk {α β:Type} (f:Nat->Option β):List (Nat×α)->List (Nat×β)
 |[]=>[]
 |(k,_)::r=>match f k with|some b=>(k,b)::mk f r|none=>mk f r
theorem wh {α β:Type} {f:Nat->Option β}:∀ {l:List (Nat×α)} {k:Nat} {b:β},get (mk f l) k=some b->f k=some b
 |[],_,_,h=>by simp[mk,get]at h
 |
  (j,_)::r,k,b,h=>by
  simp only[mk]at h
  split at h
  ·rename_i b' hb
   simp only[get]at h
   split at h
   ·rename_i e;cases h;subst e;exact hb
   ·exact wh h
  ·exact wh h
theorem rE {α β:Type} {f:Nat->Option β}:∀ {l:List (Nat×α)} {k:Nat} {a:α} {b:β},get l k=some a->f k=some b->get (mk f l) k=some b
 |[],_,_,_,h,_=>by simp at h
 |
  (j,_)::r,k,a,b,h,hf=>by
  simp only[get]at h
  simp only[mk]
  split at h
  ·rename_i e;subst e
   rw[hf];simp
  ·rename_i e
   have:=rE (l:=r) h hf
   cases hj:f j with
   |none=>exact this
   |some x=>simp only[get];rw[if_neg e];exact this
def jB (σ τ:AS) (k:Nat):Option AB:=match get σ.bx k,get τ.bx k with|some a,some b=>Hf a b|_,_=>none
def jE (σ τ:AS) (k:Nat):Option AV:=match get σ.env k,get τ.env k with|some a,some b=>Fh a b|_,_=>none
def MZ (σ τ:AS):Option AS:=
 if(σ.bx.all λx=>(jB σ τ x.1).isSome)&&(τ.bx.all λx=>(get σ.bx x.1).isSome)then
  some {env:=mk (jE σ τ) σ.env,bx:=mk (jB σ τ) σ.bx}else none
theorem get_mem {α:Type}:∀ {l:List (Nat×α)} {k:Nat} {a:α},get l k=some a->(k,a)∈l
 |[],_,_,h=>by simp at h
 |
  (j,b)::r,k,a,h=>by
  simp only[get]at h
  split at h
  ·rename_i e;cases h;subst e;simp
  ·exact List.mem_cons_of_mem _ (get_mem h)
theorem Fi {σ τ ρ:AS} {s:St} (h:MZ σ τ=some ρ) (hs:gS σ s∨gS τ s):gS ρ s:=by
 unfold MZ at h
 split at h<;>simp only[sJ,reduceCtorEq]at h
 rename_i hc
 simp only[aJ,List.all_eq_true]at hc
 subst h
 have hse:uN s.env:=by rcases hs with hs|hs<;>exact hs.se
 have hsb:uN s.bx:=by rcases hs with hs|hs<;>exact hs.sb
 refine⟨λk a hk=> ?_,λk hk=> ?_,λk b hk=> ?_,hse,hsb⟩
 ·have:=wh hk
  unfold jE at this
  split at this
  ·rename_i x y h1 h2
   rcases hs with hs|hs
   ·obtain⟨p,g1,g2⟩:=hs.env k x h1
    exact⟨p,g1,pP this (.inl g2)⟩
   ·obtain⟨p,g1,g2⟩:=hs.env k y h2
    exact⟨p,g1,pP this (.inr g2)⟩
  ·simp at this
 ·have hn:get σ.bx k=none:=by
   cases hx:get σ.bx k with
   |none=>rfl
   |
    some b=>
    have h1:=hc.1 (k,b) (get_mem hx)
    obtain⟨c,h2⟩:=Option.isSome_iff_exists.1 h1
    have:=rE hx h2
    simp only at hk
    rw[hk]at this;cases this
  rcases hs with hs|hs
  ·exact hs.none k hn
  ·refine hs.none k ?_
   cases hx:get τ.bx k with
   |none=>rfl
   |
    some b=>
    have h1:=hc.2 (k,b) (get_mem hx)
    rw[hn]at h1;simp at h1
 ·have:=wh hk
  unfold jB at this
  split at this
  ·rename_i x y h1 h2
   rcases hs with hs|hs
   ·obtain⟨p,g1,g2⟩:=hs.bx k x h1
    exact⟨p,g1,Ca this (.inl g2)⟩
   ·obtain⟨p,g1,g2⟩:=hs.bx k y h2
    exact⟨p,g1,Ca this (.inr g2)⟩
  ·simp at this
def Fj (e:EX) (σ:AS):lG->lG
 |[]=>[(e,σ)]
 |(e',τ)::r=>if e=e' then(match MZ σ τ with|some ρ=>(e,ρ)::r|none=>(e',τ)::Fj e σ r)else(e',τ)::Fj e σ r
def O6:lG->lG
 |[]=>[]
 |(e,σ)::r=>Fj e σ (O6 r)
theorem In.cons {o:lG} {e e':EX} {s:St} {σ:AS} (h:In o e s):In ((e',σ)::o) e s:=by
 obtain⟨τ,h1,h2⟩:=h;exact⟨τ,List.mem_cons_of_mem _ h1,h2⟩
theorem Ak {e:EX} {σ:AS} {s:St} (h:gS σ s):∀o,In (Fj e σ o) e s
 |[]=>⟨σ,by simp[Fj],h⟩
 |
  (e',τ)::r=>by
  simp only[Fj]
  split
  ·split
   ·rename_i ρ hj
    exact⟨ρ,by simp,Fi hj (.inl h)⟩
   ·exact(Ak h r).cons
  ·exact(Ak h r).cons
theorem Al {e e0:EX} {σ:AS} {s:St}:∀ {o:lG},In o e0 s->In (Fj e σ o) e0 s
 |[],h=>by obtain⟨τ,h1,_⟩:=h;simp at h1
 |
  (e',τ)::r,h=>by
  obtain⟨ρ,h1,h2⟩:=h
  simp only[Fj]
  rcases List.mem_cons.1 h1 with h1|h1
  ·cases h1
   split
   ·rename_i he;subst he
    split
    ·rename_i ρ' hj
     exact⟨ρ',by simp,Fi hj (.inr h2)⟩
    ·exact⟨τ,by simp,h2⟩
   ·exact⟨τ,by simp,h2⟩
  ·split
   ·split
    ·exact⟨ρ,List.mem_cons_of_mem _ h1,h2⟩
    ·exact(Al ⟨ρ,h1,h2⟩).cons
   ·exact(Al ⟨ρ,h1,h2⟩).cons
theorem mV {e:EX} {s:St}:∀ {o:lG},In o e s->In (O6 o) e s
 |[],h=>h
 |
  (e',τ)::r,h=>by
  obtain⟨ρ,h1,h2⟩:=h
  simp only[O6]
  rcases List.mem_cons.1 h1 with h1|h1
  ·cases h1;exact Ak h2 _
  ·exact Al (mV ⟨ρ,h1,h2⟩)
def Dtm (P:Program) (c:cU) (s:St) (e:EX) (s':St):Prop:=∀Q:Exit->St->Prop,Q e.toE s'->aw P c Q s
mutual
def Gd (D:List Nat):AV->Bool
 | .bl _| .int .. | .str _| .np| .no=>true
 | .st _ l| .ar _ _ l| .sl _ l _| .tup l| .fp _ l _=>M0 D l
 | .rs k _ _ _ _ _ _| .pt k _ _=> !D.contains k
 | .gd _ v=>Gd D v
 | .un=>false
def M0 (D:List Nat):List AV->Bool
 |[]=>true
 |a::l=>Gd D a&&M0 D l
end
mutual
theorem Dm {D:List Nat} {k:Nat} (hk:k∈D):∀ {a:AV} {p:PV},gm a p->Gd D a=true->ab (λj=>decide (j≠k)) p=true
 | .bl _,p,h,_=>by cases p<;>simp only[gm]at h;rfl
 | .int ..,p,h,_=>by cases p<;>simp only[gm]at h;rfl
 | .str _,p,h,_=>by cases p<;>simp only[gm]at h;rfl
 | .np,p,h,_=>by simp only[gm]at h;subst h;rfl
 | .no,p,h,_=>by simp only[gm]at h;subst h;rfl
 | .st _ l,p,h,hp=>by cases p<;>simp only[gm]at h;simp only[ab];exact qD hk h.2 (by simpa[Gd]using hp)
 | .ar _ _ l,p,h,hp=>by cases p<;>simp only[gm]at h;simp only[ab];exact qD hk h.2 (by simpa[Gd]using hp)
 | .sl _ l _,p,h,hp=>by cases p<;>simp only[gm]at h;simp only[ab];exact qD hk h.2 (by simpa[Gd]using hp)
 | .fp _ l _,p,h,hp=>by cases p<;>simp only[gm]at h;simp only[ab];exact qD hk h.2 (by simpa[Gd]using hp)
 | .tup l,p,h,hp=>by cases p<;>simp only[gm]at h;simp only[ab];exact qD hk h (by simpa[Gd]using hp)
 |
  .rs k' _ _ _ _ _ _,p,h,hp=>by
  simp only[gm]at h;subst h
  simp only[ab,decide_eq_true_eq]
  rintro rfl;simp[Gd,hk]at hp
 |
  .pt k' _ _,p,h,hp=>by
  simp only[gm]at h;subst h
  simp only[ab,decide_eq_true_eq]
  rintro rfl;simp[Gd,hk]at hp
 | .gd _ v,p,h,hp=>by cases p<;>simp only[gm]at h;simp only[ab];exact Dm hk h.2 (by simpa[Gd]using hp)
 | .un,_,_,hp=>by simp[Gd]at hp
theorem qD {D:List Nat} {k:Nat} (hk:k∈D):∀ {l:List AV} {m:List PV},bH l m->M0 D l=true->ae (λj=>decide (j≠k)) m=true
 |[],[],_,_=>rfl
 |[],_::_,h,_=>by simp[bH]at h
 |_::_,[],h,_=>by simp[bH]at h
 |
  a::l,p::m,h,hp=>by
  simp only[bH]at h
  simp only[M0,aJ]at hp
  simp only[ae,aJ]
  exact⟨Dm hk h.1 hp.1,qD hk h.2 hp.2⟩
end
def QT (D:List Nat):AB->Bool
 | .box v=>Gd D v
 | .arr _ l=>M0 D l
theorem QU {D:List Nat} {k:Nat} (hk:k∈D) {b:AB} {blk:a9} (h:gB b blk) (hp:QT D b=true):af (λj=>decide (j≠k)) blk=true:=by
 cases b<;>cases blk<;>simp only[gB]at h<;>simp only[QT]at hp<;>simp only[af]
 ·exact Dm hk h hp
 ·exact qD hk h.2 hp
mutual
def rfA:AV->List Nat
 | .st _ l| .ar _ _ l| .sl _ l _| .tup l| .fp _ l _=>rfL l
 | .rs k _ _ _ _ _ _| .pt k _ _=>[k]
 | .gd _ v=>rfA v
 |_=>[]
def rfL:List AV->List Nat
 |[]=>[]
 |a::l=>rfA a++rfL l
end
def W4 (σ σ1:AS):Option AS:=
 let R:=σ.env.flatMap λx=>match get σ1.env x.1 with|some a=>rfA a|none=>[]
 let D:=(σ1.bx.filter λx=>(get σ.bx x.1).isNone&& !R.contains x.1).map (·.1)
 if(σ1.bx.all λx=>match get σ1.bx x.1 with|some b=>QT D b|none=>false)&&D.all (λk=>decide (k<KB))then
  some {
      env:=mk (λk=>match get σ1.env k with|some a=>if Gd D a=true then some a else none|none=>none) σ.env,
      bx:=mk (λk=>if D.contains k=true then none else get σ1.bx k) σ1.bx}
 else none
theorem Am {f:Nat->Bool}:∀ {l:List (Nat×PV)},(∀x∈l,ab f x.2=true)->bL f l=true
 |[],_=>rfl
 |(k,p)::r,h=>by simp only[bL,aJ];exact⟨h (k,p) (by simp),Am λx hx=>h x (by simp[hx])⟩
theorem Cb {f:Nat->Bool}:∀ {l:List (Nat×a9)},(∀x∈l,af f x.2=true)->cL f l=true
 |[],_=>rfl
 |(k,p)::r,h=>by simp only[cL,aJ];exact⟨h (k,p) (by simp),Cb λx hx=>h x (by simp[hx])⟩
theorem nU {α:Type} (sl:List Nat):∀(l:List (Nat×α)) (j:Nat),get (j6 sl l) j=if sl.contains j=true then get l j else none
 |[],j=>by simp[get]
 |
  (k,v)::r,j=>by
  simp only[j6]
  by_cases hk:sl.contains k=true
  ·rw[if_pos hk]
   simp only[get]
   by_cases e:k=j
   ·subst e;rw[if_pos rfl,if_pos rfl,if_pos hk]
   ·rw[if_neg e,if_neg e];exact nU sl r j
  ·rw[if_neg hk]
   simp only[get]
   by_cases e:k=j
   ·subst e;rw[nU sl r k,if_neg hk,if_neg hk]
   ·rw[if_neg e];exact nU sl r j
theorem uR {α:Type} {sl:List Nat}:∀ {l:List (Nat×α)},uN l->uN (j6 sl l)
 |[],_=>trivial
 |
  (k,v)::r,h=>by
  simp only[j6]
  split
  ·refine⟨λj x hj=> ?_,uR h.2⟩
   rw[nU]at hj
   split at hj
   ·exact h.1 j x hj
   ·simp at hj
  ·exact uR h.2
theorem uT {α:Type} {n:Nat}:∀ {l:List (Nat×α)},uN l->uN (del l n)
 |[],_=>trivial
 |
  (k,v)::r,h=>by
  simp only[del]
  split
  ·exact uT h.2
  ·refine⟨λj x hj=> ?_,uT h.2⟩
   rw[iC]at hj
   split at hj
   ·simp at hj
   ·exact h.1 j x hj
theorem T6 {D0:List Nat} {Q:Nat->PV->Prop}:∀(D:List Nat) (s:St),(∀k∈D,k<KB∧(∀x∈s.env,ab (λj=>decide (j≠k)) x.2=true)∧∀x∈s.bx,af (λj=>decide (j≠k)) x.2=true)->uN s.bx->
  ∃s',s'.env=s.env∧(∀k,get s'.bx k=if k∈D then none else get s.bx k)∧uN s'.bx∧∀K:St->Prop,K s'->gV (D.map .dr) s K
 |[],s,_,hs=>⟨s,rfl,by simp,hs,λK hK=>hK⟩
 |
  k::D,s,h,hs=>by
  obtain⟨h1,h2,h3⟩:=h k (by simp)
  have iZ:∀ {l:List (Nat×a9)} {x:Nat×a9},x∈del l k->x∈l:=by
   intro l
   induction l with
   |nil=>intro x hx;simp at hx
   |
    cons y r ih=>
    intro x hx
    obtain⟨j,b⟩:=y
    simp only[del]at hx
    split at hx
    ·exact List.mem_cons_of_mem _ (ih hx)
    ·rcases List.mem_cons.1 hx with rfl|hx
     ·simp
     ·exact List.mem_cons_of_mem _ (ih hx)
  obtain⟨s',e1,e2,e3,e4⟩:=T6 (D0:=D0) (Q:=Q) D {s with bx:=del s.bx k} (λj hj=>by
   obtain⟨g1,g2,g3⟩:=h j (by simp[hj])
   exact⟨g1,g2,λx hx=>g3 x (iZ hx)⟩) (uT hs)
  refine⟨s',e1,λj=> ?_,e3,λK hK=> ?_⟩
  ·rw[e2]
   simp only[iC,cJ]
   by_cases hj:j∈D
   ·simp[hj]
   ·by_cases sY:j=k
    ·simp[sY]
    ·simp[hj,sY]
  ·simp only[List.map_cons,gV,jo,dr1]
   exact⟨⟨Am h2,Cb λx hx=>h3 x (iZ hx),h1⟩,e4 K hK⟩
theorem QV {σ σ1 σ2:AS} {s:St} (h:gS σ1 s) (hc:W4 σ σ1=some σ2):∃c s',gS σ2 s'∧∀K:St->Prop,K s'->gV c s K:=by
 unfold W4 at hc
 simp only at hc
 generalize hD:(σ1.bx.filter λx=>(get σ.bx x.1).isNone&& !(σ.env.flatMap λx=>match get σ1.env x.1 with|some a=>rfA a|none=>[]).contains x.1).map (·.1)=D at hc
 split at hc<;>simp only[sJ,reduceCtorEq]at hc
 rename_i dO
 simp only[aJ,List.all_eq_true,decide_eq_true_eq]at dO
 generalize hE:mk (λk=>match get σ1.env k with|some a=>if Gd D a=true then some a else none|none=>none) σ.env=E at hc
 have hEg:∀k a,get E k=some a->get σ1.env k=some a∧Gd D a=true:=by
  intro k a hk
  rw[←hE]at hk
  have:=wh hk
  split at this
  ·rename_i a' ha
   split at this<;>simp only[sJ,reduceCtorEq]at this
   rename_i ho
   subst this
   exact⟨ha,ho⟩
  ·simp at this
 have VE:∀x∈s.bx,∃b,get σ1.bx x.1=some b∧gB b x.2∧QT D b=true:=by
  intro x hx
  have hg:=h.sb.mem (k:=x.1) (x:=x.2) hx
  cases hb:get σ1.bx x.1 with
  |none=>rw[h.none _ hb]at hg;cases hg
  |
   some b=>
   obtain⟨blk,g1,g2⟩:=h.bx _ _ hb
   rw[hg]at g1;cases g1
   refine⟨b,rfl,g2,?_⟩
   have:=dO.1 (x.1,b) (get_mem hb)
   simp only[hb]at this
   exact this
 have hdr:∀k∈D,k<KB∧(∀x∈j6 (E.map (·.1)) s.env,ab (λj=>decide (j≠k)) x.2=true)∧∀x∈s.bx,af (λj=>decide (j≠k)) x.2=true:=by
  intro k hk
  refine⟨dO.2 k hk,λx hx=> ?_,λx hx=> ?_⟩
  ·have hg:=(uR h.se).mem (k:=x.1) (x:=x.2) hx
   rw[nU]at hg
   split at hg
   ·rename_i w7
    simp only[List.contains_eq_mem,decide_eq_true_eq,List.mem_map]at w7
    obtain⟨y,hy,SW⟩:=w7
    cases hga:get E x.1 with
    |
     none=>
     exfalso
     have:∀ {l:List (Nat×AV)} {y:Nat×AV},y∈l->(get l y.1).isSome=true:=by
      intro l
      induction l with
      |nil=>intro y hy;simp at hy
      |
       cons z r ih=>
       intro y hy
       obtain⟨j,b⟩:=z
       simp only[get]
       split
       ·rfl
       ·rcases List.mem_cons.1 hy with rfl|hy
        ·rename_i fc;exact absurd rfl fc
        ·exact ih hy
     have:=this hy
     rw[SW,hga]at this
     simp at this
    |
     some a=>
     obtain⟨h1,h2⟩:=hEg _ _ hga
     obtain⟨p,h3,h4⟩:=h.env _ _ h1
     rw[hg]at h3;cases h3
     exact Dm hk h4 h2
   ·simp at hg
  ·obtain⟨b,h1,h2,h3⟩:=VE x hx
   exact QU hk h2 h3
 obtain⟨s',e1,e2,e3,e4⟩:=T6 (D0:=[]) (Q:=λ_ _=>True) D {s with env:=j6 (E.map (·.1)) s.env} hdr h.sb
 refine⟨.keep (E.map (·.1))::D.map .dr,s',?_,λK hK=>by simp only[gV,jo];exact e4 K hK⟩
 subst hc
 refine⟨λk a hk=> ?_,λk hk=> ?_,λk b hk=> ?_,by rw[e1];exact uR h.se,e3⟩
 ·obtain⟨h1,h2⟩:=hEg k a hk
  obtain⟨p,h3,h4⟩:=h.env k a h1
  refine⟨p,?_,h4⟩
  rw[e1,nU,if_pos,h3]
  simp only[List.contains_eq_mem,decide_eq_true_eq]
  exact List.mem_map.2 ⟨(k,a),get_mem hk,rfl⟩
 ·rw[e2]
  split
  ·rfl
  ·rename_i hkD
   refine h.none k ?_
   cases hb:get σ1.bx k with
   |none=>rfl
   |
    some b=>
    have:=rE (f:=λk=>if D.contains k=true then none else get σ1.bx k) hb (b:=b) (by simp[hkD,hb])
    simp only at hk
    rw[hk]at this;cases this
 ·have:=wh hk
  split at this
  ·simp at this
  ·rename_i hkD
   obtain⟨blk,g1,g2⟩:=h.bx k b this
   refine⟨blk,?_,g2⟩
   rw[e2,if_neg (by simpa using hkD)]
   exact g1
end Go.Ab
namespace Go.Ab
mutual
def pQ (k sz:Nat) (l0:List AV):AV->AV
 | .rs k' p off len aC bB c=>if k'=k then(if aC=l0.length∧p=[]∧bB=sz∧off+len≤l0.length then .sl sz ((l0.drop off).take len) (decide (c= .clip))else .un)else .rs k' p off len aC bB c
 | .pt k' p aC=>if k'=k then .un else .pt k' p aC
 | .st w l=> .st w (sO k sz l0 l)
 | .ar z n l=> .ar z n (sO k sz l0 l)
 | .tup l=> .tup (sO k sz l0 l)
 | .sl z l c=> .sl z (sO k sz l0 l) c
 | .fp z l p=> .fp z (sO k sz l0 l) p
 | .gd b p=> .gd b (pQ k sz l0 p)
 |p=>p
def sO (k sz:Nat) (l0:List AV):List AV->List AV
 |[]=>[]
 |p::l=>pQ k sz l0 p::sO k sz l0 l
end
def Ix (k sz:Nat) (l0:List AV):AB->AB
 | .box v=> .box (pQ k sz l0 v)
 | .arr z l=> .arr z (sO k sz l0 l)
variable {k sz:Nat} {l0:List AV} {m0:List PV}
mutual
theorem yx (h0:bH l0 m0):∀(a:AV) {p:PV},gm a p->gm (pQ k sz l0 a) (gh k sz m0 p)
 | .un,_,_=>by simp[pQ,gm]
 | .no,p,h=>by simp only[gm]at h;subst h;simp[pQ,gh,gm]
 | .bl _,p,h=>by cases p<;>simp only[gm]at h;simpa[pQ,gh,gm]using h
 | .int _ _,p,h=>by cases p<;>simp only[gm]at h;simpa[pQ,gh,gm]using h
 | .str _,p,h=>by cases p<;>simp only[gm]at h;simpa[pQ,gh,gm]using h
 | .st _ l,p,h=>by cases p<;>simp only[gm]at h;simp only[pQ,gh,gm];exact⟨h.1,oj h0 l h.2⟩
 | .ar _ _ l,p,h=>by cases p<;>simp only[gm]at h;simp only[pQ,gh,gm];exact⟨h.1,oj h0 l h.2⟩
 | .tup l,p,h=>by cases p<;>simp only[gm]at h;simp only[pQ,gh,gm];exact oj h0 l h
 | .sl _ l _,p,h=>by cases p<;>simp only[gm]at h;simp only[pQ,gh,gm];exact⟨h.1,oj h0 l h.2⟩
 | .fp _ l _,p,h=>by cases p<;>simp only[gm]at h;simp only[pQ,gh,gm];exact⟨h.1,oj h0 l h.2⟩
 | .np,p,h=>by simp only[gm]at h;subst h;simp[pQ,gh,gm]
 | .gd _ a,p,h=>by cases p<;>simp only[gm]at h;simp only[pQ,gh,gm];exact⟨h.1,yx h0 a h.2⟩
 |
  .pt _ _ _,p,h=>by
  simp only[gm]at h;subst h
  simp only[pQ,gh]
  split
  ·simp[gm]
  ·simp[gm]
 |
  .rs _ _ off len _ _ _,p,h=>by
  simp only[gm]at h;subst h
  simp only[pQ,gh,h0.length]
  split
  ·split
   ·simp only[gm,true_and];exact(h0.drop off).take len
   ·simp[gm]
  ·simp[gm]
theorem oj (h0:bH l0 m0):∀(l:List AV) {m:List PV},bH l m->bH (sO k sz l0 l) (gW k sz m0 m)
 |[],m,h=>by cases m<;>simp only[bH]at h;simp[sO,gW,bH]
 |a::l,m,h=>by cases m<;>simp only[bH]at h;simp only[sO,gW,bH];exact⟨yx h0 a h.1,oj h0 l h.2⟩
end
theorem M1 (h0:bH l0 m0) {b:AB} {blk:a9} (h:gB b blk):gB (Ix k sz l0 b) (tj k sz m0 blk):=by
 cases b<;>cases blk<;>simp only[gB]at h<;>simp only[Ix,tj,gB]
 ·exact yx h0 _ h
 ·exact⟨h.1,oj h0 _ h.2⟩
section
variable [eg]
theorem uN.iq {α:Type} (f:α->α):∀ {l:List (Nat×α)},uN l->uN (iq f l)
 |[],_=>trivial
 |
  (n,x)::r,h=>by
  refine⟨λj y hj=> ?_,uN.iq f h.2⟩
  rw[fG]at hj
  obtain⟨z,hz,_⟩:=Option.map_eq_some_iff.1 hj
  exact h.1 j z hz
mutual
def rsK:AV->List Nat
 | .rs k .. =>[k]
 | .st _ l| .ar _ _ l| .tup l| .sl _ l _=>W5 l
 | .gd _ p=>rsK p
 |_=>[]
def W5:List AV->List Nat
 |[]=>[]
 |p::l=>rsK p++W5 l
end
def M3:List Nat->AS->Option AS
 |[],σ=>some σ
 |
  k::r,σ=>match get σ.bx k with
  |some (.arr sz l)=>if lQ l=true∧k<KB then M3 r {env:=iq (pQ k sz l) σ.env,bx:=iq (Ix k sz l) (del σ.bx k)}else none
  |_=>none
theorem Iy:∀ {ks:List Nat} {σ σ':AS} {s:St},gS σ s->M3 ks σ=some σ'->∃s',gS σ' s'∧∀K:St->Prop,K s'->gV (ks.map .fz) s K
 |[],σ,σ',s,h,hr=>by simp only[M3,sJ]at hr;subst hr;exact⟨s,h,λK hK=>hK⟩
 |
  k::r,σ,σ',s,h,hr=>by
  simp only[M3]at hr
  split at hr<;>(try simp only[reduceCtorEq]at hr)
  rename_i sz l hb
  split at hr<;>(try simp only[reduceCtorEq]at hr)
  rename_i hc
  obtain⟨blk,b1,b2⟩:=h.bx _ _ hb
  cases blk<;>simp only[gB]at b2
  rename_i bB m
  obtain⟨rfl,b2⟩:=b2
  have hp:=b2.uM hc.1
  have hS:gS {env:=iq (pQ k bB l) σ.env,bx:=iq (Ix k bB l) (del σ.bx k)} {env:=iq (gh k bB m) s.env,bx:=iq (tj k bB m) (del s.bx k)}:= {
   env:=λj a hj=>by
    rw[fG]at hj
    obtain⟨z,hz,rfl⟩:=Option.map_eq_some_iff.1 hj
    obtain⟨p,p1,p2⟩:=h.env _ _ hz
    exact⟨_,by rw[fG,p1];rfl,yx b2 _ p2⟩
   none:=λj hj=>by
    rw[fG,iC]at hj⊢
    split at hj
    ·rename_i e;rw[if_pos e];rfl
    ·rename_i e;rw[if_neg e,h.none j (by simpa using hj)];rfl
   bx:=λj b hj=>by
    rw[fG,iC]at hj
    split at hj
    ·simp at hj
    ·rename_i e
     obtain⟨z,hz,rfl⟩:=Option.map_eq_some_iff.1 hj
     obtain⟨p,p1,p2⟩:=h.bx _ _ hz
     exact⟨_,by rw[fG,iC,if_neg e,p1];rfl,M1 b2 p2⟩
   se:=h.se.iq _
   sb:=(uT h.sb).iq _}
  obtain⟨s',g1,g2⟩:=Iy hS hr
  refine⟨s',g1,λK hK=> ?_⟩
  simp only[List.map_cons,gV,jo,VV,b1]
  exact⟨⟨hp.refs _,hc.2⟩,g2 K hK⟩
end
end Go.Ab
namespace Go.Ab
variable [eg]
variable {P:Program} [iE]
def nrm:lG->List AS
 |[]=>[]
 |(.nm,σ)::r=>σ::nrm r
 |_::r=>nrm r
def W6:lG->lG
 |[]=>[]
 |(.nm,_)::r=>W6 r
 |x::r=>x::W6 r
theorem M4 {s:St}:∀ {o:lG},In o .nm s->∃σ∈nrm o,gS σ s
 |[],h=>by obtain⟨σ,h1,_⟩:=h;simp at h1
 |
  (e,τ)::r,h=>by
  obtain⟨σ,h1,h2⟩:=h
  rcases List.mem_cons.1 h1 with h1|h1
  ·cases h1;exact⟨τ,by simp[nrm],h2⟩
  ·obtain⟨ρ,h3,h4⟩:=M4 ⟨σ,h1,h2⟩
   exact⟨ρ,by cases e<;>simp[nrm,h3],h4⟩
theorem M5 {e:EX} {s:St} (he:e≠ .nm):∀ {o:lG},In o e s->In (W6 o) e s
 |[],h=>h
 |
  (e',τ)::r,h=>by
  obtain⟨σ,h1,h2⟩:=h
  rcases List.mem_cons.1 h1 with h1|h1
  ·cases h1
   cases e with
   |nm=>exact absurd rfl he
   |rt=>exact⟨τ,by simp[W6],h2⟩
   |ex id=>exact⟨τ,by simp[W6],h2⟩
  ·have:=M5 he ⟨σ,h1,h2⟩
   cases e' with
   |nm=>exact this
   |rt=>exact this.cons
   |ex id=>exact this.cons
def uU (f:AS->Option lG):lG->Option lG
 |[]=>some []
 |(.nm,σ)::r=>(match f σ,uU f r with|some a,some b=>some (a++b)|_,_=>none)
 |x::r=>(match uU f r with|some b=>some (x::b)|none=>none)
theorem In.app {o o':lG} {e:EX} {s:St} (h:In o e s∨In o' e s):In (o++o') e s:=by
 rcases h with⟨σ,h1,h2⟩|⟨σ,h1,h2⟩
 ·exact⟨σ,List.mem_append.2 (.inl h1),h2⟩
 ·exact⟨σ,List.mem_append.2 (.inr h1),h2⟩
theorem An {f:AS->Option lG} {s:St}:∀ {o r:lG},uU f o=some r->In o .nm s->∃σ a,gS σ s∧f σ=some a∧∀e s',In a e s'->In r e s'
 |[],_,_,h=>by obtain⟨σ,h1,_⟩:=h;simp at h1
 |
  (e,τ)::o,r,hb,h=>by
  obtain⟨σ,h1,h2⟩:=h
  cases e with
  |
   nm=>
   simp only[uU]at hb
   split at hb<;>simp only[sJ,reduceCtorEq]at hb
   rename_i a b ha re
   subst hb
   rcases List.mem_cons.1 h1 with h1|h1
   ·cases h1;exact⟨τ,a,h2,ha,λe s' h=>In.app (.inl h)⟩
   ·obtain⟨σ',a',g1,g2,g3⟩:=An re ⟨σ,h1,h2⟩
    exact⟨σ',a',g1,g2,λe s' h=>In.app (.inr (g3 e s' h))⟩
  |
   _=>
   simp only[uU]at hb
   split at hb<;>simp only[sJ,reduceCtorEq]at hb
   rename_i b re
   subst hb
   rcases List.mem_cons.1 h1 with h1|h1
   ·cases h1
   ·obtain⟨σ',a',g1,g2,g3⟩:=An re ⟨σ,h1,h2⟩
    exact⟨σ',a',g1,g2,λe s' h=>(g3 e s' h).cons⟩
theorem wo {f:AS->Option lG} {s:St} {e:EX} (he:e≠ .nm):∀ {o r:lG},uU f o=some r->In o e s->In r e s
 |[],_,_,h=>by obtain⟨σ,h1,_⟩:=h;simp at h1
 |
  (e',τ)::o,r,hb,h=>by
  obtain⟨σ,h1,h2⟩:=h
  cases e' with
  |
   nm=>
   simp only[uU]at hb
   split at hb<;>simp only[sJ,reduceCtorEq]at hb
   rename_i a b ha re
   subst hb
   rcases List.mem_cons.1 h1 with h1|h1
   ·cases h1;exact absurd rfl he
   ·exact In.app (.inr (wo he re ⟨σ,h1,h2⟩))
  |
   _=>
   simp only[uU]at hb
   split at hb<;>simp only[sJ,reduceCtorEq]at hb
   rename_i b re
   subst hb
   rcases List.mem_cons.1 h1 with h1|h1
   ·cases h1;exact⟨τ,by simp,h2⟩
   ·exact(wo he re ⟨σ,h1,h2⟩).cons
def Iz (id:Nat):lG->lG
 |[]=>[]
 |(e,σ)::r=>((if e= .ex id then .nm else e),σ)::Iz id r
theorem Fk {id:Nat} {e:EX} {s:St}:∀ {o:lG},In o e s->In (Iz id o) (if e= .ex id then .nm else e) s
 |[],h=>by obtain⟨σ,h1,_⟩:=h;simp at h1
 |
  (e',τ)::r,h=>by
  obtain⟨σ,h1,h2⟩:=h
  rcases List.mem_cons.1 h1 with h1|h1
  ·cases h1;exact⟨τ,by simp[Iz],h2⟩
  ·exact(Fk ⟨σ,h1,h2⟩).cons
mutual
def qE (ρ:Nat->Nat):AV->AV
 | .rs k p o l t z c=> .rs (ρ k) p o l t z c
 | .pt k p t=> .pt (ρ k) p t
 | .st w l=> .st w (sP ρ l)
 | .ar z n l=> .ar z n (sP ρ l)
 | .tup l=> .tup (sP ρ l)
 | .sl z l c=> .sl z (sP ρ l) c
 | .fp z l p=> .fp z (sP ρ l) p
 | .gd b v=> .gd b (qE ρ v)
 |a=>a
def sP (ρ:Nat->Nat):List AV->List AV
 |[]=>[]
 |a::l=>qE ρ a::sP ρ l
end
mutual
theorem yy (ρ:Nat->Nat):∀ {a:AV} {p:PV},gm a p->gm (qE ρ a) (aF ρ p)
 | .un,_,_=>by simp only[qE,gm]
 | .no,p,h=>by simp only[gm]at h;subst h;simp only[qE,aF,gm]
 | .bl _,p,h=>by cases p<;>simp only[gm]at h;simpa only[qE,aF,gm]using h
 | .int _ _,p,h=>by cases p<;>simp only[gm]at h;simpa only[qE,aF,gm]using h
 | .str _,p,h=>by cases p<;>simp only[gm]at h;simpa only[qE,aF,gm]using h
 | .st _ l,p,h=>by cases p<;>simp only[gm]at h;simp only[qE,aF,gm];exact⟨h.1,om ρ h.2⟩
 | .ar _ _ l,p,h=>by cases p<;>simp only[gm]at h;simp only[qE,aF,gm];exact⟨h.1,om ρ h.2⟩
 | .tup l,p,h=>by cases p<;>simp only[gm]at h;simp only[qE,aF,gm];exact om ρ h
 | .sl _ l _,p,h=>by cases p<;>simp only[gm]at h;simp only[qE,aF,gm];exact⟨h.1,om ρ h.2⟩
 | .fp _ l _,p,h=>by cases p<;>simp only[gm]at h;simp only[qE,aF,gm];exact⟨h.1,om ρ h.2⟩
 | .rs ..,p,h=>by simp only[gm]at h;subst h;simp only[qE,aF,gm]
 | .pt ..,p,h=>by simp only[gm]at h;subst h;simp only[qE,aF,gm]
 | .np,p,h=>by simp only[gm]at h;subst h;simp only[qE,aF,gm]
 | .gd _ v,p,h=>by cases p<;>simp only[gm]at h;simp only[qE,aF,gm];exact⟨h.1,yy ρ h.2⟩
theorem om (ρ:Nat->Nat):∀ {l:List AV} {m:List PV},bH l m->bH (sP ρ l) (aK ρ m)
 |[],[],_=>by simp only[sP,aK,bH]
 |[],_::_,h=>by simp[bH]at h
 |_::_,[],h=>by simp[bH]at h
 |
  a::l,p::m,h=>by
  simp only[bH]at h
  simp only[sP,aK,bH]
  exact⟨yy ρ h.1,om ρ h.2⟩
end
def IA (ρ:Nat->Nat):AB->AB
 | .box v=> .box (qE ρ v)
 | .arr z l=> .arr z (sP ρ l)
theorem Fl (ρ:Nat->Nat) {b:AB} {blk:a9} (h:gB b blk):gB (IA ρ b) (a0 ρ blk):=by
 cases b<;>cases blk<;>simp only[gB]at h<;>simp only[IA,a0,gB]
 ·exact yy ρ h
 ·exact⟨h.1,om ρ h.2⟩
def mvA (k:Nat) (σ:AS):AS:=match get σ.bx k with
 |
  some b=>(match ([1,2,3,4,5,6,7].map λj=>k+1000*j).find? λj=>(get σ.bx j).isNone with
  |some k'=>if k<KB∧k'<KB∧k≠k'∧(get σ.bx k').isNone=true then {env:=iq (qE (tk k k')) σ.env,bx:=put (iq (IA (tk k k')) (del σ.bx k)) k' (IA (tk k k') b)}else σ
  |none=>σ)
 |none=>σ
theorem W7 {k:Nat} {σ:AS} {s:St} (h:gS σ s):∃c s',gS (mvA k σ) s'∧∀K:St->Prop,K s'->gV c s K:=by
 unfold mvA
 split
 ·rename_i b hb
  split
  ·rename_i k' F3
   split
   ·rename_i hc
    obtain⟨h1,h2,h3,h4⟩:=hc
    obtain⟨blk,b1,b2⟩:=h.bx _ _ hb
    have hn:get s.bx k'=none:=h.none _ (lR h4)
    refine⟨[.mv k k'],{env:=iq (aF (tk k k')) s.env,bx:=put (iq (a0 (tk k k')) (del s.bx k)) k' (a0 (tk k k') blk)},?_,λK hK=> ?_⟩
    ·exact {
      env:=λj a hj=>by
       rw[fG]at hj
       obtain⟨z,hz,rfl⟩:=Option.map_eq_some_iff.1 hj
       obtain⟨p,p1,p2⟩:=h.env _ _ hz
       exact⟨_,by rw[fG,p1];rfl,yy _ p2⟩
      none:=λj hj=>by
       rw[fg,fG,iC]at hj⊢
       by_cases e:k'=j
       ·rw[if_pos e]at hj;cases hj
       ·rw[if_neg e]at hj⊢
        by_cases e2:j=k
        ·rw[if_pos e2];rfl
        ·rw[if_neg e2]at hj⊢;rw[h.none j (by simpa using hj)];rfl
      bx:=λj c hj=>by
       rw[fg,fG,iC]at hj⊢
       by_cases e:k'=j
       ·rw[if_pos e]at hj⊢;cases hj;exact⟨_,rfl,Fl _ b2⟩
       ·rw[if_neg e]at hj⊢
        by_cases e2:j=k
        ·rw[if_pos e2]at hj;cases hj
        ·rw[if_neg e2]at hj⊢
         obtain⟨z,hz,rfl⟩:=Option.map_eq_some_iff.1 hj
         obtain⟨p,p1,p2⟩:=h.bx _ _ hz
         exact⟨_,by rw[p1];rfl,Fl _ p2⟩
      se:=h.se.iq _
      sb:=uN.put _ _ (uN.iq _ (uT h.sb))}
    ·simp only[gV,jo,VX,b1]
     exact⟨⟨hn,h1,h2,h3⟩,hK⟩
   ·exact⟨[],s,h,λK hK=>hK⟩
  ·exact⟨[],s,h,λK hK=>hK⟩
 ·exact⟨[],s,h,λK hK=>hK⟩
def W8:List Nat->AS->AS
 |[],σ=>σ
 |k::r,σ=>W8 r (mvA k σ)
theorem IB:∀ {l:List Nat} {σ:AS} {s:St},gS σ s->∃c s',gS (W8 l σ) s'∧∀K:St->Prop,K s'->gV c s K
 |[],σ,s,h=>⟨[],s,h,λK hK=>hK⟩
 |
  k::r,σ,s,h=>by
  obtain⟨c1,s1,g1,g2⟩:=W7 (k:=k) h
  obtain⟨c2,s2,g3,g4⟩:=IB (l:=r) g1
  refine⟨c1++c2,s2,g3,λK hK=> ?_⟩
  rw[kb]
  exact g2 _ (g4 K hK)
def aeK (σ σ2:AS):List Nat:=(σ2.bx.filter λx=>(get σ.bx x.1).isNone).map (·.1)
def Fm (f:AS->Option lG):Nat->AS->Option lG
 |0,_=>none
 |
  n+1,σ=>match f σ with
  |
   some o=>let m:=O6 o
   match nrm m with
   |[]=>some (W6 m)
   |
    [σ1]=>(match W4 σ σ1 with
    |some σ2=>(match Fm f n (W8 (aeK σ σ2) σ2)with|some r=>some (O6 (W6 m++r))|none=>none)
    |none=>none)
   |_=>none
  |none=>none
inductive W9 (P:Program) (x:cU):Nat->St->EX->St->Prop
 |fin {n s e s'}:e≠ .nm->Dtm P x s e s'->W9 P x n s e s'
 |more {n s s1 s2 e s'} {c:List Cut}:Dtm P x s .nm s1->(∀K:St->Prop,K s2->gV c s1 K)->W9 P x n s2 e s'->W9 P x (n+1) s e s'
theorem W9.aw {x:cU} {n:Nat} {s s':St} {e:EX} (h:W9 P x n s e s'):Dtm P (.loop x) s e s':=by
 intro Q hQ
 refine⟨λn s=>W9 P x n s e s',[],⟨n,h⟩,λn s h=> ?_⟩
 cases h with
 |
  fin he hd=>
  refine hd _ ?_
  cases e with
  |nm=>exact absurd rfl he
  |rt=>exact hQ
  |ex id=>exact hQ
 |more hd hc hr=>exact hd _ ⟨_,hc _ ⟨_,Nat.lt_succ_self _,hr⟩⟩
theorem Fo {f:AS->Option lG} {x:cU} (hf:∀σ o s,f σ=some o->gS σ s->∃e s',In o e s'∧Dtm P x s e s'):∀n {σ:AS} {o:lG} {s:St},Fm f n σ=some o->gS σ s->∃e s',In o e s'∧e≠ .nm∧∃m,W9 P x m s e s'
 |0,_,_,_,h,_=>by simp[Fm]at h
 |
  n+1,σ,o,s,h,hs=>by
  simp only[Fm]at h
  split at h<;>(try simp only[reduceCtorEq]at h)
  rename_i o1 h1
  obtain⟨e,s1,g1,g2⟩:=hf _ _ _ h1 hs
  have g1:=mV g1
  by_cases he:e= .nm
  ·subst he
   obtain⟨τ,t1,t2⟩:=M4 g1
   split at h<;>(try simp only[reduceCtorEq]at h)
   ·rename_i hn;rw[hn]at t1;simp at t1
   ·rename_i σ1 hn
    rw[hn]at t1
    simp only[List.mem_singleton]at t1
    subst t1
    split at h<;>(try simp only[reduceCtorEq]at h)
    rename_i σ2 hc
    split at h<;>simp only[sJ,reduceCtorEq]at h
    rename_i r hr
    subst h
    obtain⟨c,s2,c1,c2⟩:=QV t2 hc
    obtain⟨c',s3,c3,c4⟩:=IB (l:=aeK σ σ2) c1
    obtain⟨e,s',d1,d2,m,d3⟩:=Fo hf n hr c3
    exact⟨e,s',mV (In.app (.inr d1)),d2,m+1,.more (c:=c++c') g2 (λK hK=>by rw[kb];exact c2 _ (c4 K hK)) d3⟩
  ·have g3:=M5 he g1
   have g4:In o e s1:=by
    split at h<;>(try simp only[reduceCtorEq]at h)
    ·simp only[sJ]at h;subst h;exact g3
    ·split at h<;>(try simp only[reduceCtorEq]at h)
     split at h<;>simp only[sJ,reduceCtorEq]at h
     subst h
     exact mV (In.app (.inl g3))
   exact⟨e,s1,g4,he,0,.fin he g2⟩
def yz (SP:List Spec):cU->AS->Option lG
 | .skip,σ=>some [(.nm,σ)]
 | .region l,σ=>match MW SP σ l with|some σ'=>some [(.nm,σ')]|none=>none
 | .regionD l ord u,σ=>match W3 SP l u (900001::900002::drW SP l u σ ord) σ ord with|some σ'=>some [(.nm,σ')]|none=>none
 |
  .seq x y,σ=>match yz SP x σ with
  |some o=>(match uU (λτ=>yz SP y τ) (O6 o)with|some r=>some (O6 r)|none=>none)
  |none=>none
 |
  .cond c x y,σ=>match WV σ c with
  |some (.bl (some b))=>if b=true then yz SP x σ else yz SP y σ
  |some (.gd true (.bl (some b)))=>if b=true then yz SP x σ else yz SP y σ
  |some (.bl none)=>(match yz SP x σ,yz SP y σ with|some a,some b=>some (O6 (a++b))|_,_=>none)
  |some (.gd true (.bl none))=>(match yz SP x σ,yz SP y σ with|some a,some b=>some (O6 (a++b))|_,_=>none)
  |_=>none
 | .block id x,σ=>match yz SP x σ with|some o=>some (O6 (Iz id o))|none=>none
 | .loop x,σ=>Fm (λτ=>yz SP x τ) 400 σ
 | .exit id,σ=>some [(.ex id,σ)]
 | .ret,σ=>some [(.rt,σ)]
 |_,_=>none
theorem Xa {SP:List Spec} (hS:az P SP):∀(c:cU) {σ:AS} {o:lG} {s:St},yz SP c σ=some o->gS σ s->∃e s',In o e s'∧Dtm P c s e s':=by
 have one:∀ {c:cU} {σ:AS} {s:St} (e:EX),gS σ s->(∀Q:Exit->St->Prop,Q e.toE s->aw P c Q s)->∃e' s',In [(e,σ)] e' s'∧Dtm P c s e' s':=λe h hd=>⟨e,_,⟨_,by simp,h⟩,hd⟩
 intro c
 induction c with
 |skip=>intro σ o s h hs;simp only[yz,sJ]at h;subst h;exact one .nm hs λQ h=>h
 |exit id=>intro σ o s h hs;simp only[yz,sJ]at h;subst h;exact one (.ex id) hs λQ h=>h
 |ret=>intro σ o s h hs;simp only[yz,sJ]at h;subst h;exact one .rt hs λQ h=>h
 |
  region l=>
  intro σ o s h hs
  simp only[yz]at h
  split at h<;>simp only[sJ,reduceCtorEq]at h
  rename_i σ' h1
  subst h
  obtain⟨s',h2,h3⟩:=Iw hS hs h1
  exact⟨.nm,s',⟨σ',by simp,h2⟩,λQ hQ=>h3 _ hQ⟩
 |
  regionD l ord u=>
  intro σ o s h hs
  simp only[yz]at h
  split at h<;>simp only[sJ,reduceCtorEq]at h
  rename_i σ' h1
  subst h
  obtain⟨s',h2,h3⟩:=Dl hS rfl hs h1
  exact⟨.nm,s',⟨σ',by simp,h2⟩,λQ hQ=>⟨_,h3 _ hQ⟩⟩
 |
  seq x y ihx ihy=>
  intro σ o s h hs
  simp only[yz]at h
  split at h<;>(try simp only[reduceCtorEq]at h)
  rename_i o1 h1
  split at h<;>simp only[sJ,reduceCtorEq]at h
  rename_i r hr
  subst h
  obtain⟨e,s1,g1,g2⟩:=ihx h1 hs
  have g1:=mV g1
  by_cases he:e= .nm
  ·subst he
   obtain⟨τ,a,t1,t2,t3⟩:=An hr g1
   obtain⟨e,s2,k1,k2⟩:=ihy t2 t1
   exact⟨e,s2,mV (t3 _ _ k1),λQ hQ=>g2 _ (k2 _ hQ)⟩
  ·refine⟨e,s1,mV (wo he hr g1),λQ hQ=>g2 _ ?_⟩
   cases e with
   |nm=>exact absurd rfl he
   |rt=>exact hQ
   |ex id=>exact hQ
 |
  cond c x y ihx ihy=>
  intro σ o s h hs
  simp only[yz]at h
  split at h<;>(try simp only[reduceCtorEq]at h)
  ·rename_i b hb
   have hv:=kf hs hb
   cases HW:vx s c<;>rw[HW]at hv<;>simp only[gm]at hv
   have:=hv b rfl
   subst this
   rename_i b
   split at h
   ·rename_i e
    obtain⟨e',s1,g1,g2⟩:=ihx h hs
    exact⟨e',s1,g1,λQ hQ=>by simp only[aw,HW];exact⟨λ_=>g2 Q hQ,λh=>by rw[e]at h;cases h⟩⟩
   ·rename_i e
    obtain⟨e',s1,g1,g2⟩:=ihy h hs
    exact⟨e',s1,g1,λQ hQ=>by simp only[aw,HW];exact⟨λh=>absurd h e,λ_=>g2 Q hQ⟩⟩
  ·rename_i b hb
   have hv:=kf hs hb
   cases HW:vx s c<;>rw[HW]at hv<;>simp only[gm]at hv
   rename_i g q
   obtain⟨rfl,hv⟩:=hv
   cases q<;>simp only[gm]at hv
   rename_i b'
   have:=hv b rfl
   subst this
   split at h
   ·rename_i e
    obtain⟨e',s1,g1,g2⟩:=ihx h hs
    exact⟨e',s1,g1,λQ hQ=>by simp only[aw,HW];exact⟨trivial,λ_=>g2 Q hQ,λh=>by rw[e]at h;cases h⟩⟩
   ·rename_i e
    obtain⟨e',s1,g1,g2⟩:=ihy h hs
    exact⟨e',s1,g1,λQ hQ=>by simp only[aw,HW];exact⟨trivial,λh=>absurd h e,λ_=>g2 Q hQ⟩⟩
  ·rename_i hb
   have hv:=kf hs hb
   cases HW:vx s c<;>rw[HW]at hv<;>simp only[gm]at hv
   rename_i b
   split at h<;>simp only[sJ,reduceCtorEq]at h
   rename_i oa ob ha re
   subst h
   cases b with
   |
    true=>
    obtain⟨e',s1,g1,g2⟩:=ihx ha hs
    exact⟨e',s1,mV (In.app (.inl g1)),λQ hQ=>by simp only[aw,HW];exact⟨λ_=>g2 Q hQ,λh=>by cases h⟩⟩
   |
    false=>
    obtain⟨e',s1,g1,g2⟩:=ihy re hs
    exact⟨e',s1,mV (In.app (.inr g1)),λQ hQ=>by simp only[aw,HW];exact⟨(λh=>absurd h (by simp)),λ_=>g2 Q hQ⟩⟩
  ·rename_i hb
   have hv:=kf hs hb
   cases HW:vx s c<;>rw[HW]at hv<;>simp only[gm]at hv
   rename_i g q
   obtain⟨rfl,hv⟩:=hv
   cases q<;>simp only[gm]at hv
   rename_i b
   split at h<;>simp only[sJ,reduceCtorEq]at h
   rename_i oa ob ha re
   subst h
   cases b with
   |
    true=>
    obtain⟨e',s1,g1,g2⟩:=ihx ha hs
    exact⟨e',s1,mV (In.app (.inl g1)),λQ hQ=>by simp only[aw,HW];exact⟨trivial,λ_=>g2 Q hQ,λh=>by cases h⟩⟩
   |
    false=>
    obtain⟨e',s1,g1,g2⟩:=ihy re hs
    exact⟨e',s1,mV (In.app (.inr g1)),λQ hQ=>by simp only[aw,HW];exact⟨trivial,(λh=>absurd h (by simp)),λ_=>g2 Q hQ⟩⟩
 |
  block id x ih=>
  intro σ o s h hs
  simp only[yz]at h
  split at h<;>simp only[sJ,reduceCtorEq]at h
  rename_i o1 h1
  subst h
  obtain⟨e,s1,g1,g2⟩:=ih h1 hs
  refine⟨_,s1,mV (Fk (id:=id) g1),λQ hQ=> ?_⟩
  simp only[aw]
  refine g2 _ ?_
  cases e with
  |nm=>simpa[L6,EX.toE]using hQ
  |rt=>simpa[L6,EX.toE]using hQ
  |
   ex id'=>
   simp only[EX.toE,L6]
   by_cases e:id'=id
   ·subst e;simpa[EX.toE]using hQ
   ·rw[if_neg e]
    have:¬EX.ex id'=EX.ex id:=by simpa using e
    rw[if_neg this]at hQ
    exact hQ
 |
  loop x ih=>
  intro σ o s h hs
  simp only[yz]at h
  obtain⟨e,s',h1,h2,m,h3⟩:=Fo (P:=P) (x:=x) (λσ o s h hs=>ih h hs) 400 h hs
  exact⟨e,s',h1,h3.aw⟩
 |_=>intro σ o s h hs;simp[yz]at h
def Fp (σ:AS):List AK->Option (List AV)
 |[]=>some []
 |k::r=>match tT true σ k,Fp σ r with|some a,some l=>some (a::l)|_,_=>none
theorem yA {σ:AS} {s:St} (h:gS σ s):∀ {r:List AK} {l:List AV},Fp σ r=some l->∃ps,bH l ps∧∀K:List PV->Prop,K ps->EO s r K
 |[],l,hx=>by simp only[Fp,sJ]at hx;subst hx;exact⟨[],by simp[bH],λK hK=>hK⟩
 |
  k::r,l,hx=>by
  simp only[Fp]at hx
  split at hx<;>simp only[sJ,reduceCtorEq]at hx
  rename_i a l' h1 h2
  subst hx
  obtain⟨p,g1,g2⟩:=Ae h h1
  obtain⟨ps,g3,g4⟩:=yA h h2
  exact⟨p::ps,by simp only[bH];exact⟨g1,g3⟩,λK hK=>g2 _ (g4 _ hK)⟩
def Fq:List AV->AV
 |[p]=>p
 |ps=> .tup ps
def Fs:AV->Bool
 | .un| .no| .gd .. | .tup _=>false
 |_=>true
theorem M6 {a:AV} {p:PV} (h:gm a p) (hf:Fs a=true):p.flat=true:=by
 cases a<;>simp[Fs]at hf<;>cases p<;>simp[gm]at h<;>rfl
theorem Dn:∀ {l:List AV} {ps:List PV},bH l ps->gm (Fq l) (fa ps)
 |[],[],h=>by simp[Fq,fa,gm,bH]
 |[a],[p],h=>by simp only[bH]at h;exact h.1
 |a::b::l,p::q::ps,h=>by simp only[Fq,fa,gm];exact h
 |[],_::_,h=>by simp[bH]at h
 |_::_,[],h=>by simp[bH]at h
 |[_],_::_::_,h=>by simp[bH]at h
 |_::_::_,[_],h=>by simp[bH]at h
theorem wv:∀ {l:List AV} {ps:List PV},bH l ps->l.all Fs=true->ps.all PV.flat=true
 |[],[],_,_=>rfl
 |[],_::_,h,_=>by simp[bH]at h
 |_::_,[],h,_=>by simp[bH]at h
 |
  a::l,p::ps,h,hf=>by
  simp only[bH]at h
  simp only[List.all_cons,aJ]at hf⊢
  exact⟨M6 h.1 hf.1,wv h.2 hf.2⟩
def leR:AV->AV->Bool
 | .rs k [] o le t s c,.rs k' [] o' le' t' s' c'=>decide (k=k'∧o=o'∧le=le'∧t=t'∧s=s'∧c=c')
 |a,b=>J3 a b
def J8:List AV->List AV->Bool
 |[],[]=>true
 |a::l,b::m=>leR a b&&J8 l m
 |_,_=>false
def leG:AV->AV->Bool
 | .tup l,.tup m=>J8 l m
 |_,_=>false
theorem Xb {a b:AV} {p:PV} (h:leR a b=true) (hp:gm a p):gm b p:=by
 unfold leR at h
 split at h
 ·simp only[decide_eq_true_eq]at h
  obtain⟨rfl,rfl,rfl,rfl,rfl,rfl⟩:=h
  exact hp
 ·exact Hb h hp
theorem IC:∀ {l m:List AV} {ps:List PV},J8 l m=true->bH l ps->bH m ps
 |[],[],_,_,h=>h
 |[],_::_,_,h,_=>by simp[J8]at h
 |_::_,[],_,h,_=>by simp[J8]at h
 |a::l,b::m,[],_,h=>by simp[bH]at h
 |
  a::l,b::m,p::ps,h,hp=>by
  simp only[J8,aJ]at h
  simp only[bH]at hp⊢
  exact⟨Xb h.1 hp.1,IC h.2 hp.2⟩
theorem Xc {a b:AV} {p:PV} (h:leG a b=true) (hp:gm a p):gm b p:=by
 cases a<;>cases b<;>simp only[leG,fJ]at h
 cases p<;>simp only[gm]at hp⊢
 exact IC h hp
def gk:List AV->Option Nat
 |[]=>none
 | .rs k .. ::_=>some k
 |_::r=>gk r
def T7 (res:List AK) (r:SR):EX×AS->Bool
 |
  (e,σ)=>(match e with| .ex _=>false|_=>true)&&(match r with
  |
   .val a=>(match Fp σ res with
   |
    some l0=>(match M3 (dd (W5 l0)) σ with
    |
     some σ'=>(match Fp σ' res with
     |some l=>l.all Fs&&(Fq l).pO&&a.pO&&J3 (Fq l) a
     |none=>false)
    |none=>false)
   |none=>false)
  |
   .own bB m=>(match Fp σ res with
   |
    some [.rs k [] 0 len aC sz .tip]=>(match get σ.bx k with
    |some (.arr sz'' l)=>decide (sz=bB∧sz''=sz∧len=l.length∧aC=l.length)&&lQ l&&lQ m&&xN l m
    |_=>false)
   |_=>false)
  |
   .gen r bB m=>(match Fp σ res with
   |
    some l=>(match gk l with
    |
     some k=>(match get σ.bx k with
     |some (.arr sz'' c)=>decide (sz''=bB)&&l.all Fs&&J4 k (Fq l)&&J4 KB r&&lQ c&&lQ m&&xN c m&&leG (Gc KB (Fq l)) r
     |_=>false)
    |none=>false)
   |none=>false))
def J9:Nat->List AV->List (Nat×AV)
 |_,[]=>[]
 |i,p::r=>(i,p)::J9 (i+1) r
theorem ID:∀ {l:List AV} {ps:List PV} {i k:Nat} {a:AV},bH l ps->get (J9 i l) k=some a->∃p,get (au i ps) k=some p∧gm a p
 |[],_,_,_,_,_,h=>by simp[J9,get]at h
 |_::_,[],_,_,_,h,_=>by simp[bH]at h
 |
  b::l,p::ps,i,k,a,hg,h=>by
  simp only[bH]at hg
  simp only[J9,get]at h
  simp only[au,get]
  split at h
  ·rename_i e;cases h;exact⟨p,by rw[if_pos e],hg.1⟩
  ·rename_i e;rw[if_neg e];exact ID hg.2 h
theorem IE:∀(ps:List PV) (i:Nat),uN (au i ps)
 |[],_=>trivial
 |
  p::ps,i=>by
  refine⟨λj x hj=> ?_,IE ps (i+1)⟩
  rw[tt]at hj
  split at hj
  ·omega
  ·simp at hj
def Xe (SP:List Spec) (P:Program) (own sp:List Nat) (e:Spec):Bool:=
 match Ha P own sp e.f with
 |
  some A=>decide (e.args.length≤A.nt)&&(match yz SP A.code ⟨J9 0 e.args,[]⟩with
  |some o=>o.all (T7 A.res e.res)
  |none=>false)
 |none=>false
theorem M7 {own sp:List Nat} {f:FuncId} {A:di} (h:ka P own sp f=some A):ka P own sp f=some A.er:=by
 rw[h]
 unfold ka at h
 (repeat' split at h)<;>simp only[sJ,reduceCtorEq]at h
 subst h
 rename_i hc _
 simp only[di.er,B0 _ _ _ hc]
end Go.Ab
namespace Go.Ab
variable [eg]
variable {P:Program}
theorem ai {SP:List Spec} (hS:az P SP) {own sp:List Nat} {e:Spec} (h:Xe SP P own sp e=true):e.ok P:=by
 intro ps hg
 unfold Xe at h
 split at h
 case h_2=>simp at h
 rename_i A hA
 simp only[aJ,decide_eq_true_eq]at h
 obtain⟨hl,h⟩:=h
 split at h
 case h_2=>simp at h
 rename_i o ho
 have tU:ps.length≤A.nt:=by rw[hg.length];exact hl
 have h0:gS ⟨J9 0 e.args,[]⟩ ⟨au 0 ps,aG 0 []⟩:=⟨λk a hk=>ID hg hk,λk _=>rfl,λk b hk=>by simp[get]at hk,IE ps 0,trivial⟩
 obtain⟨ex,s',⟨σ,w7,hs⟩,hd⟩:=Xa hS A.code ho h0
 have dO:=List.all_eq_true.1 h _ w7
 unfold T7 at dO
 simp only[aJ]at dO
 obtain⟨hex,dO⟩:=dO
 have ht:ka P own sp e.f=some A.er:=M7 (by rw[QQ];exact hA)
 have Zo:∀ {R:PV->List a9->Prop},Mc 0 A.res R s'->ah P e.f ps [] R:=by
  intro R hR
  refine ah.intro ht tU (hd _ ?_)
  cases ex with
  |ex id=>simp at hex
  |nm=>exact hR
  |rt=>exact hR
 split at dO
 ·rename_i a hr
  split at dO
  case h_2=>simp at dO
  rename_i l0 KP
  split at dO
  case h_2=>simp at dO
  rename_i σ' hz
  split at dO
  case h_2=>simp at dO
  rename_i l rR
  simp only[aJ]at dO
  obtain⟨⟨⟨hf,hp⟩,hpa⟩,hle⟩:=dO
  obtain⟨s2,k1,k2⟩:=Iy hs hz
  obtain⟨qs,g1,g2⟩:=yA k1 rR
  have hv:=(Dn g1).pO hp
  rw[hr]
  refine⟨hpa,fa qs,Hb hle (Dn g1),Zo ⟨_,[],k2 _ ?_⟩⟩
  refine g2 _ ⟨[],⟨rfl,by simp,rfl⟩,⟨wv g1 hf,hv.refs _,rfl⟩,?_⟩
  rw[hv.aF]
  exact⟨rfl,rfl⟩
 ·rename_i bB m hr
  split at dO
  case h_2=>simp at dO
  rename_i k len aC sz rR
  split at dO
  ·rename_i sz'' l hb
   simp only[aJ,decide_eq_true_eq]at dO
   obtain⟨⟨⟨⟨rfl,rfl,rfl,rfl⟩,hp⟩,vz⟩,hle⟩:=dO
   obtain⟨qs,g1,g2⟩:=yA hs rR
   cases qs with
   |nil=>simp[bH]at g1
   |
    cons q qs=>
    simp only[bH]at g1
    obtain⟨g1,g3⟩:=g1
    cases qs with
    |cons _ _=>simp[bH]at g3
    |
     nil=>
     simp only[gm]at g1
     subst g1
     obtain⟨blk,b1,b2⟩:=hs.bx _ _ hb
     cases blk<;>simp only[gB]at b2
     rename_i sz3 x
     obtain⟨rfl,b2⟩:=b2
     have hx:=b2.uM hp
     have hlen:=b2.length
     rw[hr]
     refine⟨vz,x,oL hle b2,Zo ⟨[],[k],?_⟩⟩
     refine g2 _ ⟨[.arr _ x],⟨by simp only[getAll,b1];rfl,by simp,rfl⟩,⟨rfl,by simp[bg,idx],by simp[af,hx.refs]⟩,?_⟩
     simp only[fa,aF,List.map_cons,List.map_nil,a0,hx.aF,hlen]
     exact⟨by simp[aT,idx],by trivial⟩
  ·simp at dO
 ·rename_i r bB m hr
  split at dO
  case h_2=>simp at dO
  rename_i l rR
  split at dO
  case h_2=>simp at dO
  rename_i k hk
  split at dO
  case h_2=>simp at dO
  rename_i sz'' c hb
  simp only[aJ,decide_eq_true_eq]at dO
  obtain⟨⟨⟨⟨⟨⟨⟨rfl,hf⟩,ho⟩,hor⟩,hp⟩,vz⟩,hle⟩,auW⟩:=dO
  obtain⟨qs,g1,g2⟩:=yA hs rR
  have hT:=Dn g1
  obtain⟨blk,b1,b2⟩:=hs.bx _ _ hb
  cases blk<;>simp only[gB]at b2
  rename_i sz3 x
  obtain⟨rfl,b2⟩:=b2
  have hx:=b2.uM hp
  have e1:aT [k] k=KB:=by simp[aT,idx]
  have hg:gm (Gc KB (Fq l)) (aF (aT [k]) (fa qs)):=by
   have:=Dg (aT [k]) hT ho
   rwa [e1]at this
  rw[hr]
  refine⟨⟨hor,vz⟩,aF (aT [k]) (fa qs),x,Xc auW hg,oL hle b2,Zo ⟨[],[k],?_⟩⟩
  refine g2 _ ⟨[.arr _ x],⟨by simp only[getAll,b1];rfl,by simp,rfl⟩,⟨wv g1 hf,Ag (by simp[bg,idx]) hT ho,by simp[af,hx.refs]⟩,rfl,?_⟩
  simp only[List.map_cons,List.map_nil,a0,hx.aF]
theorem ax {P:Program} {SP:List Spec} {e:Spec} (hS:az P SP) (own sp:List Nat) (h:Xe SP P own sp e=true):az P (e::SP):= .cons (ai hS h) hS
end Go.Ab
