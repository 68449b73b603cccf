/- The reckoning, its end. No condition. -/
import Derived.Test.YtdfkcobijmbidaaGreatA7
set_option linter.all false
namespace Go.Ab
variable [eE]
variable {P:Program} [iZ]
inductive EX|nm|rt|ex (id:Nat)
 deriving DecidableEq
def EX.toE:EX->Exit
 | .nm=> .normal
 | .rt=> .ret
 | .ex id=> .exit id
abbrev me:=List (EX×AS)
def In (o:me) (e:EX) (s:St):Prop:=∃σ,(e,σ)∈o∧gS σ s
mutual
def F9:AV->AV->Option AV
 | .bl x,.bl y=>some (.bl (if x=y then x else none))
 | .int k n,.int k' m=>if k=k' then some (.int k (if n=m then n else none))else none
 | .str l,.str m=>if l=m then some (.str l)else none
 | .st w l,.st w' m=>if w=w' then(match sr l m with|some r=>some (.st w r)|none=>none)else none
 | .ar sz n l,.ar bL n' m=>if sz=bL∧n=n' then(match sr l m with|some r=>some (.ar sz n r)|none=>none)else none
 | .sl sz l c,.sl bL m c'=>if sz=bL∧c=c' then(match sr l m with|some r=>some (.sl sz r c)|none=>none)else none
 | .tup l,.tup m=>(match sr l m with|some r=>some (.tup r)|none=>none)
 | .rs k p off len aE sz c,.rs k' p' off' aww aaL bL c'=>if k=k'∧p=p'∧off=off'∧len=aww∧aE=aaL∧sz=bL∧c=c' then some (.rs k p off len aE sz c)else none
 | .pt k p aE,.pt k' p' aaL=>if k=k'∧p=p'∧aE=aaL then some (.pt k p aE)else none
 | .np,.np=>some .np
 | .no,.no=>some .no
 |_,_=>none
def sr:List AV->List AV->Option (List AV)
 |[],[]=>some []
 |a::l,b::m=>(match F9 a b,sr l m with|some x,some r=>some (x::r)|_,_=>none)
 |_,_=>none
end
mutual
theorem qz:∀ {a b c:AV} {p:PV},F9 a b=some c->gm a p∨gm b p->gm c p:=by
 intro a b c p h hp
 cases a<;>cases b<;>simp only[F9,reduceCtorEq,sJ]at h
 case bl.bl x y=>
  subst h
  rcases hp with hp|hp<;>cases p<;>simp only[gm]at hp⊢<;>intro z hz
  ·split at hz
   ·exact hp z hz
   ·simp at hz
  ·split at hz
   ·rename_i e;exact hp z (e▸hz)
   ·simp at hz
 case int.int k n k' m=>
  split at h<;>simp only[sJ,reduceCtorEq]at h
  rename_i e;subst h e
  rcases hp with hp|hp<;>cases p<;>simp only[gm]at hp⊢<;>refine⟨hp.1,λz hz=> ?_⟩
  ·split at hz
   ·exact hp.2 z hz
   ·simp at hz
  ·split at hz
   ·rename_i e;exact hp.2 z (e▸hz)
   ·simp at hz
 case str.str=>
  split at h<;>simp only[sJ,reduceCtorEq]at h
  rename_i e;subst h e
  rcases hp with hp|hp<;>exact hp
 case st.st w l w' m=>
  split at h<;>(try simp only[reduceCtorEq]at h)
  rename_i e;subst e
  split at h<;>simp only[sJ,reduceCtorEq]at h
  rename_i r hr;subst h
  rcases hp with hp|hp<;>cases p<;>simp only[gm]at hp⊢
  ·exact⟨hp.1,j8 hr (.inl hp.2)⟩
  ·exact⟨hp.1,j8 hr (.inr hp.2)⟩
 case ar.ar=>
  split at h<;>(try simp only[reduceCtorEq]at h)
  rename_i e;obtain⟨rfl,rfl⟩:=e
  split at h<;>simp only[sJ,reduceCtorEq]at h
  rename_i r hr;subst h
  rcases hp with hp|hp<;>cases p<;>simp only[gm]at hp⊢
  ·exact⟨hp.1,j8 hr (.inl hp.2)⟩
  ·exact⟨hp.1,j8 hr (.inr hp.2)⟩
 case sl.sl=>
  split at h<;>(try simp only[reduceCtorEq]at h)
  rename_i e;obtain⟨rfl,rfl⟩:=e
  split at h<;>simp only[sJ,reduceCtorEq]at h
  rename_i r hr;subst h
  rcases hp with hp|hp<;>cases p<;>simp only[gm]at hp⊢
  ·exact⟨hp.1,j8 hr (.inl hp.2)⟩
  ·exact⟨hp.1,j8 hr (.inr hp.2)⟩
 case tup.tup=>
  split at h<;>simp only[sJ,reduceCtorEq]at h
  rename_i r hr;subst h
  rcases hp with hp|hp<;>cases p<;>simp only[gm]at hp⊢
  ·exact j8 hr (.inl hp)
  ·exact j8 hr (.inr hp)
 case rs.rs=>
  split at h<;>simp only[sJ,reduceCtorEq]at h
  rename_i e;obtain⟨rfl,rfl,rfl,rfl,rfl,rfl,rfl⟩:=e;subst h
  rcases hp with hp|hp<;>exact hp
 case pt.pt=>
  split at h<;>simp only[sJ,reduceCtorEq]at h
  rename_i e;obtain⟨rfl,rfl,rfl⟩:=e;subst h
  rcases hp with hp|hp<;>exact hp
 case np.np=>subst h;rcases hp with hp|hp<;>exact hp
 case no.no=>subst h;rcases hp with hp|hp<;>exact hp
theorem j8:∀ {l m r:List AV} {ps:List PV},sr l m=some r->bT l ps∨bT m ps->bT r ps
 |[],[],r,ps,h,hp=>by simp only[sr,sJ]at h;subst h;rcases hp with hp|hp<;>exact hp
 |[],_::_,_,_,h,_=>by simp[sr]at h
 |_::_,[],_,_,h,_=>by simp[sr]at h
 |
  a::l,b::m,r,ps,h,hp=>by
  simp only[sr]at h
  split at h<;>simp only[sJ,reduceCtorEq]at h
  rename_i x r' h1 h2
  subst h
  rcases hp with hp|hp<;>cases ps<;>simp only[bT]at hp⊢
  ·exact⟨qz h1 (.inl hp.1),j8 h2 (.inl hp.2)⟩
  ·exact⟨qz h1 (.inr hp.1),j8 h2 (.inr hp.2)⟩
end
def HY:AB->AB->Option AB
 | .box a,.box b=>(match F9 a b with|some c=>some (.box c)|none=>none)
 | .arr sz l,.arr bL m=>if sz=bL then(match sr l m with|some r=>some (.arr sz r)|none=>none)else none
 |_,_=>none
theorem CV {a b c:AB} {p:bh} (h:HY a b=some c) (hp:gB a p∨gB b p):gB c p:=by
 cases a<;>cases b<;>simp only[HY,reduceCtorEq]at h
 ·split at h<;>simp only[sJ,reduceCtorEq]at h
  rename_i r hr;subst h
  rcases hp with hp|hp<;>cases p<;>simp only[gB]at hp⊢
  ·exact qz hr (.inl hp)
  ·exact qz hr (.inr hp)
 ·split at h<;>(try simp only[reduceCtorEq]at h)
  rename_i e;subst e
  split at h<;>simp only[sJ,reduceCtorEq]at h
  rename_i r hr;subst h
  rcases hp with hp|hp<;>cases p<;>simp only[gB]at hp⊢
  ·exact⟨hp.1,j8 hr (.inl hp.2)⟩
  ·exact⟨hp.1,j8 hr (.inr hp.2)⟩
def mk {α β:Type} (f:Nat->Option β):List (Nat×α)->List (Nat×β)
 |[]=>[]
 |(k,_)::r=>match f k with|some b=>(k,b)::mk f r|none=>mk f r
theorem xr {α β:Type} {f:Nat->Option β}:∀ {l:List (Nat×α)} {k:Nat} {b:β},get (mk f l) k=some b->f k=some b
 |[],_,_,h=>by simp[mk,get]at h
 |
  (j,_)::r,k,b,h=>by
  simp only[mk]at h
  split at h
  ·rename_i b' hb
   simp only[get]at h
   split at h
   ·rename_i e;cases h;subst e;exact hb
   ·exact xr h
  ·exact xr h
theorem ss {α β:Type} {f:Nat->Option β}:∀ {l:List (Nat×α)} {k:Nat} {a:α} {b:β},get l k=some a->f k=some b->get (mk f l) k=some b
 |[],_,_,_,h,_=>by simp at h
 |
  (j,_)::r,k,a,b,h,hf=>by
  simp only[get]at h
  simp only[mk]
  split at h
  ·rename_i e;subst e
   rw[hf];simp
  ·rename_i e
   have:=ss (l:=r) h hf
   cases hj:f j with
   |none=>exact this
   |some x=>simp only[get];rw[if_neg e];exact this
def jB (σ τ:AS) (k:Nat):Option AB:=match get σ.bx k,get τ.bx k with|some a,some b=>HY a b|_,_=>none
def jE (σ τ:AS) (k:Nat):Option AV:=match get σ.env k,get τ.env k with|some a,some b=>F9 a b|_,_=>none
def N0 (σ τ:AS):Option AS:=
 if(σ.bx.all λx=>(jB σ τ x.1).isSome)&&(τ.bx.all λx=>(get σ.bx x.1).isSome)then
  some {env:=mk (jE σ τ) σ.env,bx:=mk (jB σ τ) σ.bx}else none
theorem get_mem {α:Type}:∀ {l:List (Nat×α)} {k:Nat} {a:α},get l k=some a->(k,a)∈l
 |[],_,_,h=>by simp at h
 |
  (j,b)::r,k,a,h=>by
  simp only[get]at h
  split at h
  ·rename_i e;cases h;subst e;simp
  ·exact List.mem_cons_of_mem _ (get_mem h)
theorem Ga {σ τ ρ:AS} {s:St} (h:N0 σ τ=some ρ) (hs:gS σ s∨gS τ s):gS ρ s:=by
 unfold N0 at h
 split at h<;>simp only[sJ,reduceCtorEq]at h
 rename_i hc
 simp only[aJ,List.all_eq_true]at hc
 subst h
 have hse:vK s.env:=by rcases hs with hs|hs<;>exact hs.se
 have hsb:vK s.bx:=by rcases hs with hs|hs<;>exact hs.sb
 refine⟨λk a hk=> ?_,λk hk=> ?_,λk b hk=> ?_,hse,hsb⟩
 ·have:=xr hk
  unfold jE at this
  split at this
  ·rename_i x y h1 h2
   rcases hs with hs|hs
   ·obtain⟨p,g1,g2⟩:=hs.env k x h1
    exact⟨p,g1,qz this (.inl g2)⟩
   ·obtain⟨p,g1,g2⟩:=hs.env k y h2
    exact⟨p,g1,qz this (.inr g2)⟩
  ·simp at this
 ·have hn:get σ.bx k=none:=by
   cases hx:get σ.bx k with
   |none=>rfl
   |
    some b=>
    have h1:=hc.1 (k,b) (get_mem hx)
    obtain⟨c,h2⟩:=Option.isSome_iff_exists.1 h1
    have:=ss hx h2
    simp only at hk
    rw[hk]at this;cases this
  rcases hs with hs|hs
  ·exact hs.none k hn
  ·refine hs.none k ?_
   cases hx:get τ.bx k with
   |none=>rfl
   |
    some b=>
    have h1:=hc.2 (k,b) (get_mem hx)
    rw[hn]at h1;simp at h1
 ·have:=xr hk
  unfold jB at this
  split at this
  ·rename_i x y h1 h2
   rcases hs with hs|hs
   ·obtain⟨p,g1,g2⟩:=hs.bx k x h1
    exact⟨p,g1,CV this (.inl g2)⟩
   ·obtain⟨p,g1,g2⟩:=hs.bx k y h2
    exact⟨p,g1,CV this (.inr g2)⟩
  ·simp at this
def Gb (e:EX) (σ:AS):me->me
 |[]=>[(e,σ)]
 |(e',τ)::r=>if e=e' then(match N0 σ τ with|some ρ=>(e,ρ)::r|none=>(e',τ)::Gb e σ r)else(e',τ)::Gb e σ r
def P0:me->me
 |[]=>[]
 |(e,σ)::r=>Gb e σ (P0 r)
theorem In.cons {o:me} {e e':EX} {s:St} {σ:AS} (h:In o e s):In ((e',σ)::o) e s:=by
 obtain⟨τ,h1,h2⟩:=h;exact⟨τ,List.mem_cons_of_mem _ h1,h2⟩
theorem Bf {e:EX} {σ:AS} {s:St} (h:gS σ s):∀o,In (Gb e σ o) e s
 |[]=>⟨σ,by simp[Gb],h⟩
 |
  (e',τ)::r=>by
  simp only[Gb]
  split
  ·split
   ·rename_i ρ hj
    exact⟨ρ,by simp,Ga hj (.inl h)⟩
   ·exact(Bf h r).cons
  ·exact(Bf h r).cons
theorem Bg {e e0:EX} {σ:AS} {s:St}:∀ {o:me},In o e0 s->In (Gb e σ o) e0 s
 |[],h=>by obtain⟨τ,h1,_⟩:=h;simp at h1
 |
  (e',τ)::r,h=>by
  obtain⟨ρ,h1,h2⟩:=h
  simp only[Gb]
  rcases List.mem_cons.1 h1 with h1|h1
  ·cases h1
   split
   ·rename_i he;subst he
    split
    ·rename_i ρ' hj
     exact⟨ρ',by simp,Ga hj (.inr h2)⟩
    ·exact⟨τ,by simp,h2⟩
   ·exact⟨τ,by simp,h2⟩
  ·split
   ·split
    ·exact⟨ρ,List.mem_cons_of_mem _ h1,h2⟩
    ·exact(Bg ⟨ρ,h1,h2⟩).cons
   ·exact(Bg ⟨ρ,h1,h2⟩).cons
theorem nO {e:EX} {s:St}:∀ {o:me},In o e s->In (P0 o) e s
 |[],h=>h
 |
  (e',τ)::r,h=>by
  obtain⟨ρ,h1,h2⟩:=h
  simp only[P0]
  rcases List.mem_cons.1 h1 with h1|h1
  ·cases h1;exact Bf h2 _
  ·exact Bg (nO ⟨ρ,h1,h2⟩)
def Dtm (P:Program) (c:dc) (s:St) (e:EX) (s':St):Prop:=∀Q:Exit->St->Prop,Q e.toE s'->aw P c Q s
mutual
def G4 (D:List Nat):AV->Bool
 | .bl _| .int .. | .str _| .np| .no=>true
 | .st _ l| .ar _ _ l| .sl _ l _| .tup l| .fp _ l _=>N1 D l
 | .rs k _ _ _ _ _ _| .pt k _ _=> !D.contains k
 | .gd _ v=>G4 D v
 | .un=>false
def N1 (D:List Nat):List AV->Bool
 |[]=>true
 |a::l=>G4 D a&&N1 D l
end
mutual
theorem Ea {D:List Nat} {k:Nat} (hk:k∈D):∀ {a:AV} {p:PV},gm a p->G4 D a=true->ab (λj=>decide (j≠k)) p=true
 | .bl _,p,h,_=>by cases p<;>simp only[gm]at h;rfl
 | .int ..,p,h,_=>by cases p<;>simp only[gm]at h;rfl
 | .str _,p,h,_=>by cases p<;>simp only[gm]at h;rfl
 | .np,p,h,_=>by simp only[gm]at h;subst h;rfl
 | .no,p,h,_=>by simp only[gm]at h;subst h;rfl
 | .st _ l,p,h,hp=>by cases p<;>simp only[gm]at h;simp only[ab];exact rA hk h.2 (by simpa[G4]using hp)
 | .ar _ _ l,p,h,hp=>by cases p<;>simp only[gm]at h;simp only[ab];exact rA hk h.2 (by simpa[G4]using hp)
 | .sl _ l _,p,h,hp=>by cases p<;>simp only[gm]at h;simp only[ab];exact rA hk h.2 (by simpa[G4]using hp)
 | .fp _ l _,p,h,hp=>by cases p<;>simp only[gm]at h;simp only[ab];exact rA hk h.2 (by simpa[G4]using hp)
 | .tup l,p,h,hp=>by cases p<;>simp only[gm]at h;simp only[ab];exact rA hk h (by simpa[G4]using hp)
 |
  .rs k' _ _ _ _ _ _,p,h,hp=>by
  simp only[gm]at h;subst h
  simp only[ab,decide_eq_true_eq]
  rintro rfl;simp[G4,hk]at hp
 |
  .pt k' _ _,p,h,hp=>by
  simp only[gm]at h;subst h
  simp only[ab,decide_eq_true_eq]
  rintro rfl;simp[G4,hk]at hp
 | .gd _ v,p,h,hp=>by cases p<;>simp only[gm]at h;simp only[ab];exact Ea hk h.2 (by simpa[G4]using hp)
 | .un,_,_,hp=>by simp[G4]at hp
theorem rA {D:List Nat} {k:Nat} (hk:k∈D):∀ {l:List AV} {m:List PV},bT l m->N1 D l=true->ae (λj=>decide (j≠k)) m=true
 |[],[],_,_=>rfl
 |[],_::_,h,_=>by simp[bT]at h
 |_::_,[],h,_=>by simp[bT]at h
 |
  a::l,p::m,h,hp=>by
  simp only[bT]at h
  simp only[N1,aJ]at hp
  simp only[ae,aJ]
  exact⟨Ea hk h.1 hp.1,rA hk h.2 hp.2⟩
end
def RI (D:List Nat):AB->Bool
 | .box v=>G4 D v
 | .arr _ l=>N1 D l
theorem RJ {D:List Nat} {k:Nat} (hk:k∈D) {b:AB} {blk:bh} (h:gB b blk) (hp:RI D b=true):ah (λj=>decide (j≠k)) blk=true:=by
 cases b<;>cases blk<;>simp only[gB]at h<;>simp only[RI]at hp<;>simp only[ah]
 ·exact Ea hk h hp
 ·exact rA hk h.2 hp
mutual
def rfA:AV->List Nat
 | .st _ l| .ar _ _ l| .sl _ l _| .tup l| .fp _ l _=>rfL l
 | .rs k _ _ _ _ _ _| .pt k _ _=>[k]
 | .gd _ v=>rfA v
 |_=>[]
def rfL:List AV->List Nat
 |[]=>[]
 |a::l=>rfA a++rfL l
end
def X4 (σ σ1:AS):Option AS:=
 let R:=σ.env.flatMap λx=>match get σ1.env x.1 with|some a=>rfA a|none=>[]
 let D:=(σ1.bx.filter λx=>(get σ.bx x.1).isNone&& !R.contains x.1).map (·.1)
 if(σ1.bx.all λx=>match get σ1.bx x.1 with|some b=>RI D b|none=>false)&&D.all (λk=>decide (k<KB))then
  some {
      env:=mk (λk=>match get σ1.env k with|some a=>if G4 D a=true then some a else none|none=>none) σ.env,
      bx:=mk (λk=>if D.contains k=true then none else get σ1.bx k) σ1.bx}
 else none
theorem Bh {f:Nat->Bool}:∀ {l:List (Nat×PV)},(∀x∈l,ab f x.2=true)->cr f l=true
 |[],_=>rfl
 |(k,p)::r,h=>by simp only[cr,aJ];exact⟨h (k,p) (by simp),Bh λx hx=>h x (by simp[hx])⟩
theorem CW {f:Nat->Bool}:∀ {l:List (Nat×bh)},(∀x∈l,ah f x.2=true)->dx f l=true
 |[],_=>rfl
 |(k,p)::r,h=>by simp only[dx,aJ];exact⟨h (k,p) (by simp),CW λx hx=>h x (by simp[hx])⟩
theorem oC {α:Type} (sl:List Nat):∀(l:List (Nat×α)) (j:Nat),get (kE sl l) j=if sl.contains j=true then get l j else none
 |[],j=>by simp[get]
 |
  (k,v)::r,j=>by
  simp only[kE]
  by_cases hk:sl.contains k=true
  ·rw[if_pos hk]
   simp only[get]
   by_cases e:k=j
   ·subst e;rw[if_pos rfl,if_pos rfl,if_pos hk]
   ·rw[if_neg e,if_neg e];exact oC sl r j
  ·rw[if_neg hk]
   simp only[get]
   by_cases e:k=j
   ·subst e;rw[oC sl r k,if_neg hk,if_neg hk]
   ·rw[if_neg e];exact oC sl r j
theorem vO {α:Type} {sl:List Nat}:∀ {l:List (Nat×α)},vK l->vK (kE sl l)
 |[],_=>trivial
 |
  (k,v)::r,h=>by
  simp only[kE]
  split
  ·refine⟨λj x hj=> ?_,vO h.2⟩
   rw[oC]at hj
   split at hj
   ·exact h.1 j x hj
   ·simp at hj
  ·exact vO h.2
theorem vP {α:Type} {n:Nat}:∀ {l:List (Nat×α)},vK l->vK (del l n)
 |[],_=>trivial
 |
  (k,v)::r,h=>by
  simp only[del]
  split
  ·exact vP h.2
  ·refine⟨λj x hj=> ?_,vP h.2⟩
   rw[iX]at hj
   split at hj
   ·simp at hj
   ·exact h.1 j x hj
theorem UR {D0:List Nat} {Q:Nat->PV->Prop}:∀(D:List Nat) (s:St),(∀k∈D,k<KB∧(∀x∈s.env,ab (λj=>decide (j≠k)) x.2=true)∧∀x∈s.bx,ah (λj=>decide (j≠k)) x.2=true)->vK s.bx->
  ∃s',s'.env=s.env∧(∀k,get s'.bx k=if k∈D then none else get s.bx k)∧vK s'.bx∧∀K:St->Prop,K s'->iu (D.map .dr) s K
 |[],s,_,hs=>⟨s,rfl,by simp,hs,λK hK=>hK⟩
 |
  k::D,s,h,hs=>by
  obtain⟨h1,h2,h3⟩:=h k (by simp)
  have jz:∀ {l:List (Nat×bh)} {x:Nat×bh},x∈del l k->x∈l:=by
   intro l
   induction l with
   |nil=>intro x hx;simp at hx
   |
    cons y r ih=>
    intro x hx
    obtain⟨j,b⟩:=y
    simp only[del]at hx
    split at hx
    ·exact List.mem_cons_of_mem _ (ih hx)
    ·rcases List.mem_cons.1 hx with rfl|hx
     ·simp
     ·exact List.mem_cons_of_mem _ (ih hx)
  obtain⟨s',e1,e2,e3,e4⟩:=UR (D0:=D0) (Q:=Q) D {s with bx:=del s.bx k} (λj hj=>by
   obtain⟨g1,g2,g3⟩:=h j (by simp[hj])
   exact⟨g1,g2,λx hx=>g3 x (jz hx)⟩) (vP hs)
  refine⟨s',e1,λj=> ?_,e3,λK hK=> ?_⟩
  ·rw[e2]
   simp only[iX,cJ]
   by_cases hj:j∈D
   ·simp[hj]
   ·by_cases tL:j=k
    ·simp[tL]
    ·simp[hj,tL]
  ·simp only[List.map_cons,iu,jT,dr1]
   exact⟨⟨Bh h2,CW λx hx=>h3 x (jz hx),h1⟩,e4 K hK⟩
theorem RK {σ σ1 σ2:AS} {s:St} (h:gS σ1 s) (hc:X4 σ σ1=some σ2):∃c s',gS σ2 s'∧∀K:St->Prop,K s'->iu c s K:=by
 unfold X4 at hc
 simp only at hc
 generalize hD:(σ1.bx.filter λx=>(get σ.bx x.1).isNone&& !(σ.env.flatMap λx=>match get σ1.env x.1 with|some a=>rfA a|none=>[]).contains x.1).map (·.1)=D at hc
 split at hc<;>simp only[sJ,reduceCtorEq]at hc
 rename_i ed
 simp only[aJ,List.all_eq_true,decide_eq_true_eq]at ed
 generalize hE:mk (λk=>match get σ1.env k with|some a=>if G4 D a=true then some a else none|none=>none) σ.env=E at hc
 have hEg:∀k a,get E k=some a->get σ1.env k=some a∧G4 D a=true:=by
  intro k a hk
  rw[←hE]at hk
  have:=xr hk
  split at this
  ·rename_i a' ha
   split at this<;>simp only[sJ,reduceCtorEq]at this
   rename_i ho
   subst this
   exact⟨ha,ho⟩
  ·simp at this
 have WE:∀x∈s.bx,∃b,get σ1.bx x.1=some b∧gB b x.2∧RI D b=true:=by
  intro x hx
  have hg:=h.sb.mem (k:=x.1) (x:=x.2) hx
  cases hb:get σ1.bx x.1 with
  |none=>rw[h.none _ hb]at hg;cases hg
  |
   some b=>
   obtain⟨blk,g1,g2⟩:=h.bx _ _ hb
   rw[hg]at g1;cases g1
   refine⟨b,rfl,g2,?_⟩
   have:=ed.1 (x.1,b) (get_mem hb)
   simp only[hb]at this
   exact this
 have hdr:∀k∈D,k<KB∧(∀x∈kE (E.map (·.1)) s.env,ab (λj=>decide (j≠k)) x.2=true)∧∀x∈s.bx,ah (λj=>decide (j≠k)) x.2=true:=by
  intro k hk
  refine⟨ed.2 k hk,λx hx=> ?_,λx hx=> ?_⟩
  ·have hg:=(vO h.se).mem (k:=x.1) (x:=x.2) hx
   rw[oC]at hg
   split at hg
   ·rename_i yf
    simp only[List.contains_eq_mem,decide_eq_true_eq,List.mem_map]at yf
    obtain⟨y,hy,G9⟩:=yf
    cases hga:get E x.1 with
    |
     none=>
     exfalso
     have:∀ {l:List (Nat×AV)} {y:Nat×AV},y∈l->(get l y.1).isSome=true:=by
      intro l
      induction l with
      |nil=>intro y hy;simp at hy
      |
       cons z r ih=>
       intro y hy
       obtain⟨j,b⟩:=z
       simp only[get]
       split
       ·rfl
       ·rcases List.mem_cons.1 hy with rfl|hy
        ·rename_i fB;exact absurd rfl fB
        ·exact ih hy
     have:=this hy
     rw[G9,hga]at this
     simp at this
    |
     some a=>
     obtain⟨h1,h2⟩:=hEg _ _ hga
     obtain⟨p,h3,h4⟩:=h.env _ _ h1
     rw[hg]at h3;cases h3
     exact Ea hk h4 h2
   ·simp at hg
  ·obtain⟨b,h1,h2,h3⟩:=WE x hx
   exact RJ hk h2 h3
 obtain⟨s',e1,e2,e3,e4⟩:=UR (D0:=[]) (Q:=λ_ _=>True) D {s with env:=kE (E.map (·.1)) s.env} hdr h.sb
 refine⟨.keep (E.map (·.1))::D.map .dr,s',?_,λK hK=>by simp only[iu,jT];exact e4 K hK⟩
 subst hc
 refine⟨λk a hk=> ?_,λk hk=> ?_,λk b hk=> ?_,by rw[e1];exact vO h.se,e3⟩
 ·obtain⟨h1,h2⟩:=hEg k a hk
  obtain⟨p,h3,h4⟩:=h.env k a h1
  refine⟨p,?_,h4⟩
  rw[e1,oC,if_pos,h3]
  simp only[List.contains_eq_mem,decide_eq_true_eq]
  exact List.mem_map.2 ⟨(k,a),get_mem hk,rfl⟩
 ·rw[e2]
  split
  ·rfl
  ·rename_i hkD
   refine h.none k ?_
   cases hb:get σ1.bx k with
   |none=>rfl
   |
    some b=>
    have:=ss (f:=λk=>if D.contains k=true then none else get σ1.bx k) hb (b:=b) (by simp[hkD,hb])
    simp only at hk
    rw[hk]at this;cases this
 ·have:=xr hk
  split at this
  ·simp at this
  ·rename_i hkD
   obtain⟨blk,g1,g2⟩:=h.bx k b this
   refine⟨blk,?_,g2⟩
   rw[e2,if_neg (by simpa using hkD)]
   exact g1
end Go.Ab
namespace Go.Ab
mutual
def qA (k sz:Nat) (l0:List AV):AV->AV
 | .rs k' p off len aE bL c=>if k'=k then(if aE=l0.length∧p=[]∧bL=sz∧off+len≤l0.length then .sl sz ((l0.drop off).take len) (decide (c= .clip))else .un)else .rs k' p off len aE bL c
 | .pt k' p aE=>if k'=k then .un else .pt k' p aE
 | .st w l=> .st w (tD k sz l0 l)
 | .ar z n l=> .ar z n (tD k sz l0 l)
 | .tup l=> .tup (tD k sz l0 l)
 | .sl z l c=> .sl z (tD k sz l0 l) c
 | .fp z l p=> .fp z (tD k sz l0 l) p
 | .gd b p=> .gd b (qA k sz l0 p)
 |p=>p
def tD (k sz:Nat) (l0:List AV):List AV->List AV
 |[]=>[]
 |p::l=>qA k sz l0 p::tD k sz l0 l
end
def Jl (k sz:Nat) (l0:List AV):AB->AB
 | .box v=> .box (qA k sz l0 v)
 | .arr z l=> .arr z (tD k sz l0 l)
variable {k sz:Nat} {l0:List AV} {m0:List PV}
mutual
theorem zu (h0:bT l0 m0):∀(a:AV) {p:PV},gm a p->gm (qA k sz l0 a) (gq k sz m0 p)
 | .un,_,_=>by simp[qA,gm]
 | .no,p,h=>by simp only[gm]at h;subst h;simp[qA,gq,gm]
 | .bl _,p,h=>by cases p<;>simp only[gm]at h;simpa[qA,gq,gm]using h
 | .int _ _,p,h=>by cases p<;>simp only[gm]at h;simpa[qA,gq,gm]using h
 | .str _,p,h=>by cases p<;>simp only[gm]at h;simpa[qA,gq,gm]using h
 | .st _ l,p,h=>by cases p<;>simp only[gm]at h;simp only[qA,gq,gm];exact⟨h.1,oV h0 l h.2⟩
 | .ar _ _ l,p,h=>by cases p<;>simp only[gm]at h;simp only[qA,gq,gm];exact⟨h.1,oV h0 l h.2⟩
 | .tup l,p,h=>by cases p<;>simp only[gm]at h;simp only[qA,gq,gm];exact oV h0 l h
 | .sl _ l _,p,h=>by cases p<;>simp only[gm]at h;simp only[qA,gq,gm];exact⟨h.1,oV h0 l h.2⟩
 | .fp _ l _,p,h=>by cases p<;>simp only[gm]at h;simp only[qA,gq,gm];exact⟨h.1,oV h0 l h.2⟩
 | .np,p,h=>by simp only[gm]at h;subst h;simp[qA,gq,gm]
 | .gd _ a,p,h=>by cases p<;>simp only[gm]at h;simp only[qA,gq,gm];exact⟨h.1,zu h0 a h.2⟩
 |
  .pt _ _ _,p,h=>by
  simp only[gm]at h;subst h
  simp only[qA,gq]
  split
  ·simp[gm]
  ·simp[gm]
 |
  .rs _ _ off len _ _ _,p,h=>by
  simp only[gm]at h;subst h
  simp only[qA,gq,h0.length]
  split
  ·split
   ·simp only[gm,true_and];exact(h0.drop off).take len
   ·simp[gm]
  ·simp[gm]
theorem oV (h0:bT l0 m0):∀(l:List AV) {m:List PV},bT l m->bT (tD k sz l0 l) (im k sz m0 m)
 |[],m,h=>by cases m<;>simp only[bT]at h;simp[tD,im,bT]
 |a::l,m,h=>by cases m<;>simp only[bT]at h;simp only[tD,im,bT];exact⟨zu h0 a h.1,oV h0 l h.2⟩
end
theorem N3 (h0:bT l0 m0) {b:AB} {blk:bh} (h:gB b blk):gB (Jl k sz l0 b) (te k sz m0 blk):=by
 cases b<;>cases blk<;>simp only[gB]at h<;>simp only[Jl,te,gB]
 ·exact zu h0 _ h
 ·exact⟨h.1,oV h0 _ h.2⟩
section
variable [eE]
theorem vK.iC {α:Type} (f:α->α):∀ {l:List (Nat×α)},vK l->vK (iC f l)
 |[],_=>trivial
 |
  (n,x)::r,h=>by
  refine⟨λj y hj=> ?_,vK.iC f h.2⟩
  rw[fZ]at hj
  obtain⟨z,hz,_⟩:=Option.map_eq_some_iff.1 hj
  exact h.1 j z hz
mutual
def rsK:AV->List Nat
 | .rs k .. =>[k]
 | .st _ l| .ar _ _ l| .tup l| .sl _ l _=>X5 l
 | .gd _ p=>rsK p
 |_=>[]
def X5:List AV->List Nat
 |[]=>[]
 |p::l=>rsK p++X5 l
end
def N4:List Nat->AS->Option AS
 |[],σ=>some σ
 |
  k::r,σ=>match get σ.bx k with
  |some (.arr sz l)=>if my l=true∧k<KB then N4 r {env:=iC (qA k sz l) σ.env,bx:=iC (Jl k sz l) (del σ.bx k)}else none
  |_=>none
theorem Jm:∀ {ks:List Nat} {σ σ':AS} {s:St},gS σ s->N4 ks σ=some σ'->∃s',gS σ' s'∧∀K:St->Prop,K s'->iu (ks.map .fz) s K
 |[],σ,σ',s,h,hr=>by simp only[N4,sJ]at hr;subst hr;exact⟨s,h,λK hK=>hK⟩
 |
  k::r,σ,σ',s,h,hr=>by
  simp only[N4]at hr
  split at hr<;>(try simp only[reduceCtorEq]at hr)
  rename_i sz l hb
  split at hr<;>(try simp only[reduceCtorEq]at hr)
  rename_i hc
  obtain⟨blk,b1,b2⟩:=h.bx _ _ hb
  cases blk<;>simp only[gB]at b2
  rename_i bL m
  obtain⟨rfl,b2⟩:=b2
  have hp:=b2.vJ hc.1
  have hS:gS {env:=iC (qA k bL l) σ.env,bx:=iC (Jl k bL l) (del σ.bx k)} {env:=iC (gq k bL m) s.env,bx:=iC (te k bL m) (del s.bx k)}:= {
   env:=λj a hj=>by
    rw[fZ]at hj
    obtain⟨z,hz,rfl⟩:=Option.map_eq_some_iff.1 hj
    obtain⟨p,p1,p2⟩:=h.env _ _ hz
    exact⟨_,by rw[fZ,p1];rfl,zu b2 _ p2⟩
   none:=λj hj=>by
    rw[fZ,iX]at hj⊢
    split at hj
    ·rename_i e;rw[if_pos e];rfl
    ·rename_i e;rw[if_neg e,h.none j (by simpa using hj)];rfl
   bx:=λj b hj=>by
    rw[fZ,iX]at hj
    split at hj
    ·simp at hj
    ·rename_i e
     obtain⟨z,hz,rfl⟩:=Option.map_eq_some_iff.1 hj
     obtain⟨p,p1,p2⟩:=h.bx _ _ hz
     exact⟨_,by rw[fZ,iX,if_neg e,p1];rfl,N3 b2 p2⟩
   se:=h.se.iC _
   sb:=(vP h.sb).iC _}
  obtain⟨s',g1,g2⟩:=Jm hS hr
  refine⟨s',g1,λK hK=> ?_⟩
  simp only[List.map_cons,iu,jT,WV,b1]
  exact⟨⟨hp.refs _,hc.2⟩,g2 K hK⟩
end
end Go.Ab
namespace Go.Ab
variable [eE]
variable {P:Program} [iZ]
def nrm:me->List AS
 |[]=>[]
 |(.nm,σ)::r=>σ::nrm r
 |_::r=>nrm r
def X6:me->me
 |[]=>[]
 |(.nm,_)::r=>X6 r
 |x::r=>x::X6 r
theorem N5 {s:St}:∀ {o:me},In o .nm s->∃σ∈nrm o,gS σ s
 |[],h=>by obtain⟨σ,h1,_⟩:=h;simp at h1
 |
  (e,τ)::r,h=>by
  obtain⟨σ,h1,h2⟩:=h
  rcases List.mem_cons.1 h1 with h1|h1
  ·cases h1;exact⟨τ,by simp[nrm],h2⟩
  ·obtain⟨ρ,h3,h4⟩:=N5 ⟨σ,h1,h2⟩
   exact⟨ρ,by cases e<;>simp[nrm,h3],h4⟩
theorem N6 {e:EX} {s:St} (he:e≠ .nm):∀ {o:me},In o e s->In (X6 o) e s
 |[],h=>h
 |
  (e',τ)::r,h=>by
  obtain⟨σ,h1,h2⟩:=h
  rcases List.mem_cons.1 h1 with h1|h1
  ·cases h1
   cases e with
   |nm=>exact absurd rfl he
   |rt=>exact⟨τ,by simp[X6],h2⟩
   |ex id=>exact⟨τ,by simp[X6],h2⟩
  ·have:=N6 he ⟨σ,h1,h2⟩
   cases e' with
   |nm=>exact this
   |rt=>exact this.cons
   |ex id=>exact this.cons
def vQ (f:AS->Option me):me->Option me
 |[]=>some []
 |(.nm,σ)::r=>(match f σ,vQ f r with|some a,some b=>some (a++b)|_,_=>none)
 |x::r=>(match vQ f r with|some b=>some (x::b)|none=>none)
theorem In.app {o o':me} {e:EX} {s:St} (h:In o e s∨In o' e s):In (o++o') e s:=by
 rcases h with⟨σ,h1,h2⟩|⟨σ,h1,h2⟩
 ·exact⟨σ,List.mem_append.2 (.inl h1),h2⟩
 ·exact⟨σ,List.mem_append.2 (.inr h1),h2⟩
theorem Bi {f:AS->Option me} {s:St}:∀ {o r:me},vQ f o=some r->In o .nm s->∃σ a,gS σ s∧f σ=some a∧∀e s',In a e s'->In r e s'
 |[],_,_,h=>by obtain⟨σ,h1,_⟩:=h;simp at h1
 |
  (e,τ)::o,r,hb,h=>by
  obtain⟨σ,h1,h2⟩:=h
  cases e with
  |
   nm=>
   simp only[vQ]at hb
   split at hb<;>simp only[sJ,reduceCtorEq]at hb
   rename_i a b ha rX
   subst hb
   rcases List.mem_cons.1 h1 with h1|h1
   ·cases h1;exact⟨τ,a,h2,ha,λe s' h=>In.app (.inl h)⟩
   ·obtain⟨σ',a',g1,g2,g3⟩:=Bi rX ⟨σ,h1,h2⟩
    exact⟨σ',a',g1,g2,λe s' h=>In.app (.inr (g3 e s' h))⟩
  |
   _=>
   simp only[vQ]at hb
   split at hb<;>simp only[sJ,reduceCtorEq]at hb
   rename_i b rX
   subst hb
   rcases List.mem_cons.1 h1 with h1|h1
   ·cases h1
   ·obtain⟨σ',a',g1,g2,g3⟩:=Bi rX ⟨σ,h1,h2⟩
    exact⟨σ',a',g1,g2,λe s' h=>(g3 e s' h).cons⟩
theorem xt {f:AS->Option me} {s:St} {e:EX} (he:e≠ .nm):∀ {o r:me},vQ f o=some r->In o e s->In r e s
 |[],_,_,h=>by obtain⟨σ,h1,_⟩:=h;simp at h1
 |
  (e',τ)::o,r,hb,h=>by
  obtain⟨σ,h1,h2⟩:=h
  cases e' with
  |
   nm=>
   simp only[vQ]at hb
   split at hb<;>simp only[sJ,reduceCtorEq]at hb
   rename_i a b ha rX
   subst hb
   rcases List.mem_cons.1 h1 with h1|h1
   ·cases h1;exact absurd rfl he
   ·exact In.app (.inr (xt he rX ⟨σ,h1,h2⟩))
  |
   _=>
   simp only[vQ]at hb
   split at hb<;>simp only[sJ,reduceCtorEq]at hb
   rename_i b rX
   subst hb
   rcases List.mem_cons.1 h1 with h1|h1
   ·cases h1;exact⟨τ,by simp,h2⟩
   ·exact(xt he rX ⟨σ,h1,h2⟩).cons
def Jn (id:Nat):me->me
 |[]=>[]
 |(e,σ)::r=>((if e= .ex id then .nm else e),σ)::Jn id r
theorem Gc {id:Nat} {e:EX} {s:St}:∀ {o:me},In o e s->In (Jn id o) (if e= .ex id then .nm else e) s
 |[],h=>by obtain⟨σ,h1,_⟩:=h;simp at h1
 |
  (e',τ)::r,h=>by
  obtain⟨σ,h1,h2⟩:=h
  rcases List.mem_cons.1 h1 with h1|h1
  ·cases h1;exact⟨τ,by simp[Jn],h2⟩
  ·exact(Gc ⟨σ,h1,h2⟩).cons
mutual
def rB (ρ:Nat->Nat):AV->AV
 | .rs k p o l t z c=> .rs (ρ k) p o l t z c
 | .pt k p t=> .pt (ρ k) p t
 | .st w l=> .st w (tE ρ l)
 | .ar z n l=> .ar z n (tE ρ l)
 | .tup l=> .tup (tE ρ l)
 | .sl z l c=> .sl z (tE ρ l) c
 | .fp z l p=> .fp z (tE ρ l) p
 | .gd b v=> .gd b (rB ρ v)
 |a=>a
def tE (ρ:Nat->Nat):List AV->List AV
 |[]=>[]
 |a::l=>rB ρ a::tE ρ l
end
mutual
theorem zx (ρ:Nat->Nat):∀ {a:AV} {p:PV},gm a p->gm (rB ρ a) (aI ρ p)
 | .un,_,_=>by simp only[rB,gm]
 | .no,p,h=>by simp only[gm]at h;subst h;simp only[rB,aI,gm]
 | .bl _,p,h=>by cases p<;>simp only[gm]at h;simpa only[rB,aI,gm]using h
 | .int _ _,p,h=>by cases p<;>simp only[gm]at h;simpa only[rB,aI,gm]using h
 | .str _,p,h=>by cases p<;>simp only[gm]at h;simpa only[rB,aI,gm]using h
 | .st _ l,p,h=>by cases p<;>simp only[gm]at h;simp only[rB,aI,gm];exact⟨h.1,oW ρ h.2⟩
 | .ar _ _ l,p,h=>by cases p<;>simp only[gm]at h;simp only[rB,aI,gm];exact⟨h.1,oW ρ h.2⟩
 | .tup l,p,h=>by cases p<;>simp only[gm]at h;simp only[rB,aI,gm];exact oW ρ h
 | .sl _ l _,p,h=>by cases p<;>simp only[gm]at h;simp only[rB,aI,gm];exact⟨h.1,oW ρ h.2⟩
 | .fp _ l _,p,h=>by cases p<;>simp only[gm]at h;simp only[rB,aI,gm];exact⟨h.1,oW ρ h.2⟩
 | .rs ..,p,h=>by simp only[gm]at h;subst h;simp only[rB,aI,gm]
 | .pt ..,p,h=>by simp only[gm]at h;subst h;simp only[rB,aI,gm]
 | .np,p,h=>by simp only[gm]at h;subst h;simp only[rB,aI,gm]
 | .gd _ v,p,h=>by cases p<;>simp only[gm]at h;simp only[rB,aI,gm];exact⟨h.1,zx ρ h.2⟩
theorem oW (ρ:Nat->Nat):∀ {l:List AV} {m:List PV},bT l m->bT (tE ρ l) (aO ρ m)
 |[],[],_=>by simp only[tE,aO,bT]
 |[],_::_,h=>by simp[bT]at h
 |_::_,[],h=>by simp[bT]at h
 |
  a::l,p::m,h=>by
  simp only[bT]at h
  simp only[tE,aO,bT]
  exact⟨zx ρ h.1,oW ρ h.2⟩
end
def Jo (ρ:Nat->Nat):AB->AB
 | .box v=> .box (rB ρ v)
 | .arr z l=> .arr z (tE ρ l)
theorem Gd (ρ:Nat->Nat) {b:AB} {blk:bh} (h:gB b blk):gB (Jo ρ b) (aZ ρ blk):=by
 cases b<;>cases blk<;>simp only[gB]at h<;>simp only[Jo,aZ,gB]
 ·exact zx ρ h
 ·exact⟨h.1,oW ρ h.2⟩
def mvA (k:Nat) (σ:AS):AS:=match get σ.bx k with
 |
  some b=>(match ([1,2,3,4,5,6,7].map λj=>k+1000*j).find? λj=>(get σ.bx j).isNone with
  |some k'=>if k<KB∧k'<KB∧k≠k'∧(get σ.bx k').isNone=true then {env:=iC (rB (tY k k')) σ.env,bx:=put (iC (Jo (tY k k')) (del σ.bx k)) k' (Jo (tY k k') b)}else σ
  |none=>σ)
 |none=>σ
theorem X7 {k:Nat} {σ:AS} {s:St} (h:gS σ s):∃c s',gS (mvA k σ) s'∧∀K:St->Prop,K s'->iu c s K:=by
 unfold mvA
 split
 ·rename_i b hb
  split
  ·rename_i k' E1
   split
   ·rename_i hc
    obtain⟨h1,h2,h3,h4⟩:=hc
    obtain⟨blk,b1,b2⟩:=h.bx _ _ hb
    have hn:get s.bx k'=none:=h.none _ (mA h4)
    refine⟨[.mv k k'],{env:=iC (aI (tY k k')) s.env,bx:=put (iC (aZ (tY k k')) (del s.bx k)) k' (aZ (tY k k') blk)},?_,λK hK=> ?_⟩
    ·exact {
      env:=λj a hj=>by
       rw[fZ]at hj
       obtain⟨z,hz,rfl⟩:=Option.map_eq_some_iff.1 hj
       obtain⟨p,p1,p2⟩:=h.env _ _ hz
       exact⟨_,by rw[fZ,p1];rfl,zx _ p2⟩
      none:=λj hj=>by
       rw[fC,fZ,iX]at hj⊢
       by_cases e:k'=j
       ·rw[if_pos e]at hj;cases hj
       ·rw[if_neg e]at hj⊢
        by_cases e2:j=k
        ·rw[if_pos e2];rfl
        ·rw[if_neg e2]at hj⊢;rw[h.none j (by simpa using hj)];rfl
      bx:=λj c hj=>by
       rw[fC,fZ,iX]at hj⊢
       by_cases e:k'=j
       ·rw[if_pos e]at hj⊢;cases hj;exact⟨_,rfl,Gd _ b2⟩
       ·rw[if_neg e]at hj⊢
        by_cases e2:j=k
        ·rw[if_pos e2]at hj;cases hj
        ·rw[if_neg e2]at hj⊢
         obtain⟨z,hz,rfl⟩:=Option.map_eq_some_iff.1 hj
         obtain⟨p,p1,p2⟩:=h.bx _ _ hz
         exact⟨_,by rw[p1];rfl,Gd _ p2⟩
      se:=h.se.iC _
      sb:=vK.put _ _ (vK.iC _ (vP h.sb))}
    ·simp only[iu,jT,WX,b1]
     exact⟨⟨hn,h1,h2,h3⟩,hK⟩
   ·exact⟨[],s,h,λK hK=>hK⟩
  ·exact⟨[],s,h,λK hK=>hK⟩
 ·exact⟨[],s,h,λK hK=>hK⟩
def X8:List Nat->AS->AS
 |[],σ=>σ
 |k::r,σ=>X8 r (mvA k σ)
theorem Jp:∀ {l:List Nat} {σ:AS} {s:St},gS σ s->∃c s',gS (X8 l σ) s'∧∀K:St->Prop,K s'->iu c s K
 |[],σ,s,h=>⟨[],s,h,λK hK=>hK⟩
 |
  k::r,σ,s,h=>by
  obtain⟨c1,s1,g1,g2⟩:=X7 (k:=k) h
  obtain⟨c2,s2,g3,g4⟩:=Jp (l:=r) g1
  refine⟨c1++c2,s2,g3,λK hK=> ?_⟩
  rw[kK]
  exact g2 _ (g4 K hK)
def agh (σ σ2:AS):List Nat:=(σ2.bx.filter λx=>(get σ.bx x.1).isNone).map (·.1)
def Ge (f:AS->Option me):Nat->AS->Option me
 |0,_=>none
 |
  n+1,σ=>match f σ with
  |
   some o=>let m:=P0 o
   match nrm m with
   |[]=>some (X6 m)
   |
    [σ1]=>(match X4 σ σ1 with
    |some σ2=>(match Ge f n (X8 (agh σ σ2) σ2)with|some r=>some (P0 (X6 m++r))|none=>none)
    |none=>none)
   |_=>none
  |none=>none
inductive X9 (P:Program) (x:dc):Nat->St->EX->St->Prop
 |fin {n s e s'}:e≠ .nm->Dtm P x s e s'->X9 P x n s e s'
 |more {n s s1 s2 e s'} {c:List Cut}:Dtm P x s .nm s1->(∀K:St->Prop,K s2->iu c s1 K)->X9 P x n s2 e s'->X9 P x (n+1) s e s'
theorem X9.aw {x:dc} {n:Nat} {s s':St} {e:EX} (h:X9 P x n s e s'):Dtm P (.loop x) s e s':=by
 intro Q hQ
 refine⟨λn s=>X9 P x n s e s',[],⟨n,h⟩,λn s h=> ?_⟩
 cases h with
 |
  fin he hd=>
  refine hd _ ?_
  cases e with
  |nm=>exact absurd rfl he
  |rt=>exact hQ
  |ex id=>exact hQ
 |more hd hc hr=>exact hd _ ⟨_,hc _ ⟨_,Nat.lt_succ_self _,hr⟩⟩
theorem Gf {f:AS->Option me} {x:dc} (hf:∀σ o s,f σ=some o->gS σ s->∃e s',In o e s'∧Dtm P x s e s'):∀n {σ:AS} {o:me} {s:St},Ge f n σ=some o->gS σ s->∃e s',In o e s'∧e≠ .nm∧∃m,X9 P x m s e s'
 |0,_,_,_,h,_=>by simp[Ge]at h
 |
  n+1,σ,o,s,h,hs=>by
  simp only[Ge]at h
  split at h<;>(try simp only[reduceCtorEq]at h)
  rename_i o1 h1
  obtain⟨e,s1,g1,g2⟩:=hf _ _ _ h1 hs
  have g1:=nO g1
  by_cases he:e= .nm
  ·subst he
   obtain⟨τ,t1,t2⟩:=N5 g1
   split at h<;>(try simp only[reduceCtorEq]at h)
   ·rename_i hn;rw[hn]at t1;simp at t1
   ·rename_i σ1 hn
    rw[hn]at t1
    simp only[List.mem_singleton]at t1
    subst t1
    split at h<;>(try simp only[reduceCtorEq]at h)
    rename_i σ2 hc
    split at h<;>simp only[sJ,reduceCtorEq]at h
    rename_i r hr
    subst h
    obtain⟨c,s2,c1,c2⟩:=RK t2 hc
    obtain⟨c',s3,c3,c4⟩:=Jp (l:=agh σ σ2) c1
    obtain⟨e,s',d1,d2,m,d3⟩:=Gf hf n hr c3
    exact⟨e,s',nO (In.app (.inr d1)),d2,m+1,.more (c:=c++c') g2 (λK hK=>by rw[kK];exact c2 _ (c4 K hK)) d3⟩
  ·have g3:=N6 he g1
   have g4:In o e s1:=by
    split at h<;>(try simp only[reduceCtorEq]at h)
    ·simp only[sJ]at h;subst h;exact g3
    ·split at h<;>(try simp only[reduceCtorEq]at h)
     split at h<;>simp only[sJ,reduceCtorEq]at h
     subst h
     exact nO (In.app (.inl g3))
   exact⟨e,s1,g4,he,0,.fin he g2⟩
def zy (SP:List Spec):dc->AS->Option me
 | .skip,σ=>some [(.nm,σ)]
 | .region l,σ=>match NX SP σ l with|some σ'=>some [(.nm,σ')]|none=>none
 | .regionD l ord u,σ=>match X3 SP l u (900001::900002::drW SP l u σ ord) σ ord with|some σ'=>some [(.nm,σ')]|none=>none
 |
  .seq x y,σ=>match zy SP x σ with
  |some o=>(match vQ (λτ=>zy SP y τ) (P0 o)with|some r=>some (P0 r)|none=>none)
  |none=>none
 |
  .cond c x y,σ=>match XV σ c with
  |some (.bl (some b))=>if b=true then zy SP x σ else zy SP y σ
  |some (.gd true (.bl (some b)))=>if b=true then zy SP x σ else zy SP y σ
  |some (.bl none)=>(match zy SP x σ,zy SP y σ with|some a,some b=>some (P0 (a++b))|_,_=>none)
  |some (.gd true (.bl none))=>(match zy SP x σ,zy SP y σ with|some a,some b=>some (P0 (a++b))|_,_=>none)
  |_=>none
 | .block id x,σ=>match zy SP x σ with|some o=>some (P0 (Jn id o))|none=>none
 | .loop x,σ=>Ge (λτ=>zy SP x τ) 400 σ
 | .exit id,σ=>some [(.ex id,σ)]
 | .ret,σ=>some [(.rt,σ)]
 |_,_=>none
theorem Ya {SP:List Spec} (hS:aA P SP):∀(c:dc) {σ:AS} {o:me} {s:St},zy SP c σ=some o->gS σ s->∃e s',In o e s'∧Dtm P c s e s':=by
 have one:∀ {c:dc} {σ:AS} {s:St} (e:EX),gS σ s->(∀Q:Exit->St->Prop,Q e.toE s->aw P c Q s)->∃e' s',In [(e,σ)] e' s'∧Dtm P c s e' s':=λe h hd=>⟨e,_,⟨_,by simp,h⟩,hd⟩
 intro c
 induction c with
 |skip=>intro σ o s h hs;simp only[zy,sJ]at h;subst h;exact one .nm hs λQ h=>h
 |exit id=>intro σ o s h hs;simp only[zy,sJ]at h;subst h;exact one (.ex id) hs λQ h=>h
 |ret=>intro σ o s h hs;simp only[zy,sJ]at h;subst h;exact one .rt hs λQ h=>h
 |
  region l=>
  intro σ o s h hs
  simp only[zy]at h
  split at h<;>simp only[sJ,reduceCtorEq]at h
  rename_i σ' h1
  subst h
  obtain⟨s',h2,h3⟩:=Jk hS hs h1
  exact⟨.nm,s',⟨σ',by simp,h2⟩,λQ hQ=>h3 _ hQ⟩
 |
  regionD l ord u=>
  intro σ o s h hs
  simp only[zy]at h
  split at h<;>simp only[sJ,reduceCtorEq]at h
  rename_i σ' h1
  subst h
  obtain⟨s',h2,h3⟩:=D9 hS rfl hs h1
  exact⟨.nm,s',⟨σ',by simp,h2⟩,λQ hQ=>⟨_,h3 _ hQ⟩⟩
 |
  seq x y ihx ihy=>
  intro σ o s h hs
  simp only[zy]at h
  split at h<;>(try simp only[reduceCtorEq]at h)
  rename_i o1 h1
  split at h<;>simp only[sJ,reduceCtorEq]at h
  rename_i r hr
  subst h
  obtain⟨e,s1,g1,g2⟩:=ihx h1 hs
  have g1:=nO g1
  by_cases he:e= .nm
  ·subst he
   obtain⟨τ,a,t1,t2,t3⟩:=Bi hr g1
   obtain⟨e,s2,k1,k2⟩:=ihy t2 t1
   exact⟨e,s2,nO (t3 _ _ k1),λQ hQ=>g2 _ (k2 _ hQ)⟩
  ·refine⟨e,s1,nO (xt he hr g1),λQ hQ=>g2 _ ?_⟩
   cases e with
   |nm=>exact absurd rfl he
   |rt=>exact hQ
   |ex id=>exact hQ
 |
  cond c x y ihx ihy=>
  intro σ o s h hs
  simp only[zy]at h
  split at h<;>(try simp only[reduceCtorEq]at h)
  ·rename_i b hb
   have hv:=kM hs hb
   cases IN:vx s c<;>rw[IN]at hv<;>simp only[gm]at hv
   have:=hv b rfl
   subst this
   rename_i b
   split at h
   ·rename_i e
    obtain⟨e',s1,g1,g2⟩:=ihx h hs
    exact⟨e',s1,g1,λQ hQ=>by simp only[aw,IN];exact⟨λ_=>g2 Q hQ,λh=>by rw[e]at h;cases h⟩⟩
   ·rename_i e
    obtain⟨e',s1,g1,g2⟩:=ihy h hs
    exact⟨e',s1,g1,λQ hQ=>by simp only[aw,IN];exact⟨λh=>absurd h e,λ_=>g2 Q hQ⟩⟩
  ·rename_i b hb
   have hv:=kM hs hb
   cases IN:vx s c<;>rw[IN]at hv<;>simp only[gm]at hv
   rename_i g q
   obtain⟨rfl,hv⟩:=hv
   cases q<;>simp only[gm]at hv
   rename_i b'
   have:=hv b rfl
   subst this
   split at h
   ·rename_i e
    obtain⟨e',s1,g1,g2⟩:=ihx h hs
    exact⟨e',s1,g1,λQ hQ=>by simp only[aw,IN];exact⟨trivial,λ_=>g2 Q hQ,λh=>by rw[e]at h;cases h⟩⟩
   ·rename_i e
    obtain⟨e',s1,g1,g2⟩:=ihy h hs
    exact⟨e',s1,g1,λQ hQ=>by simp only[aw,IN];exact⟨trivial,λh=>absurd h e,λ_=>g2 Q hQ⟩⟩
  ·rename_i hb
   have hv:=kM hs hb
   cases IN:vx s c<;>rw[IN]at hv<;>simp only[gm]at hv
   rename_i b
   split at h<;>simp only[sJ,reduceCtorEq]at h
   rename_i oa ob ha rX
   subst h
   cases b with
   |
    true=>
    obtain⟨e',s1,g1,g2⟩:=ihx ha hs
    exact⟨e',s1,nO (In.app (.inl g1)),λQ hQ=>by simp only[aw,IN];exact⟨λ_=>g2 Q hQ,λh=>by cases h⟩⟩
   |
    false=>
    obtain⟨e',s1,g1,g2⟩:=ihy rX hs
    exact⟨e',s1,nO (In.app (.inr g1)),λQ hQ=>by simp only[aw,IN];exact⟨(λh=>absurd h (by simp)),λ_=>g2 Q hQ⟩⟩
  ·rename_i hb
   have hv:=kM hs hb
   cases IN:vx s c<;>rw[IN]at hv<;>simp only[gm]at hv
   rename_i g q
   obtain⟨rfl,hv⟩:=hv
   cases q<;>simp only[gm]at hv
   rename_i b
   split at h<;>simp only[sJ,reduceCtorEq]at h
   rename_i oa ob ha rX
   subst h
   cases b with
   |
    true=>
    obtain⟨e',s1,g1,g2⟩:=ihx ha hs
    exact⟨e',s1,nO (In.app (.inl g1)),λQ hQ=>by simp only[aw,IN];exact⟨trivial,λ_=>g2 Q hQ,λh=>by cases h⟩⟩
   |
    false=>
    obtain⟨e',s1,g1,g2⟩:=ihy rX hs
    exact⟨e',s1,nO (In.app (.inr g1)),λQ hQ=>by simp only[aw,IN];exact⟨trivial,(λh=>absurd h (by simp)),λ_=>g2 Q hQ⟩⟩
 |
  block id x ih=>
  intro σ o s h hs
  simp only[zy]at h
  split at h<;>simp only[sJ,reduceCtorEq]at h
  rename_i o1 h1
  subst h
  obtain⟨e,s1,g1,g2⟩:=ih h1 hs
  refine⟨_,s1,nO (Gc (id:=id) g1),λQ hQ=> ?_⟩
  simp only[aw]
  refine g2 _ ?_
  cases e with
  |nm=>simpa[M5,EX.toE]using hQ
  |rt=>simpa[M5,EX.toE]using hQ
  |
   ex id'=>
   simp only[EX.toE,M5]
   by_cases e:id'=id
   ·subst e;simpa[EX.toE]using hQ
   ·rw[if_neg e]
    have:¬EX.ex id'=EX.ex id:=by simpa using e
    rw[if_neg this]at hQ
    exact hQ
 |
  loop x ih=>
  intro σ o s h hs
  simp only[zy]at h
  obtain⟨e,s',h1,h2,m,h3⟩:=Gf (P:=P) (x:=x) (λσ o s h hs=>ih h hs) 400 h hs
  exact⟨e,s',h1,h3.aw⟩
 |_=>intro σ o s h hs;simp[zy]at h
def Gg (σ:AS):List AK->Option (List AV)
 |[]=>some []
 |k::r=>match uQ true σ k,Gg σ r with|some a,some l=>some (a::l)|_,_=>none
theorem zB {σ:AS} {s:St} (h:gS σ s):∀ {r:List AK} {l:List AV},Gg σ r=some l->∃ps,bT l ps∧∀K:List PV->Prop,K ps->FI s r K
 |[],l,hx=>by simp only[Gg,sJ]at hx;subst hx;exact⟨[],by simp[bT],λK hK=>hK⟩
 |
  k::r,l,hx=>by
  simp only[Gg]at hx
  split at hx<;>simp only[sJ,reduceCtorEq]at hx
  rename_i a l' h1 h2
  subst hx
  obtain⟨p,g1,g2⟩:=A8 h h1
  obtain⟨ps,g3,g4⟩:=zB h h2
  exact⟨p::ps,by simp only[bT];exact⟨g1,g3⟩,λK hK=>g2 _ (g4 _ hK)⟩
def Gh:List AV->AV
 |[p]=>p
 |ps=> .tup ps
def Gi:AV->Bool
 | .un| .no| .gd .. | .tup _=>false
 |_=>true
theorem N7 {a:AV} {p:PV} (h:gm a p) (hf:Gi a=true):p.flat=true:=by
 cases a<;>simp[Gi]at hf<;>cases p<;>simp[gm]at h<;>rfl
theorem Eb:∀ {l:List AV} {ps:List PV},bT l ps->gm (Gh l) (fx ps)
 |[],[],h=>by simp[Gh,fx,gm,bT]
 |[a],[p],h=>by simp only[bT]at h;exact h.1
 |a::b::l,p::q::ps,h=>by simp only[Gh,fx,gm];exact h
 |[],_::_,h=>by simp[bT]at h
 |_::_,[],h=>by simp[bT]at h
 |[_],_::_::_,h=>by simp[bT]at h
 |_::_::_,[_],h=>by simp[bT]at h
theorem xu:∀ {l:List AV} {ps:List PV},bT l ps->l.all Gi=true->ps.all PV.flat=true
 |[],[],_,_=>rfl
 |[],_::_,h,_=>by simp[bT]at h
 |_::_,[],h,_=>by simp[bT]at h
 |
  a::l,p::ps,h,hf=>by
  simp only[bT]at h
  simp only[List.all_cons,aJ]at hf⊢
  exact⟨N7 h.1 hf.1,xu h.2 hf.2⟩
def leR:AV->AV->Bool
 | .rs k [] o le t s c,.rs k' [] o' le' t' s' c'=>decide (k=k'∧o=o'∧le=le'∧t=t'∧s=s'∧c=c')
 |a,b=>KS a b
def KX:List AV->List AV->Bool
 |[],[]=>true
 |a::l,b::m=>leR a b&&KX l m
 |_,_=>false
def leG:AV->AV->Bool
 | .tup l,.tup m=>KX l m
 |_,_=>false
theorem Yb {a b:AV} {p:PV} (h:leR a b=true) (hp:gm a p):gm b p:=by
 unfold leR at h
 split at h
 ·simp only[decide_eq_true_eq]at h
  obtain⟨rfl,rfl,rfl,rfl,rfl,rfl⟩:=h
  exact hp
 ·exact HU h hp
theorem Jq:∀ {l m:List AV} {ps:List PV},KX l m=true->bT l ps->bT m ps
 |[],[],_,_,h=>h
 |[],_::_,_,h,_=>by simp[KX]at h
 |_::_,[],_,h,_=>by simp[KX]at h
 |a::l,b::m,[],_,h=>by simp[bT]at h
 |
  a::l,b::m,p::ps,h,hp=>by
  simp only[KX,aJ]at h
  simp only[bT]at hp⊢
  exact⟨Yb h.1 hp.1,Jq h.2 hp.2⟩
theorem Yc {a b:AV} {p:PV} (h:leG a b=true) (hp:gm a p):gm b p:=by
 cases a<;>cases b<;>simp only[leG,fJ]at h
 cases p<;>simp only[gm]at hp⊢
 exact Jq h hp
def gk:List AV->Option Nat
 |[]=>none
 | .rs k .. ::_=>some k
 |_::r=>gk r
def US (res:List AK) (r:SR):EX×AS->Bool
 |
  (e,σ)=>(match e with| .ex _=>false|_=>true)&&(match r with
  |
   .val a=>(match Gg σ res with
   |
    some l0=>(match N4 (dd (X5 l0)) σ with
    |
     some σ'=>(match Gg σ' res with
     |some l=>l.all Gi&&(Gh l).qy&&a.qy&&KS (Gh l) a
     |none=>false)
    |none=>false)
   |none=>false)
  |
   .own bL m=>(match Gg σ res with
   |
    some [.rs k [] 0 len aE sz .tip]=>(match get σ.bx k with
    |some (.arr sz'' l)=>decide (sz=bL∧sz''=sz∧len=l.length∧aE=l.length)&&my l&&my m&&yR l m
    |_=>false)
   |_=>false)
  |
   .gen r bL m=>(match Gg σ res with
   |
    some l=>(match gk l with
    |
     some k=>(match get σ.bx k with
     |some (.arr sz'' c)=>decide (sz''=bL)&&l.all Gi&&KT k (Gh l)&&KT KB r&&my c&&my m&&yR c m&&leG (G3 KB (Gh l)) r
     |_=>false)
    |none=>false)
   |none=>false))
def KY:Nat->List AV->List (Nat×AV)
 |_,[]=>[]
 |i,p::r=>(i,p)::KY (i+1) r
theorem Jr:∀ {l:List AV} {ps:List PV} {i k:Nat} {a:AV},bT l ps->get (KY i l) k=some a->∃p,get (an i ps) k=some p∧gm a p
 |[],_,_,_,_,_,h=>by simp[KY,get]at h
 |_::_,[],_,_,_,h,_=>by simp[bT]at h
 |
  b::l,p::ps,i,k,a,hg,h=>by
  simp only[bT]at hg
  simp only[KY,get]at h
  simp only[an,get]
  split at h
  ·rename_i e;cases h;exact⟨p,by rw[if_pos e],hg.1⟩
  ·rename_i e;rw[if_neg e];exact Jr hg.2 h
theorem Js:∀(ps:List PV) (i:Nat),vK (an i ps)
 |[],_=>trivial
 |
  p::ps,i=>by
  refine⟨λj x hj=> ?_,Js ps (i+1)⟩
  rw[ud]at hj
  split at hj
  ·omega
  ·simp at hj
def Yd (SP:List Spec) (P:Program) (own sp:List Nat) (e:Spec):Bool:=
 match HT P own sp e.f with
 |
  some A=>decide (e.args.length≤A.nt)&&(match zy SP A.code ⟨KY 0 e.args,[]⟩with
  |some o=>o.all (US A.res e.res)
  |none=>false)
 |none=>false
theorem N8 {own sp:List Nat} {f:FuncId} {A:cY} (h:kJ P own sp f=some A):kJ P own sp f=some A.er:=by
 rw[h]
 unfold kJ at h
 (repeat' split at h)<;>simp only[sJ,reduceCtorEq]at h
 subst h
 rename_i hc _
 simp only[cY.er,CM _ _ _ hc]
end Go.Ab
namespace Go.Ab
variable [eE]
variable {P:Program}
theorem ai {SP:List Spec} (hS:aA P SP) {own sp:List Nat} {e:Spec} (h:Yd SP P own sp e=true):e.ok P:=by
 intro ps hg
 unfold Yd at h
 split at h
 case h_2=>simp at h
 rename_i A hA
 simp only[aJ,decide_eq_true_eq]at h
 obtain⟨hl,h⟩:=h
 split at h
 case h_2=>simp at h
 rename_i o ho
 have tv:ps.length≤A.nt:=by rw[hg.length];exact hl
 have h0:gS ⟨KY 0 e.args,[]⟩ ⟨an 0 ps,aG 0 []⟩:=⟨λk a hk=>Jr hg hk,λk _=>rfl,λk b hk=>by simp[get]at hk,Js ps 0,trivial⟩
 obtain⟨ex,s',⟨σ,yf,hs⟩,hd⟩:=Ya hS A.code ho h0
 have ed:=List.all_eq_true.1 h _ yf
 unfold US at ed
 simp only[aJ]at ed
 obtain⟨hex,ed⟩:=ed
 have ht:kJ P own sp e.f=some A.er:=N8 (by rw[RE];exact hA)
 have aaM:∀ {R:PV->List bh->Prop},Nb 0 A.res R s'->af P e.f ps [] R:=by
  intro R hR
  refine af.intro ht tv (hd _ ?_)
  cases ex with
  |ex id=>simp at hex
  |nm=>exact hR
  |rt=>exact hR
 split at ed
 ·rename_i a hr
  split at ed
  case h_2=>simp at ed
  rename_i l0 LQ
  split at ed
  case h_2=>simp at ed
  rename_i σ' hz
  split at ed
  case h_2=>simp at ed
  rename_i l rT
  simp only[aJ]at ed
  obtain⟨⟨⟨hf,hp⟩,hpa⟩,hle⟩:=ed
  obtain⟨s2,k1,k2⟩:=Jm hs hz
  obtain⟨qs,g1,g2⟩:=zB k1 rT
  have hv:=(Eb g1).qy hp
  rw[hr]
  refine⟨hpa,fx qs,HU hle (Eb g1),aaM ⟨_,[],k2 _ ?_⟩⟩
  refine g2 _ ⟨[],⟨rfl,by simp,rfl⟩,⟨xu g1 hf,hv.refs _,rfl⟩,?_⟩
  rw[hv.aI]
  exact⟨rfl,rfl⟩
 ·rename_i bL m hr
  split at ed
  case h_2=>simp at ed
  rename_i k len aE sz rT
  split at ed
  ·rename_i sz'' l hb
   simp only[aJ,decide_eq_true_eq]at ed
   obtain⟨⟨⟨⟨rfl,rfl,rfl,rfl⟩,hp⟩,wK⟩,hle⟩:=ed
   obtain⟨qs,g1,g2⟩:=zB hs rT
   cases qs with
   |nil=>simp[bT]at g1
   |
    cons q qs=>
    simp only[bT]at g1
    obtain⟨g1,g3⟩:=g1
    cases qs with
    |cons _ _=>simp[bT]at g3
    |
     nil=>
     simp only[gm]at g1
     subst g1
     obtain⟨blk,b1,b2⟩:=hs.bx _ _ hb
     cases blk<;>simp only[gB]at b2
     rename_i sz3 x
     obtain⟨rfl,b2⟩:=b2
     have hx:=b2.vJ hp
     have hlen:=b2.length
     rw[hr]
     refine⟨wK,x,pI hle b2,aaM ⟨[],[k],?_⟩⟩
     refine g2 _ ⟨[.arr _ x],⟨by simp only[getAll,b1];rfl,by simp,rfl⟩,⟨rfl,by simp[bj,idx],by simp[ah,hx.refs]⟩,?_⟩
     simp only[fx,aI,List.map_cons,List.map_nil,aZ,hx.aI,hlen]
     exact⟨by simp[aV,idx],by trivial⟩
  ·simp at ed
 ·rename_i r bL m hr
  split at ed
  case h_2=>simp at ed
  rename_i l rT
  split at ed
  case h_2=>simp at ed
  rename_i k hk
  split at ed
  case h_2=>simp at ed
  rename_i sz'' c hb
  simp only[aJ,decide_eq_true_eq]at ed
  obtain⟨⟨⟨⟨⟨⟨⟨rfl,hf⟩,ho⟩,hor⟩,hp⟩,wK⟩,hle⟩,awy⟩:=ed
  obtain⟨qs,g1,g2⟩:=zB hs rT
  have hT:=Eb g1
  obtain⟨blk,b1,b2⟩:=hs.bx _ _ hb
  cases blk<;>simp only[gB]at b2
  rename_i sz3 x
  obtain⟨rfl,b2⟩:=b2
  have hx:=b2.vJ hp
  have e1:aV [k] k=KB:=by simp[aV,idx]
  have hg:gm (G3 KB (Gh l)) (aI (aV [k]) (fx qs)):=by
   have:=D6 (aV [k]) hT ho
   rwa [e1]at this
  rw[hr]
  refine⟨⟨hor,wK⟩,aI (aV [k]) (fx qs),x,Yc awy hg,pI hle b2,aaM ⟨[],[k],?_⟩⟩
  refine g2 _ ⟨[.arr _ x],⟨by simp only[getAll,b1];rfl,by simp,rfl⟩,⟨xu g1 hf,Ba (by simp[bj,idx]) hT ho,by simp[ah,hx.refs]⟩,rfl,?_⟩
  simp only[List.map_cons,List.map_nil,aZ,hx.aI]
theorem ax {P:Program} {SP:List Spec} {e:Spec} (hS:aA P SP) (own sp:List Nat) (h:Yd SP P own sp e=true):aA P (e::SP):= .cons (ai hS h) hS
end Go.Ab
