/- The reckoning, its end. No condition. -/
import Derived.Test.YtdfkcobijmbidaaGreatA7
set_option linter.all false
namespace Go.Ab
variable [Tabs]
variable {P : Program} [YCtx]
inductive EX | nm | rt | ex (id : Nat)
  deriving DecidableEq
def EX.toE : EX → Exit
  | .nm => .normal
  | .rt => .ret
  | .ex id => .exit id
abbrev Outs := List (EX × AS)
def In (o : Outs) (e : EX) (s : St) : Prop := ∃ σ, (e, σ) ∈ o ∧ gS σ s
mutual
def joinA : AV → AV → Option AV
  | .bl x, .bl y => some (.bl (if x = y then x else none))
  | .int k n, .int k' m => if k = k' then some (.int k (if n = m then n else none)) else none
  | .str l, .str m => if l = m then some (.str l) else none
  | .st w l, .st w' m => if w = w' then (match joinL l m with | some r => some (.st w r) | none => none) else none
  | .ar sz n l, .ar sz' n' m => if sz = sz' ∧ n = n' then (match joinL l m with | some r => some (.ar sz n r) | none => none) else none
  | .sl sz l c, .sl sz' m c' => if sz = sz' ∧ c = c' then (match joinL l m with | some r => some (.sl sz r c) | none => none) else none
  | .tup l, .tup m => (match joinL l m with | some r => some (.tup r) | none => none)
  | .rs k p off len tot sz c, .rs k' p' off' len' tot' sz' c' => if k = k' ∧ p = p' ∧ off = off' ∧ len = len' ∧ tot = tot' ∧ sz = sz' ∧ c = c' then some (.rs k p off len tot sz c) else none
  | .pt k p tot, .pt k' p' tot' => if k = k' ∧ p = p' ∧ tot = tot' then some (.pt k p tot) else none
  | .np, .np => some .np
  | .no, .no => some .no
  | _, _ => none
def joinL : List AV → List AV → Option (List AV)
  | [], [] => some []
  | a :: l, b :: m => (match joinA a b, joinL l m with | some x, some r => some (x :: r) | _, _ => none)
  | _, _ => none
end
mutual
theorem joinA_gm : ∀ {a b c : AV} {p : PV}, joinA a b = some c → gm a p ∨ gm b p → gm c p := by
  intro a b c p h hp
  cases a <;> cases b <;> simp only [joinA, reduceCtorEq, Option.some.injEq] at h
  case bl.bl x y =>
    subst h
    rcases hp with hp | hp <;> cases p <;> simp only [gm] at hp ⊢ <;> intro z hz
    · split at hz
      · exact hp z hz
      · simp at hz
    · split at hz
      · rename_i e; exact hp z (e ▸ hz)
      · simp at hz
  case int.int k n k' m =>
    split at h <;> simp only [Option.some.injEq, reduceCtorEq] at h
    rename_i e; subst h e
    rcases hp with hp | hp <;> cases p <;> simp only [gm] at hp ⊢ <;> refine ⟨hp.1, fun z hz => ?_⟩
    · split at hz
      · exact hp.2 z hz
      · simp at hz
    · split at hz
      · rename_i e; exact hp.2 z (e ▸ hz)
      · simp at hz
  case str.str =>
    split at h <;> simp only [Option.some.injEq, reduceCtorEq] at h
    rename_i e; subst h e
    rcases hp with hp | hp <;> exact hp
  case st.st w l w' m =>
    split at h <;> (try simp only [reduceCtorEq] at h)
    rename_i e; subst e
    split at h <;> simp only [Option.some.injEq, reduceCtorEq] at h
    rename_i r hr; subst h
    rcases hp with hp | hp <;> cases p <;> simp only [gm] at hp ⊢
    · exact ⟨hp.1, joinL_gm hr (.inl hp.2)⟩
    · exact ⟨hp.1, joinL_gm hr (.inr hp.2)⟩
  case ar.ar =>
    split at h <;> (try simp only [reduceCtorEq] at h)
    rename_i e; obtain ⟨rfl, rfl⟩ := e
    split at h <;> simp only [Option.some.injEq, reduceCtorEq] at h
    rename_i r hr; subst h
    rcases hp with hp | hp <;> cases p <;> simp only [gm] at hp ⊢
    · exact ⟨hp.1, joinL_gm hr (.inl hp.2)⟩
    · exact ⟨hp.1, joinL_gm hr (.inr hp.2)⟩
  case sl.sl =>
    split at h <;> (try simp only [reduceCtorEq] at h)
    rename_i e; obtain ⟨rfl, rfl⟩ := e
    split at h <;> simp only [Option.some.injEq, reduceCtorEq] at h
    rename_i r hr; subst h
    rcases hp with hp | hp <;> cases p <;> simp only [gm] at hp ⊢
    · exact ⟨hp.1, joinL_gm hr (.inl hp.2)⟩
    · exact ⟨hp.1, joinL_gm hr (.inr hp.2)⟩
  case tup.tup =>
    split at h <;> simp only [Option.some.injEq, reduceCtorEq] at h
    rename_i r hr; subst h
    rcases hp with hp | hp <;> cases p <;> simp only [gm] at hp ⊢
    · exact joinL_gm hr (.inl hp)
    · exact joinL_gm hr (.inr hp)
  case rs.rs =>
    split at h <;> simp only [Option.some.injEq, reduceCtorEq] at h
    rename_i e; obtain ⟨rfl, rfl, rfl, rfl, rfl, rfl, rfl⟩ := e; subst h
    rcases hp with hp | hp <;> exact hp
  case pt.pt =>
    split at h <;> simp only [Option.some.injEq, reduceCtorEq] at h
    rename_i e; obtain ⟨rfl, rfl, rfl⟩ := e; subst h
    rcases hp with hp | hp <;> exact hp
  case np.np => subst h; rcases hp with hp | hp <;> exact hp
  case no.no => subst h; rcases hp with hp | hp <;> exact hp
theorem joinL_gm : ∀ {l m r : List AV} {ps : List PV}, joinL l m = some r → gmL l ps ∨ gmL m ps → gmL r ps
  | [], [], r, ps, h, hp => by simp only [joinL, Option.some.injEq] at h; subst h; rcases hp with hp | hp <;> exact hp
  | [], _ :: _, _, _, h, _ => by simp [joinL] at h
  | _ :: _, [], _, _, h, _ => by simp [joinL] at h
  | a :: l, b :: m, r, ps, h, hp => by
    simp only [joinL] at h
    split at h <;> simp only [Option.some.injEq, reduceCtorEq] at h
    rename_i x r' h1 h2
    subst h
    rcases hp with hp | hp <;> cases ps <;> simp only [gmL] at hp ⊢
    · exact ⟨joinA_gm h1 (.inl hp.1), joinL_gm h2 (.inl hp.2)⟩
    · exact ⟨joinA_gm h1 (.inr hp.1), joinL_gm h2 (.inr hp.2)⟩
end
def joinAB : AB → AB → Option AB
  | .box a, .box b => (match joinA a b with | some c => some (.box c) | none => none)
  | .arr sz l, .arr sz' m => if sz = sz' then (match joinL l m with | some r => some (.arr sz r) | none => none) else none
  | _, _ => none
theorem joinAB_gm {a b c : AB} {p : Blk} (h : joinAB a b = some c) (hp : gB a p ∨ gB b p) : gB c p := by
  cases a <;> cases b <;> simp only [joinAB, reduceCtorEq] at h
  · split at h <;> simp only [Option.some.injEq, reduceCtorEq] at h
    rename_i r hr; subst h
    rcases hp with hp | hp <;> cases p <;> simp only [gB] at hp ⊢
    · exact joinA_gm hr (.inl hp)
    · exact joinA_gm hr (.inr hp)
  · split at h <;> (try simp only [reduceCtorEq] at h)
    rename_i e; subst e
    split at h <;> simp only [Option.some.injEq, reduceCtorEq] at h
    rename_i r hr; subst h
    rcases hp with hp | hp <;> cases p <;> simp only [gB] at hp ⊢
    · exact ⟨hp.1, joinL_gm hr (.inl hp.2)⟩
    · exact ⟨hp.1, joinL_gm hr (.inr hp.2)⟩
def mk {α β : Type} (f : Nat → Option β) : List (Nat × α) → List (Nat × β)
  | [] => []
  | (k, _) :: r => match f k with | some b => (k, b) :: mk f r | none => mk f r
theorem get_mk {α β : Type} {f : Nat → Option β} : ∀ {l : List (Nat × α)} {k : Nat} {b : β}, get (mk f l) k = some b → f k = some b
  | [], _, _, h => by simp [mk, get] at h
  | (j, _) :: r, k, b, h => by
    simp only [mk] at h
    split at h
    · rename_i b' hb
      simp only [get] at h
      split at h
      · rename_i e; cases h; subst e; exact hb
      · exact get_mk h
    · exact get_mk h
theorem get_mk_some {α β : Type} {f : Nat → Option β} : ∀ {l : List (Nat × α)} {k : Nat} {a : α} {b : β}, get l k = some a → f k = some b → get (mk f l) k = some b
  | [], _, _, _, h, _ => by simp [get] at h
  | (j, _) :: r, k, a, b, h, hf => by
    simp only [get] at h
    simp only [mk]
    split at h
    · rename_i e; subst e
      rw [hf]; simp [get]
    · rename_i e
      have := get_mk_some (l := r) h hf
      cases hj : f j with
      | none => exact this
      | some x => simp only [get]; rw [if_neg e]; exact this
def jB (σ τ : AS) (k : Nat) : Option AB := match get σ.bx k, get τ.bx k with | some a, some b => joinAB a b | _, _ => none
def jE (σ τ : AS) (k : Nat) : Option AV := match get σ.env k, get τ.env k with | some a, some b => joinA a b | _, _ => none
def joinS (σ τ : AS) : Option AS :=
  if (σ.bx.all fun x => (jB σ τ x.1).isSome) && (τ.bx.all fun x => (get σ.bx x.1).isSome) then
    some { env := mk (jE σ τ) σ.env, bx := mk (jB σ τ) σ.bx } else none
theorem get_mem {α : Type} : ∀ {l : List (Nat × α)} {k : Nat} {a : α}, get l k = some a → (k, a) ∈ l
  | [], _, _, h => by simp [get] at h
  | (j, b) :: r, k, a, h => by
    simp only [get] at h
    split at h
    · rename_i e; cases h; subst e; simp
    · exact List.mem_cons_of_mem _ (get_mem h)
theorem joinS_gm {σ τ ρ : AS} {s : St} (h : joinS σ τ = some ρ) (hs : gS σ s ∨ gS τ s) : gS ρ s := by
  unfold joinS at h
  split at h <;> simp only [Option.some.injEq, reduceCtorEq] at h
  rename_i hc
  simp only [Bool.and_eq_true, List.all_eq_true] at hc
  subst h
  have hse : Srt s.env := by rcases hs with hs | hs <;> exact hs.se
  have hsb : Srt s.bx := by rcases hs with hs | hs <;> exact hs.sb
  refine ⟨fun k a hk => ?_, fun k hk => ?_, fun k b hk => ?_, hse, hsb⟩
  · have := get_mk hk
    unfold jE at this
    split at this
    · rename_i x y h1 h2
      rcases hs with hs | hs
      · obtain ⟨p, g1, g2⟩ := hs.env k x h1
        exact ⟨p, g1, joinA_gm this (.inl g2)⟩
      · obtain ⟨p, g1, g2⟩ := hs.env k y h2
        exact ⟨p, g1, joinA_gm this (.inr g2)⟩
    · simp at this
  · have hn : get σ.bx k = none := by
      cases hx : get σ.bx k with
      | none => rfl
      | some b =>
        have h1 := hc.1 (k, b) (get_mem hx)
        obtain ⟨c, h2⟩ := Option.isSome_iff_exists.1 h1
        have := get_mk_some hx h2
        simp only at hk
        rw [hk] at this; cases this
    rcases hs with hs | hs
    · exact hs.none k hn
    · refine hs.none k ?_
      cases hx : get τ.bx k with
      | none => rfl
      | some b =>
        have h1 := hc.2 (k, b) (get_mem hx)
        rw [hn] at h1; simp at h1
  · have := get_mk hk
    unfold jB at this
    split at this
    · rename_i x y h1 h2
      rcases hs with hs | hs
      · obtain ⟨p, g1, g2⟩ := hs.bx k x h1
        exact ⟨p, g1, joinAB_gm this (.inl g2)⟩
      · obtain ⟨p, g1, g2⟩ := hs.bx k y h2
        exact ⟨p, g1, joinAB_gm this (.inr g2)⟩
    · simp at this
def insO (e : EX) (σ : AS) : Outs → Outs
  | [] => [(e, σ)]
  | (e', τ) :: r => if e = e' then (match joinS σ τ with | some ρ => (e, ρ) :: r | none => (e', τ) :: insO e σ r) else (e', τ) :: insO e σ r
def mrg : Outs → Outs
  | [] => []
  | (e, σ) :: r => insO e σ (mrg r)
theorem In.cons {o : Outs} {e e' : EX} {s : St} {σ : AS} (h : In o e s) : In ((e', σ) :: o) e s := by
  obtain ⟨τ, h1, h2⟩ := h; exact ⟨τ, List.mem_cons_of_mem _ h1, h2⟩
theorem insO_new {e : EX} {σ : AS} {s : St} (h : gS σ s) : ∀ o, In (insO e σ o) e s
  | [] => ⟨σ, by simp [insO], h⟩
  | (e', τ) :: r => by
    simp only [insO]
    split
    · split
      · rename_i ρ hj
        exact ⟨ρ, by simp, joinS_gm hj (.inl h)⟩
      · exact (insO_new h r).cons
    · exact (insO_new h r).cons
theorem insO_old {e e0 : EX} {σ : AS} {s : St} : ∀ {o : Outs}, In o e0 s → In (insO e σ o) e0 s
  | [], h => by obtain ⟨τ, h1, _⟩ := h; simp at h1
  | (e', τ) :: r, h => by
    obtain ⟨ρ, h1, h2⟩ := h
    simp only [insO]
    rcases List.mem_cons.1 h1 with h1 | h1
    · cases h1
      split
      · rename_i he; subst he
        split
        · rename_i ρ' hj
          exact ⟨ρ', by simp, joinS_gm hj (.inr h2)⟩
        · exact ⟨τ, by simp, h2⟩
      · exact ⟨τ, by simp, h2⟩
    · split
      · split
        · exact ⟨ρ, List.mem_cons_of_mem _ h1, h2⟩
        · exact (insO_old ⟨ρ, h1, h2⟩).cons
      · exact (insO_old ⟨ρ, h1, h2⟩).cons
theorem mrg_in {e : EX} {s : St} : ∀ {o : Outs}, In o e s → In (mrg o) e s
  | [], h => h
  | (e', τ) :: r, h => by
    obtain ⟨ρ, h1, h2⟩ := h
    simp only [mrg]
    rcases List.mem_cons.1 h1 with h1 | h1
    · cases h1; exact insO_new h2 _
    · exact insO_old (mrg_in ⟨ρ, h1, h2⟩)
def Dtm (P : Program) (c : ACode) (s : St) (e : EX) (s' : St) : Prop := ∀ Q : Exit → St → Prop, Q e.toE s' → aw P c Q s
mutual
def okR (D : List Nat) : AV → Bool
  | .bl _ | .int .. | .str _ | .np | .no => true
  | .st _ l | .ar _ _ l | .sl _ l _ | .tup l | .fp _ l _ => okRL D l
  | .rs k _ _ _ _ _ _ | .pt k _ _ => !D.contains k
  | .gd _ v => okR D v
  | .un => false
def okRL (D : List Nat) : List AV → Bool
  | [] => true
  | a :: l => okR D a && okRL D l
end
mutual
theorem okR_gm {D : List Nat} {k : Nat} (hk : k ∈ D) : ∀ {a : AV} {p : PV}, gm a p → okR D a = true → refsOk (fun j => decide (j ≠ k)) p = true
  | .bl _, p, h, _ => by cases p <;> simp only [gm] at h; rfl
  | .int .., p, h, _ => by cases p <;> simp only [gm] at h; rfl
  | .str _, p, h, _ => by cases p <;> simp only [gm] at h; rfl
  | .np, p, h, _ => by simp only [gm] at h; subst h; rfl
  | .no, p, h, _ => by simp only [gm] at h; subst h; rfl
  | .st _ l, p, h, hp => by cases p <;> simp only [gm] at h; simp only [refsOk]; exact okRL_gm hk h.2 (by simpa [okR] using hp)
  | .ar _ _ l, p, h, hp => by cases p <;> simp only [gm] at h; simp only [refsOk]; exact okRL_gm hk h.2 (by simpa [okR] using hp)
  | .sl _ l _, p, h, hp => by cases p <;> simp only [gm] at h; simp only [refsOk]; exact okRL_gm hk h.2 (by simpa [okR] using hp)
  | .fp _ l _, p, h, hp => by cases p <;> simp only [gm] at h; simp only [refsOk]; exact okRL_gm hk h.2 (by simpa [okR] using hp)
  | .tup l, p, h, hp => by cases p <;> simp only [gm] at h; simp only [refsOk]; exact okRL_gm hk h (by simpa [okR] using hp)
  | .rs k' _ _ _ _ _ _, p, h, hp => by
    simp only [gm] at h; subst h
    simp only [refsOk, decide_eq_true_eq]
    rintro rfl; simp [okR, hk] at hp
  | .pt k' _ _, p, h, hp => by
    simp only [gm] at h; subst h
    simp only [refsOk, decide_eq_true_eq]
    rintro rfl; simp [okR, hk] at hp
  | .gd _ v, p, h, hp => by cases p <;> simp only [gm] at h; simp only [refsOk]; exact okR_gm hk h.2 (by simpa [okR] using hp)
  | .un, _, _, hp => by simp [okR] at hp
theorem okRL_gm {D : List Nat} {k : Nat} (hk : k ∈ D) : ∀ {l : List AV} {m : List PV}, gmL l m → okRL D l = true → refsOkL (fun j => decide (j ≠ k)) m = true
  | [], [], _, _ => rfl
  | [], _ :: _, h, _ => by simp [gmL] at h
  | _ :: _, [], h, _ => by simp [gmL] at h
  | a :: l, p :: m, h, hp => by
    simp only [gmL] at h
    simp only [okRL, Bool.and_eq_true] at hp
    simp only [refsOkL, Bool.and_eq_true]
    exact ⟨okR_gm hk h.1 hp.1, okRL_gm hk h.2 hp.2⟩
end
def okRB (D : List Nat) : AB → Bool
  | .box v => okR D v
  | .arr _ l => okRL D l
theorem okRB_gm {D : List Nat} {k : Nat} (hk : k ∈ D) {b : AB} {blk : Blk} (h : gB b blk) (hp : okRB D b = true) : refsOkB (fun j => decide (j ≠ k)) blk = true := by
  cases b <;> cases blk <;> simp only [gB] at h <;> simp only [okRB] at hp <;> simp only [refsOkB]
  · exact okR_gm hk h hp
  · exact okRL_gm hk h.2 hp
mutual
def rfA : AV → List Nat
  | .st _ l | .ar _ _ l | .sl _ l _ | .tup l | .fp _ l _ => rfL l
  | .rs k _ _ _ _ _ _ | .pt k _ _ => [k]
  | .gd _ v => rfA v
  | _ => []
def rfL : List AV → List Nat
  | [] => []
  | a :: l => rfA a ++ rfL l
end
def cutA (σ σ1 : AS) : Option AS :=
  let R := σ.env.flatMap fun x => match get σ1.env x.1 with | some a => rfA a | none => []
  let D := (σ1.bx.filter fun x => (get σ.bx x.1).isNone && !R.contains x.1).map (·.1)
  if (σ1.bx.all fun x => match get σ1.bx x.1 with | some b => okRB D b | none => false) && D.all (fun k => decide (k < KB)) then
    some { env := mk (fun k => match get σ1.env k with | some a => if okR D a = true then some a else none | none => none) σ.env,
           bx := mk (fun k => if D.contains k = true then none else get σ1.bx k) σ1.bx }
  else none
theorem refsEnv_of {f : Nat → Bool} : ∀ {l : List (Nat × PV)}, (∀ x ∈ l, refsOk f x.2 = true) → refsEnv f l = true
  | [], _ => rfl
  | (k, p) :: r, h => by simp only [refsEnv, Bool.and_eq_true]; exact ⟨h (k, p) (by simp), refsEnv_of fun x hx => h x (by simp [hx])⟩
theorem refsBx_of {f : Nat → Bool} : ∀ {l : List (Nat × Blk)}, (∀ x ∈ l, refsOkB f x.2 = true) → refsBx f l = true
  | [], _ => rfl
  | (k, p) :: r, h => by simp only [refsBx, Bool.and_eq_true]; exact ⟨h (k, p) (by simp), refsBx_of fun x hx => h x (by simp [hx])⟩
theorem get_keepI {α : Type} (sl : List Nat) : ∀ (l : List (Nat × α)) (j : Nat), get (keepL sl l) j = if sl.contains j = true then get l j else none
  | [], j => by simp [keepL, get]
  | (k, v) :: r, j => by
    simp only [keepL]
    by_cases hk : sl.contains k = true
    · rw [if_pos hk]
      simp only [get]
      by_cases e : k = j
      · subst e; rw [if_pos rfl, if_pos rfl, if_pos hk]
      · rw [if_neg e, if_neg e]; exact get_keepI sl r j
    · rw [if_neg hk]
      simp only [get]
      by_cases e : k = j
      · subst e; rw [get_keepI sl r k, if_neg hk, if_neg hk]
      · rw [if_neg e]; exact get_keepI sl r j
theorem srt_keep {α : Type} {sl : List Nat} : ∀ {l : List (Nat × α)}, Srt l → Srt (keepL sl l)
  | [], _ => trivial
  | (k, v) :: r, h => by
    simp only [keepL]
    split
    · refine ⟨fun j x hj => ?_, srt_keep h.2⟩
      rw [get_keepI] at hj
      split at hj
      · exact h.1 j x hj
      · simp at hj
    · exact srt_keep h.2
theorem srt_del {α : Type} {n : Nat} : ∀ {l : List (Nat × α)}, Srt l → Srt (del l n)
  | [], _ => trivial
  | (k, v) :: r, h => by
    simp only [del]
    split
    · exact srt_del h.2
    · refine ⟨fun j x hj => ?_, srt_del h.2⟩
      rw [get_del] at hj
      split at hj
      · simp at hj
      · exact h.1 j x hj
theorem drops {D0 : List Nat} {Q : Nat → PV → Prop} : ∀ (D : List Nat) (s : St), (∀ k ∈ D, k < KB ∧ (∀ x ∈ s.env, refsOk (fun j => decide (j ≠ k)) x.2 = true) ∧ ∀ x ∈ s.bx, refsOkB (fun j => decide (j ≠ k)) x.2 = true) → Srt s.bx →
    ∃ s', s'.env = s.env ∧ (∀ k, get s'.bx k = if k ∈ D then none else get s.bx k) ∧ Srt s'.bx ∧ ∀ K : St → Prop, K s' → cuts (D.map .dr) s K
  | [], s, _, hs => ⟨s, rfl, by simp, hs, fun K hK => hK⟩
  | k :: D, s, h, hs => by
    obtain ⟨h1, h2, h3⟩ := h k (by simp)
    have hmem : ∀ {l : List (Nat × Blk)} {x : Nat × Blk}, x ∈ del l k → x ∈ l := by
      intro l
      induction l with
      | nil => intro x hx; simp [del] at hx
      | cons y r ih =>
        intro x hx
        obtain ⟨j, b⟩ := y
        simp only [del] at hx
        split at hx
        · exact List.mem_cons_of_mem _ (ih hx)
        · rcases List.mem_cons.1 hx with rfl | hx
          · simp
          · exact List.mem_cons_of_mem _ (ih hx)
    obtain ⟨s', e1, e2, e3, e4⟩ := drops (D0 := D0) (Q := Q) D { s with bx := del s.bx k } (fun j hj => by
      obtain ⟨g1, g2, g3⟩ := h j (by simp [hj])
      exact ⟨g1, g2, fun x hx => g3 x (hmem hx)⟩) (srt_del hs)
    refine ⟨s', e1, fun j => ?_, e3, fun K hK => ?_⟩
    · rw [e2]
      simp only [get_del, List.mem_cons]
      by_cases hj : j ∈ D
      · simp [hj]
      · by_cases hjk : j = k
        · simp [hjk]
        · simp [hj, hjk]
    · simp only [List.map_cons, cuts, cut1, dr1]
      exact ⟨⟨refsEnv_of h2, refsBx_of fun x hx => h3 x (hmem hx), h1⟩, e4 K hK⟩
theorem cutA_gm {σ σ1 σ2 : AS} {s : St} (h : gS σ1 s) (hc : cutA σ σ1 = some σ2) : ∃ c s', gS σ2 s' ∧ ∀ K : St → Prop, K s' → cuts c s K := by
  unfold cutA at hc
  simp only at hc
  generalize hD : (σ1.bx.filter fun x => (get σ.bx x.1).isNone && !(σ.env.flatMap fun x => match get σ1.env x.1 with | some a => rfA a | none => []).contains x.1).map (·.1) = D at hc
  split at hc <;> simp only [Option.some.injEq, reduceCtorEq] at hc
  rename_i hok
  simp only [Bool.and_eq_true, List.all_eq_true, decide_eq_true_eq] at hok
  generalize hE : mk (fun k => match get σ1.env k with | some a => if okR D a = true then some a else none | none => none) σ.env = E at hc
  have hEg : ∀ k a, get E k = some a → get σ1.env k = some a ∧ okR D a = true := by
    intro k a hk
    rw [← hE] at hk
    have := get_mk hk
    split at this
    · rename_i a' ha
      split at this <;> simp only [Option.some.injEq, reduceCtorEq] at this
      rename_i ho
      subst this
      exact ⟨ha, ho⟩
    · simp at this
  have hkb : ∀ x ∈ s.bx, ∃ b, get σ1.bx x.1 = some b ∧ gB b x.2 ∧ okRB D b = true := by
    intro x hx
    have hg := h.sb.mem (k := x.1) (x := x.2) hx
    cases hb : get σ1.bx x.1 with
    | none => rw [h.none _ hb] at hg; cases hg
    | some b =>
      obtain ⟨blk, g1, g2⟩ := h.bx _ _ hb
      rw [hg] at g1; cases g1
      refine ⟨b, rfl, g2, ?_⟩
      have := hok.1 (x.1, b) (get_mem hb)
      simp only [hb] at this
      exact this
  have hdr : ∀ k ∈ D, k < KB ∧ (∀ x ∈ keepL (E.map (·.1)) s.env, refsOk (fun j => decide (j ≠ k)) x.2 = true) ∧ ∀ x ∈ s.bx, refsOkB (fun j => decide (j ≠ k)) x.2 = true := by
    intro k hk
    refine ⟨hok.2 k hk, fun x hx => ?_, fun x hx => ?_⟩
    · have hg := (srt_keep h.se).mem (k := x.1) (x := x.2) hx
      rw [get_keepI] at hg
      split at hg
      · rename_i hin
        simp only [List.contains_eq_mem, decide_eq_true_eq, List.mem_map] at hin
        obtain ⟨y, hy, hyk⟩ := hin
        cases hga : get E x.1 with
        | none =>
          exfalso
          have : ∀ {l : List (Nat × AV)} {y : Nat × AV}, y ∈ l → (get l y.1).isSome = true := by
            intro l
            induction l with
            | nil => intro y hy; simp at hy
            | cons z r ih =>
              intro y hy
              obtain ⟨j, b⟩ := z
              simp only [get]
              split
              · rfl
              · rcases List.mem_cons.1 hy with rfl | hy
                · rename_i hne; exact absurd rfl hne
                · exact ih hy
          have := this hy
          rw [hyk, hga] at this
          simp at this
        | some a =>
          obtain ⟨h1, h2⟩ := hEg _ _ hga
          obtain ⟨p, h3, h4⟩ := h.env _ _ h1
          rw [hg] at h3; cases h3
          exact okR_gm hk h4 h2
      · simp at hg
    · obtain ⟨b, h1, h2, h3⟩ := hkb x hx
      exact okRB_gm hk h2 h3
  obtain ⟨s', e1, e2, e3, e4⟩ := drops (D0 := []) (Q := fun _ _ => True) D { s with env := keepL (E.map (·.1)) s.env } hdr h.sb
  refine ⟨.keep (E.map (·.1)) :: D.map .dr, s', ?_, fun K hK => by simp only [cuts, cut1]; exact e4 K hK⟩
  subst hc
  refine ⟨fun k a hk => ?_, fun k hk => ?_, fun k b hk => ?_, by rw [e1]; exact srt_keep h.se, e3⟩
  · obtain ⟨h1, h2⟩ := hEg k a hk
    obtain ⟨p, h3, h4⟩ := h.env k a h1
    refine ⟨p, ?_, h4⟩
    rw [e1, get_keepI, if_pos, h3]
    simp only [List.contains_eq_mem, decide_eq_true_eq]
    exact List.mem_map.2 ⟨(k, a), get_mem hk, rfl⟩
  · rw [e2]
    split
    · rfl
    · rename_i hkD
      refine h.none k ?_
      cases hb : get σ1.bx k with
      | none => rfl
      | some b =>
        have := get_mk_some (f := fun k => if D.contains k = true then none else get σ1.bx k) hb (b := b) (by simp [hkD, hb])
        simp only at hk
        rw [hk] at this; cases this
  · have := get_mk hk
    split at this
    · simp at this
    · rename_i hkD
      obtain ⟨blk, g1, g2⟩ := h.bx k b this
      refine ⟨blk, ?_, g2⟩
      rw [e2, if_neg (by simpa using hkD)]
      exact g1
end Go.Ab
namespace Go.Ab
mutual
def frzA (k sz : Nat) (l0 : List AV) : AV → AV
  | .rs k' p off len tot sz' c => if k' = k then (if tot = l0.length ∧ p = [] ∧ sz' = sz ∧ off + len ≤ l0.length then .sl sz ((l0.drop off).take len) (decide (c = .clip)) else .un) else .rs k' p off len tot sz' c
  | .pt k' p tot => if k' = k then .un else .pt k' p tot
  | .st w l => .st w (frzAL k sz l0 l)
  | .ar z n l => .ar z n (frzAL k sz l0 l)
  | .tup l => .tup (frzAL k sz l0 l)
  | .sl z l c => .sl z (frzAL k sz l0 l) c
  | .fp z l p => .fp z (frzAL k sz l0 l) p
  | .gd b p => .gd b (frzA k sz l0 p)
  | p => p
def frzAL (k sz : Nat) (l0 : List AV) : List AV → List AV
  | [] => []
  | p :: l => frzA k sz l0 p :: frzAL k sz l0 l
end
def frzAB (k sz : Nat) (l0 : List AV) : AB → AB
  | .box v => .box (frzA k sz l0 v)
  | .arr z l => .arr z (frzAL k sz l0 l)
variable {k sz : Nat} {l0 : List AV} {m0 : List PV}
mutual
theorem frzA_gm (h0 : gmL l0 m0) : ∀ (a : AV) {p : PV}, gm a p → gm (frzA k sz l0 a) (frz k sz m0 p)
  | .un, _, _ => by simp [frzA, gm]
  | .no, p, h => by simp only [gm] at h; subst h; simp [frzA, frz, gm]
  | .bl _, p, h => by cases p <;> simp only [gm] at h; simpa [frzA, frz, gm] using h
  | .int _ _, p, h => by cases p <;> simp only [gm] at h; simpa [frzA, frz, gm] using h
  | .str _, p, h => by cases p <;> simp only [gm] at h; simpa [frzA, frz, gm] using h
  | .st _ l, p, h => by cases p <;> simp only [gm] at h; simp only [frzA, frz, gm]; exact ⟨h.1, frzAL_gm h0 l h.2⟩
  | .ar _ _ l, p, h => by cases p <;> simp only [gm] at h; simp only [frzA, frz, gm]; exact ⟨h.1, frzAL_gm h0 l h.2⟩
  | .tup l, p, h => by cases p <;> simp only [gm] at h; simp only [frzA, frz, gm]; exact frzAL_gm h0 l h
  | .sl _ l _, p, h => by cases p <;> simp only [gm] at h; simp only [frzA, frz, gm]; exact ⟨h.1, frzAL_gm h0 l h.2⟩
  | .fp _ l _, p, h => by cases p <;> simp only [gm] at h; simp only [frzA, frz, gm]; exact ⟨h.1, frzAL_gm h0 l h.2⟩
  | .np, p, h => by simp only [gm] at h; subst h; simp [frzA, frz, gm]
  | .gd _ a, p, h => by cases p <;> simp only [gm] at h; simp only [frzA, frz, gm]; exact ⟨h.1, frzA_gm h0 a h.2⟩
  | .pt _ _ _, p, h => by
    simp only [gm] at h; subst h
    simp only [frzA, frz]
    split
    · simp [gm]
    · simp [gm]
  | .rs _ _ off len _ _ _, p, h => by
    simp only [gm] at h; subst h
    simp only [frzA, frz, h0.length]
    split
    · split
      · simp only [gm, true_and]; exact (h0.drop off).take len
      · simp [gm]
    · simp [gm]
theorem frzAL_gm (h0 : gmL l0 m0) : ∀ (l : List AV) {m : List PV}, gmL l m → gmL (frzAL k sz l0 l) (frzL k sz m0 m)
  | [], m, h => by cases m <;> simp only [gmL] at h; simp [frzAL, frzL, gmL]
  | a :: l, m, h => by cases m <;> simp only [gmL] at h; simp only [frzAL, frzL, gmL]; exact ⟨frzA_gm h0 a h.1, frzAL_gm h0 l h.2⟩
end
theorem frzAB_gm (h0 : gmL l0 m0) {b : AB} {blk : Blk} (h : gB b blk) : gB (frzAB k sz l0 b) (frzB k sz m0 blk) := by
  cases b <;> cases blk <;> simp only [gB] at h <;> simp only [frzAB, frzB, gB]
  · exact frzA_gm h0 _ h
  · exact ⟨h.1, frzAL_gm h0 _ h.2⟩
section
variable [Tabs]
theorem Srt.mapV {α : Type} (f : α → α) : ∀ {l : List (Nat × α)}, Srt l → Srt (mapV f l)
  | [], _ => trivial
  | (n, x) :: r, h => by
    refine ⟨fun j y hj => ?_, Srt.mapV f h.2⟩
    rw [get_mapV] at hj
    obtain ⟨z, hz, _⟩ := Option.map_eq_some_iff.1 hj
    exact h.1 j z hz
mutual
def rsK : AV → List Nat
  | .rs k .. => [k]
  | .st _ l | .ar _ _ l | .tup l | .sl _ l _ => rsKL l
  | .gd _ p => rsK p
  | _ => []
def rsKL : List AV → List Nat
  | [] => []
  | p :: l => rsK p ++ rsKL l
end
def fzsA : List Nat → AS → Option AS
  | [], σ => some σ
  | k :: r, σ => match get σ.bx k with
    | some (.arr sz l) => if pureA l = true ∧ k < KB then fzsA r { env := mapV (frzA k sz l) σ.env, bx := mapV (frzAB k sz l) (del σ.bx k) } else none
    | _ => none
theorem fzsA_gm : ∀ {ks : List Nat} {σ σ' : AS} {s : St}, gS σ s → fzsA ks σ = some σ' → ∃ s', gS σ' s' ∧ ∀ K : St → Prop, K s' → cuts (ks.map .fz) s K
  | [], σ, σ', s, h, hr => by simp only [fzsA, Option.some.injEq] at hr; subst hr; exact ⟨s, h, fun K hK => hK⟩
  | k :: r, σ, σ', s, h, hr => by
    simp only [fzsA] at hr
    split at hr <;> (try simp only [reduceCtorEq] at hr)
    rename_i sz l hb
    split at hr <;> (try simp only [reduceCtorEq] at hr)
    rename_i hc
    obtain ⟨blk, b1, b2⟩ := h.bx _ _ hb
    cases blk <;> simp only [gB] at b2
    rename_i sz' m
    obtain ⟨rfl, b2⟩ := b2
    have hp := b2.pureL hc.1
    have hS : gS { env := mapV (frzA k sz' l) σ.env, bx := mapV (frzAB k sz' l) (del σ.bx k) } { env := mapV (frz k sz' m) s.env, bx := mapV (frzB k sz' m) (del s.bx k) } := {
      env := fun j a hj => by
        rw [get_mapV] at hj
        obtain ⟨z, hz, rfl⟩ := Option.map_eq_some_iff.1 hj
        obtain ⟨p, p1, p2⟩ := h.env _ _ hz
        exact ⟨_, by rw [get_mapV, p1]; rfl, frzA_gm b2 _ p2⟩
      none := fun j hj => by
        rw [get_mapV, get_del] at hj ⊢
        split at hj
        · rename_i e; rw [if_pos e]; rfl
        · rename_i e; rw [if_neg e, h.none j (by simpa using hj)]; rfl
      bx := fun j b hj => by
        rw [get_mapV, get_del] at hj
        split at hj
        · simp at hj
        · rename_i e
          obtain ⟨z, hz, rfl⟩ := Option.map_eq_some_iff.1 hj
          obtain ⟨p, p1, p2⟩ := h.bx _ _ hz
          exact ⟨_, by rw [get_mapV, get_del, if_neg e, p1]; rfl, frzAB_gm b2 p2⟩
      se := h.se.mapV _
      sb := (srt_del h.sb).mapV _ }
    obtain ⟨s', g1, g2⟩ := fzsA_gm hS hr
    refine ⟨s', g1, fun K hK => ?_⟩
    simp only [List.map_cons, cuts, cut1, fz1, b1]
    exact ⟨⟨hp.refs _, hc.2⟩, g2 K hK⟩
end
end Go.Ab
namespace Go.Ab
variable [Tabs]
variable {P : Program} [YCtx]
def nrm : Outs → List AS
  | [] => []
  | (.nm, σ) :: r => σ :: nrm r
  | _ :: r => nrm r
def oth : Outs → Outs
  | [] => []
  | (.nm, _) :: r => oth r
  | x :: r => x :: oth r
theorem nrm_in {s : St} : ∀ {o : Outs}, In o .nm s → ∃ σ ∈ nrm o, gS σ s
  | [], h => by obtain ⟨σ, h1, _⟩ := h; simp at h1
  | (e, τ) :: r, h => by
    obtain ⟨σ, h1, h2⟩ := h
    rcases List.mem_cons.1 h1 with h1 | h1
    · cases h1; exact ⟨τ, by simp [nrm], h2⟩
    · obtain ⟨ρ, h3, h4⟩ := nrm_in ⟨σ, h1, h2⟩
      exact ⟨ρ, by cases e <;> simp [nrm, h3], h4⟩
theorem oth_in {e : EX} {s : St} (he : e ≠ .nm) : ∀ {o : Outs}, In o e s → In (oth o) e s
  | [], h => h
  | (e', τ) :: r, h => by
    obtain ⟨σ, h1, h2⟩ := h
    rcases List.mem_cons.1 h1 with h1 | h1
    · cases h1
      cases e with
      | nm => exact absurd rfl he
      | rt => exact ⟨τ, by simp [oth], h2⟩
      | ex id => exact ⟨τ, by simp [oth], h2⟩
    · have := oth_in he ⟨σ, h1, h2⟩
      cases e' with
      | nm => exact this
      | rt => exact this.cons
      | ex id => exact this.cons
def bindO (f : AS → Option Outs) : Outs → Option Outs
  | [] => some []
  | (.nm, σ) :: r => (match f σ, bindO f r with | some a, some b => some (a ++ b) | _, _ => none)
  | x :: r => (match bindO f r with | some b => some (x :: b) | none => none)
theorem In.app {o o' : Outs} {e : EX} {s : St} (h : In o e s ∨ In o' e s) : In (o ++ o') e s := by
  rcases h with ⟨σ, h1, h2⟩ | ⟨σ, h1, h2⟩
  · exact ⟨σ, List.mem_append.2 (.inl h1), h2⟩
  · exact ⟨σ, List.mem_append.2 (.inr h1), h2⟩
theorem bindO_nm {f : AS → Option Outs} {s : St} : ∀ {o r : Outs}, bindO f o = some r → In o .nm s → ∃ σ a, gS σ s ∧ f σ = some a ∧ ∀ e s', In a e s' → In r e s'
  | [], _, _, h => by obtain ⟨σ, h1, _⟩ := h; simp at h1
  | (e, τ) :: o, r, hb, h => by
    obtain ⟨σ, h1, h2⟩ := h
    cases e with
    | nm =>
      simp only [bindO] at hb
      split at hb <;> simp only [Option.some.injEq, reduceCtorEq] at hb
      rename_i a b ha hb'
      subst hb
      rcases List.mem_cons.1 h1 with h1 | h1
      · cases h1; exact ⟨τ, a, h2, ha, fun e s' h => In.app (.inl h)⟩
      · obtain ⟨σ', a', g1, g2, g3⟩ := bindO_nm hb' ⟨σ, h1, h2⟩
        exact ⟨σ', a', g1, g2, fun e s' h => In.app (.inr (g3 e s' h))⟩
    | _ =>
      simp only [bindO] at hb
      split at hb <;> simp only [Option.some.injEq, reduceCtorEq] at hb
      rename_i b hb'
      subst hb
      rcases List.mem_cons.1 h1 with h1 | h1
      · cases h1
      · obtain ⟨σ', a', g1, g2, g3⟩ := bindO_nm hb' ⟨σ, h1, h2⟩
        exact ⟨σ', a', g1, g2, fun e s' h => (g3 e s' h).cons⟩
theorem bindO_oth {f : AS → Option Outs} {s : St} {e : EX} (he : e ≠ .nm) : ∀ {o r : Outs}, bindO f o = some r → In o e s → In r e s
  | [], _, _, h => by obtain ⟨σ, h1, _⟩ := h; simp at h1
  | (e', τ) :: o, r, hb, h => by
    obtain ⟨σ, h1, h2⟩ := h
    cases e' with
    | nm =>
      simp only [bindO] at hb
      split at hb <;> simp only [Option.some.injEq, reduceCtorEq] at hb
      rename_i a b ha hb'
      subst hb
      rcases List.mem_cons.1 h1 with h1 | h1
      · cases h1; exact absurd rfl he
      · exact In.app (.inr (bindO_oth he hb' ⟨σ, h1, h2⟩))
    | _ =>
      simp only [bindO] at hb
      split at hb <;> simp only [Option.some.injEq, reduceCtorEq] at hb
      rename_i b hb'
      subst hb
      rcases List.mem_cons.1 h1 with h1 | h1
      · cases h1; exact ⟨τ, by simp, h2⟩
      · exact (bindO_oth he hb' ⟨σ, h1, h2⟩).cons
def unblk (id : Nat) : Outs → Outs
  | [] => []
  | (e, σ) :: r => ((if e = .ex id then .nm else e), σ) :: unblk id r
theorem unblk_in {id : Nat} {e : EX} {s : St} : ∀ {o : Outs}, In o e s → In (unblk id o) (if e = .ex id then .nm else e) s
  | [], h => by obtain ⟨σ, h1, _⟩ := h; simp at h1
  | (e', τ) :: r, h => by
    obtain ⟨σ, h1, h2⟩ := h
    rcases List.mem_cons.1 h1 with h1 | h1
    · cases h1; exact ⟨τ, by simp [unblk], h2⟩
    · exact (unblk_in ⟨σ, h1, h2⟩).cons
def iterA (f : AS → Option Outs) : Nat → AS → Option Outs
  | 0, _ => none
  | n + 1, σ => match f σ with
    | some o => let m := mrg o
      match nrm m with
      | [] => some (oth m)
      | [σ1] => (match cutA σ σ1 with
        | some σ2 => (match iterA f n σ2 with | some r => some (mrg (oth m ++ r)) | none => none)
        | none => none)
      | _ => none
    | none => none
inductive LpE (P : Program) (x : ACode) : Nat → St → EX → St → Prop
  | fin {n s e s'} : e ≠ .nm → Dtm P x s e s' → LpE P x n s e s'
  | more {n s s1 s2 e s'} {c : List Cut} : Dtm P x s .nm s1 → (∀ K : St → Prop, K s2 → cuts c s1 K) → LpE P x n s2 e s' → LpE P x (n + 1) s e s'
theorem LpE.aw {x : ACode} {n : Nat} {s s' : St} {e : EX} (h : LpE P x n s e s') : Dtm P (.loop x) s e s' := by
  intro Q hQ
  refine ⟨fun n s => LpE P x n s e s', [], ⟨n, h⟩, fun n s h => ?_⟩
  cases h with
  | fin he hd =>
    refine hd _ ?_
    cases e with
    | nm => exact absurd rfl he
    | rt => exact hQ
    | ex id => exact hQ
  | more hd hc hr => exact hd _ ⟨_, hc _ ⟨_, Nat.lt_succ_self _, hr⟩⟩
theorem iterA_gm {f : AS → Option Outs} {x : ACode} (hf : ∀ σ o s, f σ = some o → gS σ s → ∃ e s', In o e s' ∧ Dtm P x s e s') : ∀ n {σ : AS} {o : Outs} {s : St}, iterA f n σ = some o → gS σ s → ∃ e s', In o e s' ∧ e ≠ .nm ∧ ∃ m, LpE P x m s e s'
  | 0, _, _, _, h, _ => by simp [iterA] at h
  | n + 1, σ, o, s, h, hs => by
    simp only [iterA] at h
    split at h <;> (try simp only [reduceCtorEq] at h)
    rename_i o1 h1
    obtain ⟨e, s1, g1, g2⟩ := hf _ _ _ h1 hs
    have g1 := mrg_in g1
    by_cases he : e = .nm
    · subst he
      obtain ⟨τ, t1, t2⟩ := nrm_in g1
      split at h <;> (try simp only [reduceCtorEq] at h)
      · rename_i hn; rw [hn] at t1; simp at t1
      · rename_i σ1 hn
        rw [hn] at t1
        simp only [List.mem_singleton] at t1
        subst t1
        split at h <;> (try simp only [reduceCtorEq] at h)
        rename_i σ2 hc
        split at h <;> simp only [Option.some.injEq, reduceCtorEq] at h
        rename_i r hr
        subst h
        obtain ⟨c, s2, c1, c2⟩ := cutA_gm t2 hc
        obtain ⟨e, s', d1, d2, m, d3⟩ := iterA_gm hf n hr c1
        exact ⟨e, s', mrg_in (In.app (.inr d1)), d2, m + 1, .more g2 c2 d3⟩
    · have g3 := oth_in he g1
      have g4 : In o e s1 := by
        split at h <;> (try simp only [reduceCtorEq] at h)
        · simp only [Option.some.injEq] at h; subst h; exact g3
        · split at h <;> (try simp only [reduceCtorEq] at h)
          split at h <;> simp only [Option.some.injEq, reduceCtorEq] at h
          subst h
          exact mrg_in (In.app (.inl g3))
      exact ⟨e, s1, g4, he, 0, .fin he g2⟩
def awA (SP : List Spec) : ACode → AS → Option Outs
  | .skip, σ => some [(.nm, σ)]
  | .region l, σ => match wplA SP σ l with | some σ' => some [(.nm, σ')] | none => none
  | .regionD l ord u, σ => match drA SP l u (drW SP l u σ ord) σ ord with | some σ' => some [(.nm, σ')] | none => none
  | .seq x y, σ => match awA SP x σ with
    | some o => (match bindO (fun τ => awA SP y τ) (mrg o) with | some r => some (mrg r) | none => none)
    | none => none
  | .cond c x y, σ => match vxA σ c with
    | some (.bl (some b)) => if b = true then awA SP x σ else awA SP y σ
    | some (.gd true (.bl (some b))) => if b = true then awA SP x σ else awA SP y σ
    | some (.bl none) => (match awA SP x σ, awA SP y σ with | some a, some b => some (mrg (a ++ b)) | _, _ => none)
    | some (.gd true (.bl none)) => (match awA SP x σ, awA SP y σ with | some a, some b => some (mrg (a ++ b)) | _, _ => none)
    | _ => none
  | .block id x, σ => match awA SP x σ with | some o => some (mrg (unblk id o)) | none => none
  | .loop x, σ => iterA (fun τ => awA SP x τ) 400 σ
  | .exit id, σ => some [(.ex id, σ)]
  | .ret, σ => some [(.rt, σ)]
  | _, _ => none
theorem awA_gm {SP : List Spec} (hS : SpOk P SP) : ∀ (c : ACode) {σ : AS} {o : Outs} {s : St}, awA SP c σ = some o → gS σ s → ∃ e s', In o e s' ∧ Dtm P c s e s' := by
  have one : ∀ {c : ACode} {σ : AS} {s : St} (e : EX), gS σ s → (∀ Q : Exit → St → Prop, Q e.toE s → aw P c Q s) → ∃ e' s', In [(e, σ)] e' s' ∧ Dtm P c s e' s' := fun e h hd => ⟨e, _, ⟨_, by simp, h⟩, hd⟩
  intro c
  induction c with
  | skip => intro σ o s h hs; simp only [awA, Option.some.injEq] at h; subst h; exact one .nm hs fun Q h => h
  | exit id => intro σ o s h hs; simp only [awA, Option.some.injEq] at h; subst h; exact one (.ex id) hs fun Q h => h
  | ret => intro σ o s h hs; simp only [awA, Option.some.injEq] at h; subst h; exact one .rt hs fun Q h => h
  | region l =>
    intro σ o s h hs
    simp only [awA] at h
    split at h <;> simp only [Option.some.injEq, reduceCtorEq] at h
    rename_i σ' h1
    subst h
    obtain ⟨s', h2, h3⟩ := wplA_gm hS hs h1
    exact ⟨.nm, s', ⟨σ', by simp, h2⟩, fun Q hQ => h3 _ hQ⟩
  | regionD l ord u =>
    intro σ o s h hs
    simp only [awA] at h
    split at h <;> simp only [Option.some.injEq, reduceCtorEq] at h
    rename_i σ' h1
    subst h
    obtain ⟨s', h2, h3⟩ := drA_gm hS hs h1
    exact ⟨.nm, s', ⟨σ', by simp, h2⟩, fun Q hQ => ⟨_, h3 _ hQ⟩⟩
  | seq x y ihx ihy =>
    intro σ o s h hs
    simp only [awA] at h
    split at h <;> (try simp only [reduceCtorEq] at h)
    rename_i o1 h1
    split at h <;> simp only [Option.some.injEq, reduceCtorEq] at h
    rename_i r hr
    subst h
    obtain ⟨e, s1, g1, g2⟩ := ihx h1 hs
    have g1 := mrg_in g1
    by_cases he : e = .nm
    · subst he
      obtain ⟨τ, a, t1, t2, t3⟩ := bindO_nm hr g1
      obtain ⟨e, s2, k1, k2⟩ := ihy t2 t1
      exact ⟨e, s2, mrg_in (t3 _ _ k1), fun Q hQ => g2 _ (k2 _ hQ)⟩
    · refine ⟨e, s1, mrg_in (bindO_oth he hr g1), fun Q hQ => g2 _ ?_⟩
      cases e with
      | nm => exact absurd rfl he
      | rt => exact hQ
      | ex id => exact hQ
  | cond c x y ihx ihy =>
    intro σ o s h hs
    simp only [awA] at h
    split at h <;> (try simp only [reduceCtorEq] at h)
    · rename_i b hb
      have hv := vxA_gm hs hb
      cases hvx : vx s c <;> rw [hvx] at hv <;> simp only [gm] at hv
      have := hv b rfl
      subst this
      rename_i b
      split at h
      · rename_i e
        obtain ⟨e', s1, g1, g2⟩ := ihx h hs
        exact ⟨e', s1, g1, fun Q hQ => by simp only [aw, hvx]; exact ⟨fun _ => g2 Q hQ, fun h => by rw [e] at h; cases h⟩⟩
      · rename_i e
        obtain ⟨e', s1, g1, g2⟩ := ihy h hs
        exact ⟨e', s1, g1, fun Q hQ => by simp only [aw, hvx]; exact ⟨fun h => absurd h e, fun _ => g2 Q hQ⟩⟩
    · rename_i b hb
      have hv := vxA_gm hs hb
      cases hvx : vx s c <;> rw [hvx] at hv <;> simp only [gm] at hv
      rename_i g q
      obtain ⟨rfl, hv⟩ := hv
      cases q <;> simp only [gm] at hv
      rename_i b'
      have := hv b rfl
      subst this
      split at h
      · rename_i e
        obtain ⟨e', s1, g1, g2⟩ := ihx h hs
        exact ⟨e', s1, g1, fun Q hQ => by simp only [aw, hvx]; exact ⟨trivial, fun _ => g2 Q hQ, fun h => by rw [e] at h; cases h⟩⟩
      · rename_i e
        obtain ⟨e', s1, g1, g2⟩ := ihy h hs
        exact ⟨e', s1, g1, fun Q hQ => by simp only [aw, hvx]; exact ⟨trivial, fun h => absurd h e, fun _ => g2 Q hQ⟩⟩
    · rename_i hb
      have hv := vxA_gm hs hb
      cases hvx : vx s c <;> rw [hvx] at hv <;> simp only [gm] at hv
      rename_i b
      split at h <;> simp only [Option.some.injEq, reduceCtorEq] at h
      rename_i oa ob ha hb'
      subst h
      cases b with
      | true =>
        obtain ⟨e', s1, g1, g2⟩ := ihx ha hs
        exact ⟨e', s1, mrg_in (In.app (.inl g1)), fun Q hQ => by simp only [aw, hvx]; exact ⟨fun _ => g2 Q hQ, fun h => by cases h⟩⟩
      | false =>
        obtain ⟨e', s1, g1, g2⟩ := ihy hb' hs
        exact ⟨e', s1, mrg_in (In.app (.inr g1)), fun Q hQ => by simp only [aw, hvx]; exact ⟨(fun h => absurd h (by simp)), fun _ => g2 Q hQ⟩⟩
    · rename_i hb
      have hv := vxA_gm hs hb
      cases hvx : vx s c <;> rw [hvx] at hv <;> simp only [gm] at hv
      rename_i g q
      obtain ⟨rfl, hv⟩ := hv
      cases q <;> simp only [gm] at hv
      rename_i b
      split at h <;> simp only [Option.some.injEq, reduceCtorEq] at h
      rename_i oa ob ha hb'
      subst h
      cases b with
      | true =>
        obtain ⟨e', s1, g1, g2⟩ := ihx ha hs
        exact ⟨e', s1, mrg_in (In.app (.inl g1)), fun Q hQ => by simp only [aw, hvx]; exact ⟨trivial, fun _ => g2 Q hQ, fun h => by cases h⟩⟩
      | false =>
        obtain ⟨e', s1, g1, g2⟩ := ihy hb' hs
        exact ⟨e', s1, mrg_in (In.app (.inr g1)), fun Q hQ => by simp only [aw, hvx]; exact ⟨trivial, (fun h => absurd h (by simp)), fun _ => g2 Q hQ⟩⟩
  | block id x ih =>
    intro σ o s h hs
    simp only [awA] at h
    split at h <;> simp only [Option.some.injEq, reduceCtorEq] at h
    rename_i o1 h1
    subst h
    obtain ⟨e, s1, g1, g2⟩ := ih h1 hs
    refine ⟨_, s1, mrg_in (unblk_in (id := id) g1), fun Q hQ => ?_⟩
    simp only [aw]
    refine g2 _ ?_
    cases e with
    | nm => simpa [inb, EX.toE] using hQ
    | rt => simpa [inb, EX.toE] using hQ
    | ex id' =>
      simp only [EX.toE, inb]
      by_cases e : id' = id
      · subst e; simpa [EX.toE] using hQ
      · rw [if_neg e]
        have : ¬ EX.ex id' = EX.ex id := by simpa using e
        rw [if_neg this] at hQ
        exact hQ
  | loop x ih =>
    intro σ o s h hs
    simp only [awA] at h
    obtain ⟨e, s', h1, h2, m, h3⟩ := iterA_gm (P := P) (x := x) (fun σ o s h hs => ih h hs) 400 h hs
    exact ⟨e, s', h1, h3.aw⟩
  | _ => intro σ o s h hs; simp [awA] at h
def evsA (σ : AS) : List AK → Option (List AV)
  | [] => some []
  | k :: r => match evA true σ k, evsA σ r with | some a, some l => some (a :: l) | _, _ => none
theorem evsA_gm {σ : AS} {s : St} (h : gS σ s) : ∀ {r : List AK} {l : List AV}, evsA σ r = some l → ∃ ps, gmL l ps ∧ ∀ K : List PV → Prop, K ps → evs s r K
  | [], l, hx => by simp only [evsA, Option.some.injEq] at hx; subst hx; exact ⟨[], by simp [gmL], fun K hK => hK⟩
  | k :: r, l, hx => by
    simp only [evsA] at hx
    split at hx <;> simp only [Option.some.injEq, reduceCtorEq] at hx
    rename_i a l' h1 h2
    subst hx
    obtain ⟨p, g1, g2⟩ := evA_gm h h1
    obtain ⟨ps, g3, g4⟩ := evsA_gm h h2
    exact ⟨p :: ps, by simp only [gmL]; exact ⟨g1, g3⟩, fun K hK => g2 _ (g4 _ hK)⟩
def tupA : List AV → AV
  | [p] => p
  | ps => .tup ps
def flatA : AV → Bool
  | .un | .no | .gd .. | .tup _ => false
  | _ => true
theorem flatA_gm {a : AV} {p : PV} (h : gm a p) (hf : flatA a = true) : p.flat = true := by
  cases a <;> simp [flatA] at hf <;> cases p <;> simp [gm] at h <;> rfl
theorem tupA_gm : ∀ {l : List AV} {ps : List PV}, gmL l ps → gm (tupA l) (tupOf ps)
  | [], [], h => by simp [tupA, tupOf, gm, gmL]
  | [a], [p], h => by simp only [gmL] at h; exact h.1
  | a :: b :: l, p :: q :: ps, h => by simp only [tupA, tupOf, gm]; exact h
  | [], _ :: _, h => by simp [gmL] at h
  | _ :: _, [], h => by simp [gmL] at h
  | [_], _ :: _ :: _, h => by simp [gmL] at h
  | _ :: _ :: _, [_], h => by simp [gmL] at h
theorem flatAL_gm : ∀ {l : List AV} {ps : List PV}, gmL l ps → l.all flatA = true → ps.all PV.flat = true
  | [], [], _, _ => rfl
  | [], _ :: _, h, _ => by simp [gmL] at h
  | _ :: _, [], h, _ => by simp [gmL] at h
  | a :: l, p :: ps, h, hf => by
    simp only [gmL] at h
    simp only [List.all_cons, Bool.and_eq_true] at hf ⊢
    exact ⟨flatA_gm h.1 hf.1, flatAL_gm h.2 hf.2⟩
def leR : AV → AV → Bool
  | .rs k [] o le t s c, .rs k' [] o' le' t' s' c' => decide (k = k' ∧ o = o' ∧ le = le' ∧ t = t' ∧ s = s' ∧ c = c')
  | a, b => leA a b
def leGL : List AV → List AV → Bool
  | [], [] => true
  | a :: l, b :: m => leR a b && leGL l m
  | _, _ => false
def leG : AV → AV → Bool
  | .tup l, .tup m => leGL l m
  | _, _ => false
theorem leR_gm {a b : AV} {p : PV} (h : leR a b = true) (hp : gm a p) : gm b p := by
  unfold leR at h
  split at h
  · simp only [decide_eq_true_eq] at h
    obtain ⟨rfl, rfl, rfl, rfl, rfl, rfl⟩ := h
    exact hp
  · exact leA_gm h hp
theorem leGL_gm : ∀ {l m : List AV} {ps : List PV}, leGL l m = true → gmL l ps → gmL m ps
  | [], [], _, _, h => h
  | [], _ :: _, _, h, _ => by simp [leGL] at h
  | _ :: _, [], _, h, _ => by simp [leGL] at h
  | a :: l, b :: m, [], _, h => by simp [gmL] at h
  | a :: l, b :: m, p :: ps, h, hp => by
    simp only [leGL, Bool.and_eq_true] at h
    simp only [gmL] at hp ⊢
    exact ⟨leR_gm h.1 hp.1, leGL_gm h.2 hp.2⟩
theorem leG_gm {a b : AV} {p : PV} (h : leG a b = true) (hp : gm a p) : gm b p := by
  cases a <;> cases b <;> simp only [leG, Bool.false_eq_true] at h
  cases p <;> simp only [gm] at hp ⊢
  exact leGL_gm h hp
def gk : List AV → Option Nat
  | [] => none
  | .rs k .. :: _ => some k
  | _ :: r => gk r
def outOk (res : List AK) (r : SR) : EX × AS → Bool
  | (e, σ) => (match e with | .ex _ => false | _ => true) && (match r with
    | .val a => (match evsA σ res with
      | some l0 => (match fzsA (dd (rsKL l0)) σ with
        | some σ' => (match evsA σ' res with
          | some l => l.all flatA && (tupA l).pureT && a.pureT && leA (tupA l) a
          | none => false)
        | none => false)
      | none => false)
    | .own sz' m => (match evsA σ res with
      | some [.rs k [] 0 len tot sz .tip] => (match get σ.bx k with
        | some (.arr sz'' l) => decide (sz = sz' ∧ sz'' = sz ∧ len = l.length ∧ tot = l.length) && pureA l && pureA m && leAL l m
        | _ => false)
      | _ => false)
    | .gen r sz' m => (match evsA σ res with
      | some l => (match gk l with
        | some k => (match get σ.bx k with
          | some (.arr sz'' c) => decide (sz'' = sz') && l.all flatA && okG k (tupA l) && okG KB r && pureA c && pureA m && leAL c m && leG (rnT KB (tupA l)) r
          | _ => false)
        | none => false)
      | none => false))
def argA : Nat → List AV → List (Nat × AV)
  | _, [] => []
  | i, p :: r => (i, p) :: argA (i + 1) r
theorem argA_gm : ∀ {l : List AV} {ps : List PV} {i k : Nat} {a : AV}, gmL l ps → get (argA i l) k = some a → ∃ p, get (argEnv i ps) k = some p ∧ gm a p
  | [], _, _, _, _, _, h => by simp [argA, get] at h
  | _ :: _, [], _, _, _, h, _ => by simp [gmL] at h
  | b :: l, p :: ps, i, k, a, hg, h => by
    simp only [gmL] at hg
    simp only [argA, get] at h
    simp only [argEnv, get]
    split at h
    · rename_i e; cases h; exact ⟨p, by rw [if_pos e], hg.1⟩
    · rename_i e; rw [if_neg e]; exact argA_gm hg.2 h
theorem srt_arg : ∀ (ps : List PV) (i : Nat), Srt (argEnv i ps)
  | [], _ => trivial
  | p :: ps, i => by
    refine ⟨fun j x hj => ?_, srt_arg ps (i + 1)⟩
    rw [get_argEnv] at hj
    split at hj
    · omega
    · simp at hj
def chkF (SP : List Spec) (P : Program) (own sp : List Nat) (e : Spec) : Bool :=
  match trFun0 P own sp e.f with
  | some A => decide (e.args.length ≤ A.nt) && (match awA SP A.code ⟨argA 0 e.args, []⟩ with
    | some o => o.all (outOk A.res e.res)
    | none => false)
  | none => false
theorem trFun_er {own sp : List Nat} {f : FuncId} {A : AFun} (h : trFun P own sp f = some A) : trFun P own sp f = some A.er := by
  rw [h]
  unfold trFun at h
  (repeat' split at h) <;> simp only [Option.some.injEq, reduceCtorEq] at h
  subst h
  rename_i hc _
  simp only [AFun.er, trCode_er _ _ _ hc]
end Go.Ab
namespace Go.Ab
variable [Tabs]
variable {P : Program}
theorem ai {SP : List Spec} (hS : SpOk P SP) {own sp : List Nat} {e : Spec} (h : chkF SP P own sp e = true) : e.ok P := by
  intro ps hg
  unfold chkF at h
  split at h
  case h_2 => simp at h
  rename_i A hA
  simp only [Bool.and_eq_true, decide_eq_true_eq] at h
  obtain ⟨hl, h⟩ := h
  split at h
  case h_2 => simp at h
  rename_i o ho
  have hps : ps.length ≤ A.nt := by rw [hg.length]; exact hl
  have h0 : gS ⟨argA 0 e.args, []⟩ ⟨argEnv 0 ps, fpBx 0 []⟩ := ⟨fun k a hk => argA_gm hg hk, fun k _ => rfl, fun k b hk => by simp [get] at hk, srt_arg ps 0, trivial⟩
  obtain ⟨ex, s', ⟨σ, hin, hs⟩, hd⟩ := awA_gm hS A.code ho h0
  have hok := List.all_eq_true.1 h _ hin
  unfold outOk at hok
  simp only [Bool.and_eq_true] at hok
  obtain ⟨hex, hok⟩ := hok
  have ht : trFun P own sp e.f = some A.er := trFun_er (by rw [trFun_0]; exact hA)
  have hfin : ∀ {R : PV → List Blk → Prop}, RetK 0 A.res R s' → ACalls P e.f ps [] R := by
    intro R hR
    refine ACalls.intro ht hps (hd _ ?_)
    cases ex with
    | ex id => simp at hex
    | nm => exact hR
    | rt => exact hR
  split at hok
  · rename_i a hr
    split at hok
    case h_2 => simp at hok
    rename_i l0 hl0
    split at hok
    case h_2 => simp at hok
    rename_i σ' hz
    split at hok
    case h_2 => simp at hok
    rename_i l hl'
    simp only [Bool.and_eq_true] at hok
    obtain ⟨⟨⟨hf, hp⟩, hpa⟩, hle⟩ := hok
    obtain ⟨s2, k1, k2⟩ := fzsA_gm hs hz
    obtain ⟨qs, g1, g2⟩ := evsA_gm k1 hl'
    have hv := (tupA_gm g1).pureT hp
    rw [hr]
    refine ⟨hpa, tupOf qs, leA_gm hle (tupA_gm g1), hfin ⟨_, [], k2 _ ?_⟩⟩
    refine g2 _ ⟨[], ⟨rfl, by simp, rfl⟩, ⟨flatAL_gm g1 hf, hv.refs _, rfl⟩, ?_⟩
    rw [hv.ren]
    exact ⟨rfl, rfl⟩
  · rename_i sz' m hr
    split at hok
    case h_2 => simp at hok
    rename_i k len tot sz hl'
    split at hok
    · rename_i sz'' l hb
      simp only [Bool.and_eq_true, decide_eq_true_eq] at hok
      obtain ⟨⟨⟨⟨rfl, rfl, rfl, rfl⟩, hp⟩, hpm⟩, hle⟩ := hok
      obtain ⟨qs, g1, g2⟩ := evsA_gm hs hl'
      cases qs with
      | nil => simp [gmL] at g1
      | cons q qs =>
        simp only [gmL] at g1
        obtain ⟨g1, g3⟩ := g1
        cases qs with
        | cons _ _ => simp [gmL] at g3
        | nil =>
          simp only [gm] at g1
          subst g1
          obtain ⟨blk, b1, b2⟩ := hs.bx _ _ hb
          cases blk <;> simp only [gB] at b2
          rename_i sz3 x
          obtain ⟨rfl, b2⟩ := b2
          have hx := b2.pureL hp
          have hlen := b2.length
          rw [hr]
          refine ⟨hpm, x, leAL_gm hle b2, hfin ⟨[], [k], ?_⟩⟩
          refine g2 _ ⟨[.arr _ x], ⟨by simp only [getAll, b1]; rfl, by simp, rfl⟩, ⟨rfl, by simp [tupOf, refsOk, inKs, idx], by simp [refsOkB, hx.refs]⟩, ?_⟩
          simp only [tupOf, ren, List.map_cons, List.map_nil, renB, hx.ren, hlen]
          exact ⟨by simp [ren1, idx], by trivial⟩
    · simp at hok
  · rename_i r sz' m hr
    split at hok
    case h_2 => simp at hok
    rename_i l hl'
    split at hok
    case h_2 => simp at hok
    rename_i k hk
    split at hok
    case h_2 => simp at hok
    rename_i sz'' c hb
    simp only [Bool.and_eq_true, decide_eq_true_eq] at hok
    obtain ⟨⟨⟨⟨⟨⟨⟨rfl, hf⟩, ho⟩, hor⟩, hp⟩, hpm⟩, hle⟩, hleg⟩ := hok
    obtain ⟨qs, g1, g2⟩ := evsA_gm hs hl'
    have hT := tupA_gm g1
    obtain ⟨blk, b1, b2⟩ := hs.bx _ _ hb
    cases blk <;> simp only [gB] at b2
    rename_i sz3 x
    obtain ⟨rfl, b2⟩ := b2
    have hx := b2.pureL hp
    have e1 : ren1 [k] k = KB := by simp [ren1, idx]
    have hg : gm (rnT KB (tupA l)) (ren (ren1 [k]) (tupOf qs)) := by
      have := rnT_gm (ren1 [k]) hT ho
      rwa [e1] at this
    rw [hr]
    refine ⟨⟨hor, hpm⟩, ren (ren1 [k]) (tupOf qs), x, leG_gm hleg hg, leAL_gm hle b2, hfin ⟨[], [k], ?_⟩⟩
    refine g2 _ ⟨[.arr _ x], ⟨by simp only [getAll, b1]; rfl, by simp, rfl⟩, ⟨flatAL_gm g1 hf, rnT_refs (by simp [inKs, idx]) hT ho, by simp [refsOkB, hx.refs]⟩, rfl, ?_⟩
    simp only [List.map_cons, List.map_nil, renB, hx.ren]
end Go.Ab
