/- Regions, loops and bodies do what their abstract reading says. No condition. -/
import Derived.Test.YtafmeafepngngaaA3
set_option linter.all false
/- Operations with their guards, and lists of them. No condition. -/
namespace Go.Ab
variable {P : Program} {nt : Nat} {s : St} {Γ : Cx} {a : Act} {w : World}

structure AO where
  dst : Option Nat
  guard : Option (Nat × Bool)
  mg : Bool
  k : AK

def isEx : AK → Bool
  | .alloc _ | .box _ | .buildSlice .. | .makeSlice .. | .store .. | .append .. | .copy .. | .isNil .. => true
  | _ => false

def callW (P : Program) (s : St) (d : Option Nat) (f : AX) (args : List AX) (K : St → Prop) : Prop :=
  vg true s f fun pf => vgs true s args fun ps => match pf with
    | .fn (.func fid) first cap => ∃ ks os, CallK P s d fid (first ++ ps ++ cap) ks os K
    | _ => False

/-- a call that touches no block of ours, with one known result -/
def callQ (P : Program) (s : St) (d : Option Nat) (f : AX) (args : List AX) (K : St → Prop) : Prop :=
  vg true s f fun pf => vgs true s args fun ps => match pf with
    | .fn (.func fid) first cap => ∃ v, (refsOkL (fun _ => false) (first ++ ps ++ cap) = true ∧ refsOk (fun _ => false) v = true) ∧
        ACalls P fid (first ++ ps ++ cap) [] (fun r fp => r = v ∧ fp = []) ∧ K (s.put d v)
    | _ => False

def do1 (P : Program) (s : St) (o : AO) (K : St → Prop) : Prop :=
  match o.k with
  | .call f args => callW P s o.dst f args K
  | .callq f args => callQ P s o.dst f args K
  | k => if isEx k = true then ex s o.dst k K else ev true s k fun p => K (s.put o.dst p)

def wpo (P : Program) (s : St) (o : AO) (K : St → Prop) : Prop :=
  match o.guard with
  | none => do1 P s o K
  | some (sl, want) => match (get s.env sl).getD .un with
    | .bl b => if o.mg = true then ev (b == want) s o.k (fun p => K (s.put o.dst (.gd (b == want) p)))
        else (b = want → do1 P s o K) ∧ (b ≠ want → K (s.put o.dst .un))
    | .gd g (.bl b) => if o.mg = true then ev (g && b == want) s o.k (fun p => K (s.put o.dst (.gd (g && b == want) p)))
        else (g = true → b = want → do1 P s o K) ∧ ((g = true → b ≠ want) → K (s.put o.dst .un))
    | _ => False

/-- which operations may be done though their guard is not decided -/
def mergeable : AK → Bool
  | .mv _ | .pick .. | .load .. | .nilCheck _ | .un .. | .convI .. | .convS _ | .fieldA .. | .field .. | .extract .. | .len _ | .lenS _ | .lenC _ | .mm .. => true
  | .bin op _ _ _ => match op with | .quo | .rem | .shl | .shr => false | _ => true
  | _ => false

def trGuard (ops : Array Oper) : Option (Nat × Bool) → Option (Option (Nat × Bool))
  | none => some none
  | some (j, want) => match (ops[j]?).bind (·.dst) with | some d => some (some (d, want)) | none => none

def dstOk (nt : Nat) (d : Option Nat) (k : AK) : Bool :=
  match d, k with
  | some _, .store .. => false
  | some d, _ => decide (d < nt)
  | none, _ => true

/-- quiet calls where the order is drawn; the empty slice's own size -/
def fixK (P : Program) (draw : Bool) (ty : TypeId) : AK → AK
  | .call f args => if draw = true then .callq f args else .call f args
  | .mv (.c (.sl 0 [] true)) => (match P.underlying ty with
    | some (.slice e) => .mv (.c (.sl (P.cellsOf e) [] true))
    | _ => .mv (.c (.sl 0 [] true)))
  | k => k

/-- 'own': slots whose literal is to be a block of ours; 'sp': slots whose guard is to be decided; 'draw': calls are quiet ones -/
def trOper (P : Program) (nt : Nat) (ops : Array Oper) (own sp : List Nat) (draw : Bool) (o : Oper) : Option AO :=
  match trK P (match o.dst with | some d => own.contains d | none => false) o.op, trGuard ops o.guard with
  | some k, some g => if dstOk nt o.dst k = true then some ⟨o.dst, g, mergeable k && !(match o.dst with | some d => sp.contains d | none => false), fixK P draw o.type k⟩ else none
  | _, _ => none

theorem Oper.wp_of_stepd {o : Oper} {K : St → Prop} {Kr : Act → World → Prop} {Q : Exit → Act → World → Prop} (h : Stepd P nt o a w Γ K)
    (hk : ∀ s' Γ' a' w', Sim nt s' Γ' a' → w'.heap = Γ'.heap → Le Γ Γ' → WF w w' → K s' → Kr a' w') : o.wp P a w Kr Q := by
  obtain ⟨nx, v, w', s', Γ', hrun, hnx, hs, hh, hle, hwf, hK⟩ := h
  unfold Oper.wp
  rw [hrun]
  rcases hnx with rfl | ⟨rfl, rfl⟩
  · exact hk _ _ _ _ hs hh hle hwf hK
  · exact hk _ _ _ _ hs hh hle hwf hK

/-- a quiet operation done -/
theorem stepd_ev {o : Oper} {k : AK} {own : Bool} {K : St → Prop} (hk : trK P own o.op = some k) (hs : Sim nt s Γ a) (hw : w.heap = Γ.heap) (hd : ∀ j, o.dst = some j → j < nt) (he : ev true s k fun p => K (s.put o.dst p)) : Stepd P nt o a w Γ K := by
  obtain ⟨p, v, hK, hrun, hr⟩ := ev_sound hk hs hw rfl he
  exact step_quiet hs hd (Le.refl Γ) hs.mem rfl hrun hw (WF.refl w) hr hK

theorem stepd_ex {o : Oper} {k : AK} {own : Bool} {K : St → Prop} (hk : trK P own o.op = some k) (hs : Sim nt s Γ a) (hw : w.heap = Γ.heap) (hd : dstOk nt o.dst k = true) (he : ex s o.dst k K) : Stepd P nt o a w Γ K := by
  have hd' : (∀ x y z, k ≠ .store x y z) → ∀ j, o.dst = some j → j < nt := by
    intro hne j hj
    rw [hj] at hd
    unfold dstOk at hd
    split at hd
    · exact absurd rfl (hne _ _ _)
    · rename_i heq _; simp at heq; subst heq; simpa using hd
    · rename_i heq; simp at heq
  cases hop : o.op with
  | alloc t =>
    rw [hop] at hk; simp only [trK] at hk
    split at hk <;> simp only [Option.some.injEq, reduceCtorEq] at hk
    rename_i z hz; subst hk
    exact snd_alloc hop hz hs hw (hd' (by intros; simp)) he
  | box t x =>
    rw [hop] at hk; simp only [trK] at hk
    split at hk <;> simp only [Option.some.injEq, reduceCtorEq] at hk
    rename_i y hy; subst hk
    exact snd_box hop hy hs hw (hd' (by intros; simp)) he
  | buildSlice t n parts =>
    rw [hop] at hk; simp only [trK] at hk
    split at hk
    · rename_i e ps hu hp
      split at hk
      · rename_i z sz hz hsz
        split at hk <;> simp only [Option.some.injEq, reduceCtorEq] at hk
        rename_i hc; subst hk
        exact snd_buildSlice hop hu hp hz hsz hc.1 hc.2 hs hw (hd' (by intros; simp)) he
      · simp at hk
    · simp at hk
  | makeSlice t l c =>
    rw [hop] at hk; simp only [trK] at hk
    split at hk
    · rename_i e l' c' hu hl hc
      split at hk
      · rename_i z i hz hi
        split at hk <;> simp only [Option.some.injEq, reduceCtorEq] at hk
        rename_i hpos; subst hk
        exact snd_makeSlice hop hu hl hc hz hi hpos hs hw (hd' (by intros; simp)) he
      · simp at hk
    · simp at hk
  | store t x y =>
    rw [hop] at hk; simp only [trK] at hk
    split at hk <;> simp only [Option.some.injEq, reduceCtorEq] at hk
    rename_i n x' y' hn hx hy; subst hk
    refine snd_store hop hn hx hy hs hw ?_ he
    cases hdd : o.dst with
    | none => rfl
    | some d => rw [hdd] at hd; simp [dstOk] at hd
  | call c =>
    obtain ⟨callee, args, tys⟩ := c
    rw [hop] at hk
    cases callee with
    | value f =>
      simp only [trK] at hk
      split at hk <;> simp only [Option.some.injEq, reduceCtorEq] at hk
      subst hk; simp [ex] at he
    | invoke r m => simp [trK] at hk
    | builtin b =>
      simp only [trK] at hk
      obtain ⟨args⟩ := args
      obtain ⟨tys⟩ := tys
      simp only at hk
      cases b with
      | append =>
        match args, tys, hop, hk with
        | [x, y], [t, u], hop, hk =>
          unfold trBuiltin at hk
          simp only at hk
          split at hk
          · rename_i e d x' y' hu1 hu2 hx hy
            split at hk
            · rename_i i hi
              split at hk
              · rename_i z hz
                split at hk
                · rename_i hc
                  split at hk
                  · simp only [Option.some.injEq] at hk; subst hk
                    exact snd_append hop hu1 hu2 (.inl ⟨_, rfl⟩) hi hz hc.1 hc.2 hx hy hs hw (hd' (by intros; simp)) he
                  · split at hk <;> simp only [Option.some.injEq, reduceCtorEq] at hk
                    rename_i h1; subst hk
                    exact snd_append hop hu1 hu2 (.inr rfl) hi hz hc.1 hc.2 hx hy hs hw (hd' (by intros; simp)) he
                  · simp at hk
                · simp at hk
              · simp at hk
            · simp at hk
          · simp at hk
        | [], _, _, hk | [_], _, _, hk | _ :: _ :: _ :: _, _, _, hk | [_, _], [], _, hk | [_, _], [_], _, hk | [_, _], _ :: _ :: _ :: _, _, hk => simp [trBuiltin] at hk
      | copy =>
        match args, tys, hop, hk with
        | [x, y], [t, u], hop, hk =>
          unfold trBuiltin at hk
          simp only at hk
          split at hk
          · rename_i e x' y' hu1 hx hy
            split at hk <;> simp only [Option.some.injEq, reduceCtorEq] at hk
            rename_i n hn; subst hk
            exact snd_copy hop hu1 hn hx hy hs hw (hd' (by intros; simp)) he
          · simp at hk
        | [], _, _, hk | [_], _, _, hk | _ :: _ :: _ :: _, _, _, hk | [_, _], [], _, hk | [_, _], [_], _, hk | [_, _], _ :: _ :: _ :: _, _, hk => simp [trBuiltin] at hk
      | len =>
        exfalso
        unfold trBuiltin at hk
        repeat (split at hk <;> (try contradiction))
        all_goals first | (simp only [Option.some.injEq] at hk; subst hk; simp [ex] at he; done) | (simp at hk; done) | (split at hk <;> first | (simp only [Option.some.injEq] at hk; subst hk; simp [ex] at he; done) | (simp at hk; done))
      | min =>
        unfold trBuiltin at hk
        split at hk <;> (try contradiction)
        split at hk <;> simp only [Option.some.injEq, reduceCtorEq] at hk
        subst hk; simp [ex] at he
      | max =>
        unfold trBuiltin at hk
        split at hk <;> (try contradiction)
        split at hk <;> simp only [Option.some.injEq, reduceCtorEq] at hk
        subst hk; simp [ex] at he
      | _ => unfold trBuiltin at hk; split at hk <;> contradiction
  | binOp op t x y yt =>
    by_cases hn : ∃ ng p, k = .isNil ng p
    · obtain ⟨ng, p, rfl⟩ := hn
      rw [hop] at hk
      exact snd_isNil hop hk hs hw (hd' (by intros; simp)) he
    rw [hop] at hk; simp only [trK] at hk
    exfalso
    repeat (split at hk <;> (try contradiction))
    all_goals first | (simp only [Option.some.injEq] at hk; subst hk; simp [ex] at he; done) | (simp at hk; done) | (simp only [Option.some.injEq] at hk; exact hn ⟨_, _, hk.symm⟩) | (split at hk <;> first | (simp only [Option.some.injEq] at hk; subst hk; simp [ex] at he; done) | (simp at hk; done) | (simp only [Option.some.injEq] at hk; exact hn ⟨_, _, hk.symm⟩) | (split at hk <;> first | (simp only [Option.some.injEq] at hk; subst hk; simp [ex] at he; done) | (simp at hk; done) | (simp only [Option.some.injEq] at hk; exact hn ⟨_, _, hk.symm⟩) | (split at hk <;> first | (simp only [Option.some.injEq] at hk; subst hk; simp [ex] at he; done) | (simp at hk; done) | (simp only [Option.some.injEq] at hk; exact hn ⟨_, _, hk.symm⟩))))
  | _ =>
    exfalso
    rw [hop] at hk
    first
    | (simp only [trK, reduceCtorEq] at hk; done)
    | (simp only [trK] at hk
       repeat (split at hk <;> (try contradiction))
       all_goals first | (simp only [Option.some.injEq] at hk; subst hk; simp [ex] at he; done) | (simp at hk; done) | (split at hk <;> first | (simp only [Option.some.injEq] at hk; subst hk; simp [ex] at he; done) | (simp at hk; done) | (split at hk <;> first | (simp only [Option.some.injEq] at hk; subst hk; simp [ex] at he; done) | (simp at hk; done))))

end Go.Ab
/- Calls, and operations with their guards, are sound. No condition. -/
namespace Go.Ab
variable {P : Program} {nt : Nat} {s : St} {Γ : Cx} {a : Act} {w : World}

theorem RepL.toV {p : PV} {v : Value} (h : RepL Γ [p] [v]) (ha : p.isAgg = false) : RepV Γ p v := by
  cases p <;> simp [PV.isAgg] at ha <;> first | (simp only [RepV]; done) | (simp only [RepV]; exact h) | (exact absurd h (by intro h; cases h))

theorem allR_of_repL : ∀ {l : List PV} {vs : List Value}, RepL Γ l vs → (∀ x ∈ l, x.isAgg = false) → AllR Γ l vs
  | [], vs, h, _ => by cases h; trivial
  | p :: l, vs, h, hn => by
    obtain ⟨cs, us, rfl, h1, h2⟩ := h.uncons
    have hp := hn p (by simp)
    have hw : p.width = 1 := by cases p <;> simp [PV.isAgg] at hp <;> rfl
    have hl := h1.width1
    rw [hw] at hl
    obtain ⟨v, rfl⟩ := List.length_eq_one_iff.1 hl
    exact ⟨h1.toV hp, allR_of_repL h2 (fun x hx => hn x (by simp [hx]))⟩

theorem AllR.append : ∀ {l m : List PV} {vs us : List Value}, AllR Γ l vs → AllR Γ m us → AllR Γ (l ++ m) (vs ++ us)
  | [], m, [], us, _, h => h
  | p :: l, m, v :: vs, us, h, h' => ⟨h.1, AllR.append h.2 h'⟩
  | [], m, v :: vs, us, h, _ => by simp [AllR] at h
  | p :: l, m, [], us, h, _ => by simp [AllR] at h

theorem AllR.ren {f : Nat → Bool} {ρ : Nat → Nat} {Δ : Cx} (hs : Same f ρ Γ Δ) : ∀ {l : List PV} {vs : List Value}, AllR Γ l vs → refsOkL f l = true → AllR Δ (renL ρ l) vs
  | [], [], _, _ => trivial
  | p :: l, v :: vs, h, hf => by
    simp only [refsOkL, Bool.and_eq_true] at hf
    exact ⟨h.1.ren hs hf.1, AllR.ren hs h.2 hf.2⟩
  | [], v :: vs, h, _ => by simp [AllR] at h
  | p :: l, [], h, _ => by simp [AllR] at h

theorem allR_of_at : ∀ {ps : List PV} {xs : List Operand}, ps.length = xs.length → (∀ (i : Nat) p x, ps[i]? = some p → xs[i]? = some x → RepV Γ p (a.eval x)) → AllR Γ ps (xs.map a.eval)
  | [], [], _, _ => trivial
  | p :: ps, x :: xs, hl, h => ⟨h 0 p x rfl rfl, allR_of_at (by simpa using hl) (fun i q y h1 h2 => h (i + 1) q y h1 h2)⟩
  | [], _ :: _, hl, _ => by simp at hl
  | _ :: _, [], hl, _ => by simp at hl

/-- what a call must do next -/
def Nxt (P : Program) (nt : Nat) (Γ : Cx) (w : World) (K : St → Prop) (Kr : Act → World → Prop) : Prop :=
  ∀ s' Γ' a' w', Sim nt s' Γ' a' → w'.heap = Γ'.heap → Le Γ Γ' → WF w w' → K s' → Kr a' w'

theorem exec_call {o : Oper} {f : Operand} {args : Array Operand} {tys : Array TypeId} {fid : FuncId} {fs cs : Array Value} (ho : o.op = .call { callee := .value f, args, argTypes := tys }) (hf : a.eval f = .func (.func fid) fs cs) :
    execOp a.eval o = (do let d ← (Pure.pure { target := .fn (.func fid) cs, args := fs ++ args.map a.eval } : Sem Deferred); invoke d.target d.args) := by
  unfold execOp
  rw [ho]
  simp only [resolve, hf, Deferred.ofValue]

theorem call_value {o : Oper} {f : Operand} {args : Array Operand} {tys : Array TypeId} {fid : FuncId} {first cap ps : List PV} (ho : o.op = .call { callee := .value f, args, argTypes := tys })
    (hf : RepV Γ (.fn (.func fid) first cap) (a.eval f)) (hl : ps.length = args.toList.length) (hp : ∀ (i : Nat) p x, ps[i]? = some p → args.toList[i]? = some x → RepV Γ p (a.eval x)) :
    ∃ vs : List Value, AllR Γ (first ++ ps ++ cap) vs ∧ ∀ w, (callFunc fid vs.toArray).run P w = .ok (.enter fid vs.toArray) w → (execOp a.eval o).run P w = .ok (.enter fid vs.toArray) w := by
  simp only [RepV] at hf
  generalize hv : a.eval f = v at hf
  cases hf with
  | @fn _ _ fs cs _ _ _ h1 h2 h3 h4 _ =>
    refine ⟨fs ++ args.toList.map a.eval ++ cs, ((allR_of_repL h1 h3).append (allR_of_at hl hp)).append (allR_of_repL h2 h4), fun w hc => ?_⟩
    rw [exec_call ho hv]
    have e : (fs ++ args.toList.map a.eval ++ cs).toArray = (fs.toArray ++ args.map a.eval) ++ cs.toArray := by
      apply Array.ext'; simp
    rw [e] at hc ⊢
    exact hc

theorem callW_sound {o : Oper} {f : Operand} {args : Array Operand} {tys : Array TypeId} {f' : AX} {args' : List AX} {K : St → Prop} {Kr : Act → World → Prop} {Q : Exit → Act → World → Prop} (ho : o.op = .call { callee := .value f, args, argTypes := tys })
    (hf : trX f = some f') (hx : trXs args.toList = some args') (hs : Sim nt s Γ a) (hw : w.heap = Γ.heap) (hd : ∀ j, o.dst = some j → j < nt) (h : callW P s o.dst f' args' K) (hk : Nxt P nt Γ w K Kr) : o.wp P a w Kr Q := by
  unfold callW at h
  obtain ⟨pf, h, hrf⟩ := vg_rep hf hs rfl h
  obtain ⟨ps, h, hl, hp⟩ := vgs_rep hs rfl hx h
  split at h
  case h_2 => exact h.elim
  rename_i fid first cap
  obtain ⟨ks, os, blks, R, hg, hn, hos, hr1, hr2, ⟨hc1, hc2⟩, hK⟩ := h
  obtain ⟨vs, hA, hrun⟩ := call_value (P := P) ho hrf hl hp
  unfold Oper.wp
  rw [hrun w (hc1 _ w)]
  rw [Oper.upon_enter]
  rw [← hs.bx] at hg hos
  have hnk : ks.Nodup := (List.nodup_append.1 hn).1
  have hsame := Cx.call_same hg
  refine (hc2 (Γ.call ks blks) w vs hw (Cx.call_mem hs.mem hg hnk hr2) rfl (hA.ren hsame hr1)).mono ?_
  rintro e w' ⟨v, r, fp, Γ', rfl, hR, hw', hm', hbx', hrv, hle, hwf⟩
  obtain ⟨⟨hlen, hrr, hfr⟩, hKK⟩ := hK r fp hR
  obtain ⟨same2, le2, mem2⟩ := back_facts hs.mem hg hn hos hm' hbx' hle hlen hfr
  have hs' := hs.le le2 mem2 (bx' := putAll s.bx (ks ++ os) (fp.map (renB (ren2 (ks ++ os))))) (by simp [Cx.back, hs.bx])
  exact hk _ _ _ _ (hs'.put hd (hrv.ren same2 hrr)) (by simp [Cx.back, hw']) le2 hwf hKK

theorem refsOk_false_ren {ρ : Nat → Nat} {p : PV} (h : refsOk (fun _ => false) p = true) : ren ρ p = p := ren_id (f := fun _ => false) (by simp) p h
theorem refsOkL_false_ren {ρ : Nat → Nat} {l : List PV} (h : refsOkL (fun _ => false) l = true) : renL ρ l = l := renL_id (f := fun _ => false) (by simp) l h

mutual
theorem refsOk_weaken {f g : Nat → Bool} (h : ∀ k, f k = true → g k = true) : ∀ p, refsOk f p = true → refsOk g p = true
  | .st w l, hh => by simp only [refsOk] at *; exact refsOkL_weaken h l hh
  | .ar sz n l, hh => by simp only [refsOk] at *; exact refsOkL_weaken h l hh
  | .tup l, hh => by simp only [refsOk] at *; exact refsOkL_weaken h l hh
  | .sl sz l c, hh => by simp only [refsOk] at *; exact refsOkL_weaken h l hh
  | .fp sz l c, hh => by simp only [refsOk] at *; exact refsOkL_weaken h l hh
  | .fn f x y, hh => by simp only [refsOk, Bool.and_eq_true] at *; exact ⟨refsOkL_weaken h x hh.1, refsOkL_weaken h y hh.2⟩
  | .gd b p, hh => by simp only [refsOk] at *; exact refsOk_weaken h p hh
  | .ifc b p, hh => by simp only [refsOk] at *; exact refsOk_weaken h p hh
  | .rs .., hh => by simp only [refsOk] at *; exact h _ hh
  | .pt .., hh => by simp only [refsOk] at *; exact h _ hh
  | .un, _ | .bl _, _ | .int .., _ | .str _, _ | .np, _ | .nf, _ | .ni, _ => by simp [refsOk]
theorem refsOkL_weaken {f g : Nat → Bool} (h : ∀ k, f k = true → g k = true) : ∀ l, refsOkL f l = true → refsOkL g l = true
  | [], _ => by simp [refsOkL]
  | p :: l, hh => by simp only [refsOkL, Bool.and_eq_true] at *; exact ⟨refsOk_weaken h p hh.1, refsOkL_weaken h l hh.2⟩
end

theorem callW_of_callQ {d : Option Nat} {f : AX} {args : List AX} {K : St → Prop} (h : callQ P s d f args K) : callW P s d f args K := by
  unfold callQ at h
  unfold callW
  have hv : ∀ {g : Bool} {x : AX} {K K' : PV → Prop}, (∀ p, K p → K' p) → vg g s x K → vg g s x K' := by
    intro g x K K' hh hv
    unfold vg at *
    split at hv
    · exact ⟨hv.1, hh _ hv.2⟩
    · exact hh _ hv
  have hvs : ∀ {g : Bool} {xs : List AX} {K K' : List PV → Prop}, (∀ p, K p → K' p) → vgs g s xs K → vgs g s xs K' := by
    intro g xs
    induction xs with
    | nil => intro K K' hh hv; exact hh _ hv
    | cons x xs ih => intro K K' hh hq; exact hv (fun p hp => ih (fun q hq => hh _ hq) hp) hq
  refine hv (fun pf hq => hvs (fun ps hr => ?_) hq) h
  split at hr
  case h_2 => exact hr.elim
  rename_i fid first cap
  obtain ⟨v, ⟨h1, h2⟩, hc, hK⟩ := hr
  refine ⟨[], [], [], (fun r fp => r = v ∧ fp = []), rfl, by simp, by simp, refsOkL_weaken (by simp) _ h1, rfl, ?_, ?_⟩
  · rw [refsOkL_false_ren h1]; exact hc
  · rintro r fp ⟨rfl, rfl⟩
    refine ⟨⟨rfl, refsOk_weaken (by simp) _ h2, rfl⟩, ?_⟩
    rw [refsOk_false_ren h2]
    exact hK

end Go.Ab
/- The quiet operations are determined: what they come to, on what they depend. No condition. -/
namespace Go.Ab
variable {P : Program} {nt : Nat} {s : St} {Γ : Cx} {a : Act} {w : World}

/-- a determined computation -/
def Dt {α : Type} (C : (α → Prop) → Prop) : Prop := ∀ K, C K → ∃ p, K p ∧ ∀ K' : α → Prop, K' p → C K'

theorem Dt.ret {α : Type} (v : α) : Dt (fun K => K v) := fun _ h => ⟨v, h, fun _ h => h⟩
theorem Dt.no {α : Type} : Dt (fun _ : α → Prop => False) := fun _ h => h.elim
theorem Dt.bind {α β : Type} {C : (α → Prop) → Prop} {D : α → (β → Prop) → Prop} (hc : Dt C) (hd : ∀ p, Dt (D p)) : Dt (fun K => C (fun p => D p K)) := by
  intro K h
  obtain ⟨p, hp, hk⟩ := hc _ h
  obtain ⟨q, hq, hk2⟩ := hd p _ hp
  exact ⟨q, hq, fun K' h' => hk _ (hk2 _ h')⟩
theorem Dt.and {α : Type} {c : Prop} {C : (α → Prop) → Prop} (hc : Dt C) : Dt (fun K => c ∧ C K) := by
  intro K h
  obtain ⟨p, hp, hk⟩ := hc _ h.2
  exact ⟨p, hp, fun K' h' => ⟨h.1, hk _ h'⟩⟩

theorem dt_vg (g : Bool) (s : St) (x : AX) : Dt (vg g s x) := by
  unfold vg
  split
  · exact Dt.and (Dt.ret _)
  · exact Dt.ret _
theorem dt_vgs (g : Bool) (s : St) : ∀ xs, Dt (vgs g s xs)
  | [] => Dt.ret _
  | x :: xs => by
    show Dt fun K => vgs g s (x :: xs) K
    simp only [vgs]
    exact Dt.bind (dt_vg g s x) fun p => Dt.bind (dt_vgs g s xs) fun ps => Dt.ret _
theorem dt_vgp (g : Bool) (s : St) : ∀ xs, Dt (vgp g s xs)
  | [] => Dt.ret _
  | (i, x) :: xs => by
    show Dt fun K => vgp g s ((i, x) :: xs) K
    simp only [vgp]
    exact Dt.bind (dt_vg g s x) fun p => Dt.bind (dt_vgp g s xs) fun ps => Dt.ret _
theorem dt_intK (p : PV) : Dt (intK p) := by
  unfold intK; split
  · exact Dt.ret _
  · exact Dt.no
theorem dt_mmInt (mx : Bool) : ∀ l a, Dt (mmInt mx a l)
  | [], a => Dt.ret _
  | p :: r, a => by
    show Dt fun K => mmInt mx a (p :: r) K
    simp only [mmInt]
    exact Dt.bind (dt_intK p) fun b => dt_mmInt mx r _
theorem dt_binI (op : BinOp) (k : IntKind) (a b : Int) : Dt (binI op k a b) := by
  cases op <;> first | exact Dt.ret _ | exact Dt.and (Dt.ret _)
theorem dt_binS (op : BinOp) (a b : List UInt8) : Dt (binS op a b) := by
  cases op <;> first | exact Dt.ret _ | exact Dt.and (Dt.ret _) | exact Dt.no
theorem dt_binE (op : BinOp) (b : Bool) : Dt (binE op b) := by
  cases op <;> first | exact Dt.ret _ | exact Dt.no
theorem dt_binV (s : St) (op : BinOp) (eqs : ET) (p q : PV) : Dt (binV s op eqs p q) := by
  show Dt fun K => binV s op eqs p q K
  cases eqs <;> simp only [binV]
  case no => split <;> first | exact Dt.and (dt_binI _ _ _ _) | exact dt_binS _ _ _ | exact Dt.no
  case sh x => exact Dt.and (dt_binE _ _)
  case bl => split <;> first | exact dt_binE _ _ | exact Dt.no
  case ptr =>
    split
    · exact dt_binE _ _
    · split
      · exact Dt.and (dt_binE _ _)
      · exact Dt.no
    · exact dt_binE _ _
    · exact Dt.no

/-- a computation with two results -/
def Dt2 {α β : Type} (C : (α → β → Prop) → Prop) : Prop := ∀ K, C K → ∃ p q, K p q ∧ ∀ K' : α → β → Prop, K' p q → C K'
theorem Dt2.ret {α β : Type} (v : α) (u : β) : Dt2 (fun K => K v u) := fun _ h => ⟨v, u, h, fun _ h => h⟩
theorem Dt2.no {α β : Type} : Dt2 (fun _ : α → β → Prop => False) := fun _ h => h.elim
theorem Dt2.and {α β : Type} {c : Prop} {C : (α → β → Prop) → Prop} (hc : Dt2 C) : Dt2 (fun K => c ∧ C K) := by
  intro K h
  obtain ⟨p, q, hp, hk⟩ := hc _ h.2
  exact ⟨p, q, hp, fun K' h' => ⟨h.1, hk _ h'⟩⟩
theorem Dt2.of {α β γ : Type} {C : (α → Prop) → Prop} {D : α → (β → γ → Prop) → Prop} (hc : Dt C) (hd : ∀ p, Dt2 (D p)) : Dt2 (fun K => C (fun p => D p K)) := by
  intro K h
  obtain ⟨p, hp, hk⟩ := hc _ h
  obtain ⟨q, r, hq, hk2⟩ := hd p _ hp
  exact ⟨q, r, hq, fun K' h' => hk _ (hk2 _ h')⟩
theorem Dt.bind2 {α β γ : Type} {C : (α → β → Prop) → Prop} {D : α → β → (γ → Prop) → Prop} (hc : Dt2 C) (hd : ∀ p q, Dt (D p q)) : Dt (fun K => C (fun p q => D p q K)) := by
  intro K h
  obtain ⟨p, q, hp, hk⟩ := hc _ h
  obtain ⟨r, hq, hk2⟩ := hd p q _ hp
  exact ⟨r, hq, fun K' h' => hk _ (hk2 _ h')⟩

theorem dt_content (s : St) (p : PV) : Dt2 (content s p) := by
  show Dt2 fun K => content s p K
  cases p <;> simp only [content] <;> first
    | exact Dt2.ret _ _ | exact Dt2.no
    | (split <;> first | exact Dt2.and (Dt2.ret _ _) | exact Dt2.no | (split <;> first | exact Dt2.and (Dt2.ret _ _) | exact Dt2.no))

theorem dt_lohi (g : Bool) (s : St) (lo hi : Option AX) (len cap : Nat) : Dt2 (lohi g s lo hi len cap) := by
  unfold lohi
  refine Dt2.of (C := match hi with | none => fun (J : Nat → Prop) => J len | some x => fun J => vg g s x fun p => intK p fun h => (0 ≤ h ∧ h ≤ cap) ∧ J h.toNat) ?_ fun h => ?_
  · cases hi with
    | none => exact Dt.ret _
    | some x => exact Dt.bind (dt_vg g s x) fun p => Dt.bind (dt_intK p) fun h => Dt.and (Dt.ret _)
  · refine Dt2.of (C := match lo with | none => fun (J : Nat → Prop) => J 0 | some x => fun J => vg g s x fun p => intK p fun l => (0 ≤ l ∧ l ≤ h) ∧ J l.toNat) ?_ fun l => Dt2.ret _ _
    cases lo with
    | none => exact Dt.ret _
    | some x => exact Dt.bind (dt_vg g s x) fun p => Dt.bind (dt_intK p) fun h => Dt.and (Dt.ret _)

theorem dt_ev (g : Bool) (s : St) (k : AK) : Dt (ev g s k) := by
  have V := dt_vg g s
  have I := dt_intK
  show Dt fun K => ev g s k K
  cases k with
  | mv x => exact V x
  | pick c a b =>
    simp only [ev]
    refine Dt.bind (V c) fun p => ?_
    split
    · split <;> first | exact Dt.ret _ | exact Dt.and (Dt.ret _) | exact Dt.no
    · exact Dt.no
  | build z parts =>
    simp only [ev]
    refine Dt.bind (dt_vgp g s parts) fun p => ?_
    split <;> first | exact Dt.no | (split <;> first | exact Dt.ret _ | exact Dt.no)
  | load agg w x =>
    simp only [ev]
    refine Dt.bind (V x) fun p => ?_
    split
    · split
      · split <;> first | exact Dt.and (Dt.ret _) | exact Dt.no
      · exact Dt.no
    · split <;> first | exact Dt.and (Dt.ret _) | exact Dt.no
    · exact Dt.no
  | nilCheck x =>
    simp only [ev]
    refine Dt.bind (V x) fun p => ?_
    split
    · split <;> first | exact Dt.and (Dt.ret _) | exact Dt.no
    all_goals first | exact Dt.ret _ | exact Dt.no
  | bin op eqs x y => simp only [ev]; exact Dt.bind (V x) fun p => Dt.bind (V y) fun q => dt_binV _ _ _ _ _
  | un op x =>
    simp only [ev]
    refine Dt.bind (V x) fun p => ?_
    split <;> first | exact Dt.ret _ | exact Dt.no
  | convI k x => simp only [ev]; exact Dt.bind (V x) fun p => Dt.bind (I p) fun n => Dt.ret _
  | convS x =>
    simp only [ev]
    refine Dt.bind (V x) fun p => Dt.bind2 (dt_content s p) fun sz l => Dt.and ?_
    split <;> first | exact Dt.ret _ | exact Dt.no
  | mkFunc f first cap => simp only [ev]; exact Dt.bind (dt_vgs g s first) fun p => Dt.bind (dt_vgs g s cap) fun q => Dt.and (Dt.ret _)
  | slice k x lo hi mx =>
    cases k with
    | str =>
      simp only [ev]
      refine Dt.bind (V x) fun p => ?_
      split
      · exact Dt.and (Dt.bind2 (dt_lohi _ _ _ _ _ _) fun l h => Dt.ret _)
      · exact Dt.no
    | sl sz =>
      simp only [ev]
      refine Dt.bind (V x) fun p => ?_
      split
      · split
        · exact Dt.bind2 (dt_lohi _ _ _ _ _ _) fun l h => Dt.and (Dt.ret _)
        · exact Dt.bind (V _) fun q => Dt.bind (I q) fun m => Dt.and (Dt.bind2 (dt_lohi _ _ _ _ _ _) fun l h => Dt.and (Dt.ret _))
      · split
        · refine Dt.and ?_
          split
          · exact Dt.bind2 (dt_lohi _ _ _ _ _ _) fun l h => Dt.ret _
          · exact Dt.bind (V _) fun q => Dt.bind (I q) fun m => Dt.and (Dt.bind2 (dt_lohi _ _ _ _ _ _) fun l h => Dt.ret _)
        · exact Dt.no
      · exact Dt.no
    | ar n sz =>
      simp only [ev]
      refine Dt.bind (V x) fun p => ?_
      split
      · split
        · exact Dt.and (Dt.and (Dt.bind2 (dt_lohi _ _ _ _ _ _) fun l h => Dt.ret _))
        · exact Dt.no
      · exact Dt.no
  | fieldA i off x =>
    simp only [ev]
    refine Dt.bind (V x) fun p => ?_
    split
    · split <;> first | exact Dt.and (Dt.ret _) | exact Dt.no
    all_goals first | exact Dt.ret _ | exact Dt.no
  | field i off agg w x =>
    simp only [ev]
    refine Dt.bind (V x) fun p => ?_
    split
    · split <;> first | exact Dt.and (Dt.ret _) | exact Dt.no
    · exact Dt.no
  | indexA k x i =>
    cases k with
    | str => simp only [ev]; exact Dt.no
    | sl sz =>
      simp only [ev]
      refine Dt.bind (V x) fun p => Dt.bind (V i) fun q => Dt.bind (I q) fun j => ?_
      split
      · exact Dt.and (Dt.ret _)
      · split <;> first | exact Dt.and (Dt.ret _) | exact Dt.no
      · exact Dt.no
    | ar n sz =>
      simp only [ev]
      refine Dt.bind (V x) fun p => Dt.bind (V i) fun q => Dt.bind (I q) fun j => Dt.and ?_
      split
      · split <;> first | exact Dt.and (Dt.ret _) | exact Dt.no
      all_goals first | exact Dt.ret _ | exact Dt.no
  | index agg n w x i =>
    simp only [ev]
    refine Dt.bind (V x) fun p => Dt.bind (V i) fun q => Dt.bind (I q) fun j => ?_
    split
    · split <;> first | exact Dt.and (Dt.ret _) | exact Dt.no
    · exact Dt.no
  | indexS x i =>
    simp only [ev]
    refine Dt.bind (V x) fun p => Dt.bind (V i) fun q => Dt.bind (I q) fun j => ?_
    split
    · split <;> first | exact Dt.and (Dt.ret _) | exact Dt.no
    · exact Dt.no
  | extract i x =>
    simp only [ev]
    split
    · split <;> first | exact Dt.ret _ | exact Dt.no
    · exact Dt.no
  | len x =>
    simp only [ev]
    refine Dt.bind (V x) fun p => ?_
    split
    · exact Dt.ret _
    · split <;> first | exact Dt.and (Dt.ret _) | exact Dt.no
    · exact Dt.no
  | lenS x =>
    simp only [ev]
    refine Dt.bind (V x) fun p => ?_
    split <;> first | exact Dt.ret _ | exact Dt.no
  | lenC n => simp only [ev]; exact Dt.ret _
  | mm mx xs =>
    simp only [ev]
    refine Dt.bind (dt_vgs g s xs) fun ps => ?_
    split
    · exact Dt.bind (dt_mmInt _ _ _) fun n => Dt.ret _
    · exact Dt.no
  | _ => simp only [ev]; exact Dt.no

end Go.Ab
/- Quiet operations read only what they name, and change places. No condition. -/
namespace Go.Ab
variable {P : Program} {nt : Nat} {s s' : St} {Γ : Cx} {a : Act} {w : World}

def AX.reads : AX → List Nat
  | .t n => [n]
  | .c _ => []
def axs : List AX → List Nat
  | [] => []
  | x :: r => x.reads ++ axs r
def axo : Option AX → List Nat
  | none => []
  | some x => x.reads
def axp : List (Nat × AX) → List Nat
  | [] => []
  | (_, x) :: r => x.reads ++ axp r

def AK.reads : AK → List Nat
  | .mv x | .load _ _ x | .nilCheck x | .un _ x | .convI _ x | .convS x | .fieldA _ _ x | .field _ _ _ _ x | .extract _ x | .len x | .lenS x | .box x => x.reads
  | .pick c a b => c.reads ++ a.reads ++ b.reads
  | .build _ parts | .buildSlice _ _ _ _ parts => axp parts
  | .bin _ _ x y | .indexA _ x y | .index _ _ _ x y | .indexS x y | .store _ x y | .append _ _ _ x y | .copy _ x y | .makeSlice _ _ _ x y => x.reads ++ y.reads
  | .mkFunc _ a b => axs a ++ axs b
  | .slice _ x lo hi mx => x.reads ++ (axo lo ++ (axo hi ++ axo mx))
  | .lenC _ | .alloc _ => []
  | .mm _ xs => axs xs
  | .call f args | .callq f args => f.reads ++ axs args
  | .isNil _ x => x.reads

/-- the same but for the slots not in 'l' -/
def Agree (s s' : St) (l : List Nat) : Prop := ∀ n ∈ l, get s'.env n = get s.env n

theorem Agree.left {l m : List Nat} (h : Agree s s' (l ++ m)) : Agree s s' l := fun n hn => h n (List.mem_append.2 (.inl hn))
theorem Agree.right {l m : List Nat} (h : Agree s s' (l ++ m)) : Agree s s' m := fun n hn => h n (List.mem_append.2 (.inr hn))

theorem vx_agree {x : AX} (h : Agree s s' x.reads) : vx s' x = vx s x := by
  cases x with
  | t n => simp only [vx]; rw [h n (by simp [AX.reads])]
  | c p => rfl
theorem vg_agree {g : Bool} {x : AX} (h : Agree s s' x.reads) : vg g s' x = vg g s x := by
  funext K; unfold vg; rw [vx_agree h]
theorem vgs_agree {g : Bool} : ∀ {xs : List AX}, Agree s s' (axs xs) → vgs g s' xs = vgs g s xs
  | [], _ => rfl
  | x :: xs, h => by
    funext K; simp only [vgs]; rw [vg_agree (x := x) h.left, vgs_agree (xs := xs) h.right]
theorem vgp_agree {g : Bool} : ∀ {xs : List (Nat × AX)}, Agree s s' (axp xs) → vgp g s' xs = vgp g s xs
  | [], _ => rfl
  | (i, x) :: xs, h => by
    funext K; simp only [vgp]; rw [vg_agree (x := x) h.left, vgp_agree (xs := xs) h.right]
theorem content_agree (hb : s'.bx = s.bx) (p : PV) : content s' p = content s p := by
  funext K; cases p <;> simp only [content, hb]
theorem binV_agree (hb : s'.bx = s.bx) (op : BinOp) (e : ET) (p q : PV) : binV s' op e p q = binV s op e p q := by
  funext K; unfold binV; rw [hb]
theorem lohi_agree {g : Bool} {lo hi : Option AX} (h1 : Agree s s' (axo lo)) (h2 : Agree s s' (axo hi)) (n c : Nat) : lohi g s' lo hi n c = lohi g s lo hi n c := by
  funext K
  cases lo <;> cases hi <;> simp only [lohi]
  · rw [vg_agree h2]
  · rw [vg_agree h1]
  · rw [vg_agree h2]; simp only [vg_agree h1]

theorem ev_agree {g : Bool} {k : AK} (hb : s'.bx = s.bx) (h : Agree s s' k.reads) : ev g s' k = ev g s k := by
  funext K
  cases k with
  | mv x => simp only [ev]; rw [vg_agree h]
  | pick c a b => simp only [ev]; rw [vg_agree h.left.left, vx_agree h.left.right, vx_agree h.right]
  | build z parts => simp only [ev]; rw [vgp_agree h]
  | load agg w x => simp only [ev]; rw [vg_agree h, hb]
  | nilCheck x => simp only [ev]; rw [vg_agree h, hb]
  | bin op e x y => simp only [ev]; rw [vg_agree h.left, vg_agree h.right]; simp only [binV_agree hb]
  | un op x => simp only [ev]; rw [vg_agree h]
  | convI k x => simp only [ev]; rw [vg_agree h]
  | convS x => simp only [ev]; rw [vg_agree h]; simp only [content_agree hb]
  | mkFunc f a b => simp only [ev]; rw [vgs_agree h.left, vgs_agree h.right]
  | slice k x lo hi mx =>
    have hx := vg_agree (g := g) h.left
    have hl := fun n c => lohi_agree (g := g) h.right.left h.right.right.left n c
    have hm := h.right.right.right
    cases k <;> cases mx <;> simp only [ev, hx, hl, hb]
    rw [vg_agree (x := _) hm]
  | fieldA i off x => simp only [ev]; rw [vg_agree h, hb]
  | field i off agg w x => simp only [ev]; rw [vg_agree h]
  | indexA k x i =>
    have hx := vg_agree (g := g) h.left
    have hi := vg_agree (g := g) h.right
    cases k <;> simp only [ev, hx, hi, hb]
  | index agg n w x i => simp only [ev]; rw [vg_agree h.left, vg_agree h.right]
  | indexS x i => simp only [ev]; rw [vg_agree h.left, vg_agree h.right]
  | extract i x => simp only [ev]; rw [vx_agree h]
  | len x => simp only [ev]; rw [vg_agree h, hb]
  | lenS x => simp only [ev]; rw [vg_agree h]
  | lenC n => rfl
  | mm mx xs => simp only [ev]; rw [vgs_agree h]
  | _ => rfl

def AO.quiet (o : AO) : Bool :=
  match o.k with
  | .call .. => false
  | .callq .. => true
  | .buildSlice own .. => !own
  | k => !isEx k
def AO.reads (o : AO) : List Nat := (match o.guard with | some (n, _) => [n] | none => []) ++ o.k.reads

theorem callQ_dt {d : Option Nat} {f : AX} {args : List AX} {K : St → Prop} (h : callQ P s d f args K) :
    ∃ v, K (s.put d v) ∧ ∀ s', s'.bx = s.bx → Agree s s' (AK.callq f args).reads → ∀ K' : St → Prop, K' (s'.put d v) → callQ P s' d f args K' := by
  unfold callQ at h
  obtain ⟨pf, h, h1⟩ := dt_vg _ _ _ _ h
  obtain ⟨ps, h, h2⟩ := dt_vgs _ _ _ _ h
  split at h
  case h_2 => exact h.elim
  rename_i fid first cap
  obtain ⟨v, hc1, hc2, hK⟩ := h
  refine ⟨v, hK, fun s' hb ha K' hK' => ?_⟩
  unfold callQ
  rw [vg_agree ha.left]
  refine h1 _ ?_
  rw [vgs_agree ha.right]
  exact h2 _ ⟨v, hc1, hc2, hK'⟩

theorem build_dt {d : Option Nat} {sz n : Nat} {z : PV} {parts : List (Nat × AX)} {K : St → Prop} (h : ex s d (.buildSlice false sz z n parts) K) :
    ∃ v, K (s.put d v) ∧ ∀ s', s'.bx = s.bx → Agree s s' (AK.buildSlice false sz z n parts).reads → ∀ K' : St → Prop, K' (s'.put d v) → ex s' d (.buildSlice false sz z n parts) K' := by
  simp only [ex] at h
  obtain ⟨ps, h, h1⟩ := dt_vgp _ _ _ _ h
  split at h
  case h_2 => exact h.elim
  rename_i l hl
  simp only [Bool.false_eq_true, if_false] at h
  refine ⟨_, h, fun s' hb ha K' hK' => ?_⟩
  simp only [ex]
  rw [vgp_agree ha]
  refine h1 _ ?_
  simp only [hl, Bool.false_eq_true, if_false]
  exact hK'

theorem do1_dt {o : AO} {K : St → Prop} (hq : o.quiet = true) (h : do1 P s o K) :
    ∃ v, K (s.put o.dst v) ∧ ∀ s', s'.bx = s.bx → Agree s s' o.k.reads → ∀ K' : St → Prop, K' (s'.put o.dst v) → do1 P s' o K' := by
  obtain ⟨dst, guard, mg, k⟩ := o
  cases k with
  | call f args => simp [AO.quiet] at hq
  | callq f args => exact callQ_dt h
  | buildSlice own sz z n parts =>
    simp only [AO.quiet, Bool.not_eq_true'] at hq
    subst hq
    simp only [do1, isEx, if_true] at h ⊢
    exact build_dt h
  | _ =>
    first
    | (simp [AO.quiet, isEx] at hq; done)
    | (simp only [do1, isEx, Bool.false_eq_true, if_false] at h ⊢
       obtain ⟨v, hK, hv⟩ := dt_ev _ _ _ _ h
       refine ⟨v, hK, fun s' hb ha K' hK' => ?_⟩
       rw [ev_agree hb ha]
       exact hv _ hK')

theorem wpo_dt {o : AO} {K : St → Prop} (hq : o.quiet = true) (h : wpo P s o K) :
    ∃ v, K (s.put o.dst v) ∧ ∀ s', s'.bx = s.bx → Agree s s' o.reads → ∀ K' : St → Prop, K' (s'.put o.dst v) → wpo P s' o K' := by
  unfold wpo at h
  cases hg : o.guard with
  | none =>
    rw [hg] at h
    obtain ⟨v, hK, hv⟩ := do1_dt hq h
    refine ⟨v, hK, fun s' hb ha K' hK' => ?_⟩
    unfold wpo; rw [hg]
    exact hv s' hb ha.right K' hK'
  | some gw =>
    obtain ⟨sl, want⟩ := gw
    rw [hg] at h
    simp only at h
    have hget : ∀ {s' : St}, Agree s s' o.reads → get s'.env sl = get s.env sl := fun ha => ha sl (by simp [AO.reads, hg])
    split at h
    · rename_i b hb
      split at h
      · rename_i hm
        obtain ⟨v, hK, hv⟩ := dt_ev _ _ _ _ h
        refine ⟨_, hK, fun s' hbx ha K' hK' => ?_⟩
        unfold wpo; rw [hg]; simp only [hget ha, hb, hm, if_true]
        rw [ev_agree hbx ha.right]
        exact hv _ hK'
      · rename_i hm
        by_cases hbw : b = want
        · obtain ⟨v, hK, hv⟩ := do1_dt hq (h.1 hbw)
          refine ⟨v, hK, fun s' hbx ha K' hK' => ?_⟩
          unfold wpo; rw [hg]; simp only [hget ha, hb, hm]
          exact ⟨fun _ => hv s' hbx ha.right K' hK', fun hn => absurd hbw hn⟩
        · refine ⟨.un, h.2 hbw, fun s' hbx ha K' hK' => ?_⟩
          unfold wpo; rw [hg]; simp only [hget ha, hb, hm]
          exact ⟨fun hn => absurd hn hbw, fun _ => hK'⟩
    · rename_i g b hb
      split at h
      · rename_i hm
        obtain ⟨v, hK, hv⟩ := dt_ev _ _ _ _ h
        refine ⟨_, hK, fun s' hbx ha K' hK' => ?_⟩
        unfold wpo; rw [hg]; simp only [hget ha, hb, hm, if_true]
        rw [ev_agree hbx ha.right]
        exact hv _ hK'
      · rename_i hm
        by_cases hbw : g = true ∧ b = want
        · obtain ⟨v, hK, hv⟩ := do1_dt hq (h.1 hbw.1 hbw.2)
          refine ⟨v, hK, fun s' hbx ha K' hK' => ?_⟩
          unfold wpo; rw [hg]; simp only [hget ha, hb, hm]
          exact ⟨fun _ _ => hv s' hbx ha.right K' hK', fun hn => absurd hbw.2 (hn hbw.1)⟩
        · refine ⟨.un, h.2 (fun h1 h2 => hbw ⟨h1, h2⟩), fun s' hbx ha K' hK' => ?_⟩
          unfold wpo; rw [hg]; simp only [hget ha, hb, hm]
          exact ⟨fun h1 h2 => absurd ⟨h1, h2⟩ hbw, fun _ => hK'⟩
    · exact h.elim

theorem put_comm {α : Type} {n m : Nat} (h : n ≠ m) (x y : α) : ∀ l : List (Nat × α), put (put l n x) m y = put (put l m y) n x
  | [] => by
    simp only [put]
    by_cases h1 : n < m
    · simp [h, Ne.symm h, show ¬ m < n by omega, h1, put]
    · simp [h, Ne.symm h, show m < n by omega, h1, put]
  | (k, v) :: r => by
    have ih := put_comm h x y r
    grind [put]

theorem St.put_comm {d e : Option Nat} (h : ∀ k, d = some k → e ≠ some k) (v u : PV) : (s.put d v).put e u = (s.put e u).put d v := by
  cases d with
  | none => rfl
  | some d =>
    cases e with
    | none => rfl
    | some e =>
      have : d ≠ e := fun hh => h d rfl (by rw [hh])
      simp only [St.put, Ab.put_comm this]

def AO.apart (x y : AO) : Bool :=
  (match x.dst with | some d => !y.reads.contains d && y.dst != some d | none => true) &&
  (match y.dst with | some d => !x.reads.contains d | none => true)

theorem Agree.put {d : Option Nat} {v : PV} {l : List Nat} (h : ∀ k, d = some k → k ∉ l) : Agree s (s.put d v) l := by
  intro n hn
  cases d with
  | none => rfl
  | some d =>
    have : d ≠ n := fun e => h d rfl (e ▸ hn)
    simp [St.put, get_put_ne _ _ _ _ this]

theorem Agree.put' {d : Option Nat} {v : PV} {l : List Nat} (h : ∀ k, d = some k → k ∉ l) : Agree (s.put d v) s l := fun n hn => ((Agree.put h) n hn).symm

theorem put_bx (d : Option Nat) (v : PV) : (s.put d v).bx = s.bx := by cases d <;> rfl

theorem wpo_swap {x y : AO} {K : St → Prop} (hx : x.quiet = true) (hy : y.quiet = true) (hap : x.apart y = true) (h : wpo P s x fun s1 => wpo P s1 y K) : wpo P s y fun s2 => wpo P s2 x K := by
  have h1 : ∀ d, x.dst = some d → d ∉ y.reads := fun d hd => by simp [AO.apart, hd] at hap; exact hap.1.1
  have h2 : ∀ d, x.dst = some d → y.dst ≠ some d := fun d hd => by simp [AO.apart, hd] at hap; exact hap.1.2
  have h3 : ∀ d, y.dst = some d → d ∉ x.reads := fun d hd => by simp [AO.apart, hd] at hap; exact hap.2
  obtain ⟨v, h, hv⟩ := wpo_dt hx h
  obtain ⟨u, h, hu⟩ := wpo_dt hy h
  refine hu s (put_bx _ _).symm (Agree.put' h1) _ ?_
  refine hv _ (put_bx _ _) (Agree.put h3) _ ?_
  rw [St.put_comm (fun k hk he => h2 k he hk)]
  exact h

end Go.Ab
/- Operations with their guards and regions of them are sound. No condition. -/
namespace Go.Ab
variable {P : Program} {nt : Nat} {s s' : St} {Γ : Cx} {a : Act} {w : World}

theorem step_guard {ops : Array Oper} {o : Oper} {i : Nat} {Q : Exit → Act → World → Prop} {K : Act → World → Prop} (hi : ops[i]? = some o) (h1 : Region.wanted o (yielded ops a.tmps) = true → o.wp P a w K Q) (h2 : Region.wanted o (yielded ops a.tmps) = false → K (a.put o.dst undef) w) : wpOp P ops Q i K a w := by
  unfold wpOp
  rw [hi]
  simp only
  cases h : Region.wanted o (yielded ops a.tmps) with
  | true => simp only [if_true]; exact .inl (h1 h)
  | false => simp only [Bool.false_eq_true, if_false]; exact h2 h

theorem trBuiltin_notcall {b : Builtin} {xs : List Operand} {ts : List TypeId} {f : AX} {l : List AX} (h : trBuiltin P b xs ts = some (.call f l)) : False := by
  unfold trBuiltin at h
  split at h
  all_goals (repeat' (split at h))
  all_goals first | (simp at h; done) | contradiction

theorem trBuiltin_notcallq {b : Builtin} {xs : List Operand} {ts : List TypeId} {f : AX} {l : List AX} (h : trBuiltin P b xs ts = some (.callq f l)) : False := by
  unfold trBuiltin at h
  split at h
  all_goals (repeat' (split at h))
  all_goals first | (simp at h; done) | contradiction

theorem trK_notcallq {own : Bool} {op : Op} {f : AX} {l : List AX} (h : trK P own op = some (.callq f l)) : False := by
  unfold trK at h
  split at h
  all_goals first | (exact trBuiltin_notcallq h) | skip
  all_goals (repeat' (split at h))
  all_goals first | (simp at h; done) | contradiction

theorem RepV.slz {z z' : Nat} {v : Value} (h : RepV Γ (.sl z [] true) v) : RepV Γ (.sl z' [] true) v := by
  simp only [RepV] at h ⊢
  cases h with
  | sl _ _ _ ad rcap h1 h2 h3 h4 h5 h6 =>
    have := RepL.sl (Γ := Γ) z' [] true ad rcap .nil (by simp) h3 h4 (fun h => absurd rfl h) .nil
    exact this

/-- the quiet operations, their nil retyped -/
theorem ev_fix {o : Oper} {k : AK} {own draw : Bool} {ty : TypeId} {K : PV → Prop} (hk : trK P own o.op = some k) (hs : Sim nt s Γ a) (hw : w.heap = Γ.heap) (he : ev true s (fixK P draw ty k) K) :
    ∃ p v, K p ∧ (execOp a.eval o).run P w = .ok (.value v) w ∧ RepV Γ p v := by
  unfold fixK at he
  split at he
  · split at he <;> simp [ev] at he
  · split at he
    · rename_i e _
      obtain ⟨p, v, rfl, hrun, hr⟩ := ev_sound (K := fun p => p = .sl 0 [] true) hk hs hw rfl (by simp [ev, vg, vx])
      simp only [ev, vg, vx] at he
      exact ⟨_, v, he, hrun, hr.slz⟩
    · exact ev_sound hk hs hw rfl he
  · exact ev_sound hk hs hw rfl he

theorem isEx_fix {draw : Bool} {ty : TypeId} {k : AK} : isEx (fixK P draw ty k) = isEx k := by
  unfold fixK
  split
  · split <;> rfl
  · split <;> rfl
  · rfl

theorem fix_ex {draw : Bool} {ty : TypeId} {k : AK} (h : isEx k = true) : fixK P draw ty k = k := by
  unfold fixK
  split
  · simp [isEx] at h
  · simp [isEx] at h
  · rfl

theorem do1_sound {o : Oper} {ao : AO} {ops : Array Oper} {own sp : List Nat} {draw : Bool} {K : St → Prop} {Kr : Act → World → Prop} {Q : Exit → Act → World → Prop} (ht : trOper P nt ops own sp draw o = some ao) (hs : Sim nt s Γ a) (hw : w.heap = Γ.heap)
    (h : do1 P s ao K) (hk : Nxt P nt Γ w K Kr) : o.wp P a w Kr Q := by
  unfold trOper at ht
  split at ht
  case h_2 => simp at ht
  rename_i k g hk1 hg
  split at ht
  case isFalse => simp at ht
  rename_i hd
  simp only [Option.some.injEq] at ht
  by_cases hc : ∃ f args, k = .call f args
  · obtain ⟨f, args, rfl⟩ := hc
    have h' : callW P s o.dst f args K := by
      rw [← ht] at h
      cases draw with
      | true => simp only [fixK, if_true, do1] at h; exact callW_of_callQ h
      | false => simp only [fixK, Bool.false_eq_true, if_false, do1] at h; exact h
    have hd' : ∀ j, o.dst = some j → j < nt := by
      intro j hj; rw [hj] at hd; simpa [dstOk] using hd
    -- the operation is a call
    obtain ⟨f0, args0, tys0, ho, hf0, ha0⟩ : ∃ f0 args0 tys0, o.op = .call { callee := .value f0, args := args0, argTypes := tys0 } ∧ trX f0 = some f ∧ trXs args0.toList = some args := by
      cases hop : o.op with
      | call c =>
        obtain ⟨callee, args0, tys⟩ := c
        rw [hop] at hk1
        cases callee with
        | value f0 =>
          simp only [trK] at hk1
          split at hk1 <;> simp only [Option.some.injEq, reduceCtorEq, AK.call.injEq] at hk1
          rename_i g0 l0 e1 e2
          exact ⟨f0, args0, tys, rfl, by rw [e1, hk1.1], by rw [e2, hk1.2]⟩
        | invoke r m => simp [trK] at hk1
        | builtin b =>
          exfalso
          simp only [trK] at hk1
          exact trBuiltin_notcall hk1
      | binOp op t x y yt =>
        exfalso
        rw [hop] at hk1; simp only [trK] at hk1
        repeat (split at hk1 <;> (try contradiction))
        all_goals first | (simp at hk1; done) | (split at hk1 <;> first | (simp at hk1; done) | (split at hk1 <;> first | (simp at hk1; done) | (split at hk1 <;> first | (simp at hk1; done) | (split at hk1 <;> simp at hk1))))
      | _ =>
        exfalso
        rw [hop] at hk1
        first
        | (simp only [trK, reduceCtorEq] at hk1; done)
        | (simp only [trK] at hk1
           repeat (split at hk1 <;> (try contradiction))
           all_goals first | (simp at hk1; done) | (split at hk1 <;> first | (simp at hk1; done) | (split at hk1 <;> first | (simp at hk1; done) | (split at hk1 <;> simp at hk1))))
    exact callW_sound ho hf0 ha0 hs hw hd' h' hk
  · by_cases hx : isEx k = true
    · have e : do1 P s ao K = ex s o.dst k K := by
        rw [← ht]
        unfold do1
        rw [fix_ex hx]
        split
        · rename_i heq; exact absurd ⟨_, _, heq⟩ hc
        · rename_i heq; simp only at heq; rw [heq] at hx; simp [isEx] at hx
        · rw [if_pos hx]
      rw [e] at h
      exact Oper.wp_of_stepd (stepd_ex hk1 hs hw hd h) hk
    · have e : do1 P s ao K → ev true s (fixK P draw o.type k) fun p => K (s.put o.dst p) := by
        rw [← ht]
        unfold do1
        intro h
        simp only at h
        split at h
        · rename_i heq
          exfalso
          unfold fixK at heq
          split at heq
          · exact absurd ⟨_, _, rfl⟩ hc
          · split at heq <;> simp at heq
          · exact absurd ⟨_, _, heq⟩ hc
        · rename_i heq
          exfalso
          unfold fixK at heq
          split at heq
          · exact absurd ⟨_, _, rfl⟩ hc
          · split at heq <;> simp at heq
          · rw [heq] at hk1
            exact trK_notcallq hk1
        · rw [if_neg (by rw [isEx_fix]; exact hx)] at h
          exact h
      have he := e h
      obtain ⟨p, v, hK, hrun, hr⟩ := ev_fix hk1 hs hw he
      refine Oper.wp_of_stepd (step_quiet hs (fun j hj => ?_) (Le.refl Γ) hs.mem rfl hrun hw (WF.refl w) hr hK) hk
      rw [hj] at hd
      unfold dstOk at hd
      split at hd
      · rename_i heq; simp [isEx] at hx
      · rename_i heq _; simp at heq; subst heq; simpa using hd
      · rename_i heq; simp at heq

theorem repV_undef_un : RepV Γ .un undef := by simp [RepV]

theorem trGuard_some {ops : Array Oper} {j sl : Nat} {want want' : Bool} (h : trGuard ops (some (j, want)) = some (some (sl, want'))) : (ops[j]?).bind (·.dst) = some sl ∧ want' = want := by
  unfold trGuard at h
  simp only at h
  split at h <;> simp at h
  rename_i d hd
  obtain ⟨rfl, rfl⟩ := h
  exact ⟨hd, rfl⟩

theorem wpo_sound {ops : Array Oper} {i : Nat} {o : Oper} {ao : AO} {own sp : List Nat} {draw : Bool} {K : St → Prop} {Kr : Act → World → Prop} {Q : Exit → Act → World → Prop} (hi : ops[i]? = some o) (ht : trOper P nt ops own sp draw o = some ao) (hs : Sim nt s Γ a) (hw : w.heap = Γ.heap)
    (h : wpo P s ao K) (hk : Nxt P nt Γ w K Kr) : wpOp P ops Q i Kr a w := by
  have ht0 := ht
  unfold trOper at ht
  split at ht
  case h_2 => simp at ht
  rename_i k g hk1 hg
  split at ht
  case isFalse => simp at ht
  rename_i hd
  simp only [Option.some.injEq] at ht
  have hkd : ao.k = fixK P draw o.type k := by rw [← ht]
  have hdd : ao.dst = o.dst := by rw [← ht]
  have hgd : ao.guard = g := by rw [← ht]
  have hmg : ao.mg = true → mergeable k = true := by
    rw [← ht]; intro hm
    simp only [Bool.and_eq_true] at hm
    exact hm.1
  have hput : ∀ {p : PV} {v : Value}, (∀ x y z, k ≠ .store x y z) → RepV Γ p v → K (s.put o.dst p) → Kr (a.put o.dst v) w := by
    intro p v hne hr hK
    refine hk _ _ _ _ (hs.put (fun j hj => ?_) hr) hw (Le.refl Γ) (WF.refl w) hK
    rw [hj] at hd
    unfold dstOk at hd
    split at hd
    · exact absurd rfl (hne _ _ _)
    · rename_i heq _; simp at heq; subst heq; simpa using hd
    · rename_i heq; simp at heq
  have hundef : K (s.put o.dst .un) → Kr (a.put o.dst undef) w := by
    intro hK
    refine hk _ _ _ _ (hs.put (fun j hj => ?_) repV_undef_un) hw (Le.refl Γ) (WF.refl w) hK
    rw [hj] at hd
    unfold dstOk at hd
    split at hd
    · simp at hd
    · rename_i heq _; simp at heq; subst heq; simpa using hd
    · rename_i heq; simp at heq
  unfold wpo at h
  cases hog : o.guard with
  | none =>
    rw [hog] at hg; simp only [trGuard, Option.some.injEq] at hg
    rw [hgd, ← hg] at h
    refine step_guard hi (fun _ => do1_sound ht0 hs hw h hk) (fun hn => ?_)
    simp [Region.wanted, hog] at hn
  | some jw =>
    obtain ⟨j, want0⟩ := jw
    rw [hog] at hg
    obtain ⟨sl, want, rfl⟩ : ∃ sl want, g = some (sl, want) := by
      unfold trGuard at hg; simp only at hg; split at hg <;> simp at hg
      exact ⟨_, _, hg.symm⟩
    obtain ⟨hdst, rfl⟩ := trGuard_some hg
    have hwant : Region.wanted o (yielded ops a.tmps) = (yielded ops a.tmps j == some want) := by unfold Region.wanted; rw [hog]
    have hy : ∀ v, a.tmps.getD sl undef = v → yielded ops a.tmps j = (match v with | .bool b => some b | _ => none) := by
      intro v hv
      unfold yielded
      rw [hdst]
      simp only [Option.bind_some]
      rw [Array.getD_eq_getD_getElem?] at hv
      cases ho : a.tmps[sl]? with
      | none => rw [ho] at hv; subst hv; rfl
      | some u => rw [ho] at hv; subst hv; cases u <;> rfl
    rw [hgd] at h
    simp only at h
    have hev : ∀ {gg : Bool}, ao.mg = true → ev gg s ao.k (fun p => K (s.put ao.dst (.gd gg p))) → (Region.wanted o (yielded ops a.tmps) = gg) → wpOp P ops Q i Kr a w := by
      intro gg hm he hwg
      have hmm : mergeable k = true := hmg hm
      have hne : ∀ x y z, k ≠ .store x y z := by rintro x y z rfl; simp [mergeable] at hmm
      rw [hkd, hdd] at he
      refine step_guard hi (fun h1 => ?_) (fun h1 => ?_)
      · rw [hwg] at h1; subst h1
        obtain ⟨p, v, hK, hrun, hr⟩ := ev_fix hk1 hs hw he
        unfold Oper.wp
        rw [hrun]
        exact hput hne (p := .gd true p) (by rw [RepV]; exact ⟨fun _ => hr, by simp⟩) hK
      · rw [hwg] at h1; subst h1
        obtain ⟨p, hK, _⟩ := dt_ev _ _ _ _ he
        exact hput hne (p := .gd false p) (by rw [RepV]; exact ⟨by simp, fun _ => rfl⟩) hK
    split at h
    · rename_i b hb
      have hbv : a.tmps.getD sl undef = .bool b := by
        cases hgs : get s.env sl with
        | none => rw [hgs] at hb; simp at hb
        | some q =>
          rw [hgs] at hb; simp only [Option.getD_some] at hb; subst hb
          have := hs.env sl _ hgs
          simp only [RepV] at this
          generalize a.tmps.getD sl undef = v at this
          cases this; rfl
      have hyb : yielded ops a.tmps j = some b := by rw [hy _ hbv]
      split at h
      · rename_i hm
        exact hev hm h (by rw [hwant, hyb]; rfl)
      · refine step_guard hi (fun h1 => ?_) (fun h1 => ?_)
        · rw [hwant, hyb] at h1
          exact do1_sound ht0 hs hw (h.1 (by simpa using h1)) hk
        · rw [hwant, hyb] at h1
          exact hundef (by rw [← hdd]; exact h.2 (by simpa using h1))
    · rename_i gg b hb
      have hbv : (gg = true → a.tmps.getD sl undef = .bool b) ∧ (gg = false → a.tmps.getD sl undef = undef) := by
        cases hgs : get s.env sl with
        | none => rw [hgs] at hb; simp at hb
        | some q =>
          rw [hgs] at hb; simp only [Option.getD_some] at hb; subst hb
          have := hs.env sl _ hgs
          rw [RepV] at this
          refine ⟨fun hg => ?_, this.2⟩
          have := this.1 hg
          simp only [RepV] at this
          generalize a.tmps.getD sl undef = v at this
          cases this; rfl
      have hwg : Region.wanted o (yielded ops a.tmps) = (gg && b == want) := by
        rw [hwant]
        cases gg with
        | true => rw [hy _ (hbv.1 rfl)]; rfl
        | false => rw [hy _ (hbv.2 rfl)]; simp [undef]
      split at h
      · rename_i hm
        exact hev hm h hwg
      · refine step_guard hi (fun h1 => ?_) (fun h1 => ?_)
        · rw [hwg] at h1
          simp only [Bool.and_eq_true, beq_iff_eq] at h1
          exact do1_sound ht0 hs hw (h.1 h1.1 h1.2) hk
        · rw [hwg] at h1
          have h2 := h.2 (fun hg hbw => by rw [hg, hbw] at h1; simp at h1)
          exact hundef (by rw [← hdd]; exact h2)
    · exact h.elim

end Go.Ab
/- Operations that change places: quiet ones, and a store with one that reads no block. No condition. -/
namespace Go.Ab
variable {P : Program} {nt : Nat} {s s' : St}

/-- reads no block -/
def AK.free : AK → Bool
  | .mv _ | .pick .. | .build .. | .un .. | .convI .. | .mkFunc .. | .field .. | .index .. | .indexS .. | .extract .. | .lenS _ | .lenC _ | .mm .. => true
  | _ => false
def AO.free (o : AO) : Bool := o.k.free
def AO.isStore (o : AO) : Bool := o.dst.isNone && (match o.k with | .store .. => true | _ => false)

theorem ev_free {g : Bool} {k : AK} {K : PV → Prop} (hf : k.free = true) (h : Agree s s' k.reads) (he : ev g s k K) : ev g s' k K := by
  cases k with
  | mv x => simp only [ev] at he ⊢; rw [vg_agree h]; exact he
  | pick c a b => simp only [ev] at he ⊢; rw [vg_agree h.left.left, vx_agree h.left.right, vx_agree h.right]; exact he
  | build z parts => simp only [ev] at he ⊢; rw [vgp_agree h]; exact he
  | un op x => simp only [ev] at he ⊢; rw [vg_agree h]; exact he
  | convI k x => simp only [ev] at he ⊢; rw [vg_agree h]; exact he
  | mkFunc f a b => simp only [ev] at he ⊢; rw [vgs_agree h.left]; simp only [vgs_agree h.right]; exact he
  | field i off agg w x => simp only [ev] at he ⊢; rw [vg_agree h]; exact he
  | index agg n w x i => simp only [ev] at he ⊢; rw [vg_agree h.left, vg_agree h.right]; exact he
  | indexS x i => simp only [ev] at he ⊢; rw [vg_agree h.left, vg_agree h.right]; exact he
  | extract i x => simp only [ev] at he ⊢; rw [vx_agree h]; exact he
  | lenS x => simp only [ev] at he ⊢; rw [vg_agree h]; exact he
  | lenC n => simp only [ev] at he ⊢; exact he
  | mm mx xs => simp only [ev] at he ⊢; rw [vgs_agree h]; exact he
  | _ => simp [AK.free] at hf

theorem free_ex {k : AK} (h : k.free = true) : isEx k = false := by cases k <;> simp [AK.free] at h <;> rfl
theorem free_quiet {o : AO} (h : o.free = true) : o.quiet = true := by
  obtain ⟨d, g, m, k⟩ := o
  cases k <;> simp [AO.free, AK.free] at h <;> rfl

theorem do1_free {o : AO} {K : St → Prop} (hf : o.free = true) (h : do1 P s o K) :
    ∃ v, K (s.put o.dst v) ∧ ∀ s', Agree s s' o.k.reads → ∀ K' : St → Prop, K' (s'.put o.dst v) → do1 P s' o K' := by
  obtain ⟨dst, guard, mg, k⟩ := o
  have e : ∀ (s : St) K, do1 P s ⟨dst, guard, mg, k⟩ K = ev true s k fun p => K (s.put dst p) := by
    intro s K
    cases k <;> first | rfl | (simp [AO.free, AK.free] at hf; done)
  rw [e] at h
  obtain ⟨v, hK, hv⟩ := dt_ev _ _ _ _ h
  refine ⟨v, hK, fun s' ha K' hK' => ?_⟩
  rw [e]
  exact ev_free hf ha (hv _ hK')

def Qf (P : Program) (r : St) (o : AO) (v : PV) : Prop := ∀ s' : St, Agree r s' o.reads → ∀ K' : St → Prop, K' (s'.put o.dst v) → wpo P s' o K'

theorem wpo_free {o : AO} {K : St → Prop} (hq : o.free = true) (h : wpo P s o K) : ∃ v, K (s.put o.dst v) ∧ Qf P s o v := by
  unfold wpo at h
  cases hg : o.guard with
  | none =>
    rw [hg] at h
    obtain ⟨v, hK, hv⟩ := do1_free hq h
    refine ⟨v, hK, fun s' ha K' hK' => ?_⟩
    unfold wpo; rw [hg]
    exact hv s' ha.right K' hK'
  | some gw =>
    obtain ⟨sl, want⟩ := gw
    rw [hg] at h
    simp only at h
    have hget : ∀ {s' : St}, Agree s s' o.reads → get s'.env sl = get s.env sl := fun ha => ha sl (by simp [AO.reads, hg])
    split at h
    · rename_i b hb
      split at h
      · rename_i hm
        obtain ⟨v, hK, hv⟩ := dt_ev _ _ _ _ h
        refine ⟨_, hK, fun s' ha K' hK' => ?_⟩
        unfold wpo; rw [hg]; simp only [hget ha, hb, hm, if_true]
        exact ev_free hq ha.right (hv _ hK')
      · rename_i hm
        by_cases hbw : b = want
        · obtain ⟨v, hK, hv⟩ := do1_free hq (h.1 hbw)
          refine ⟨v, hK, fun s' ha K' hK' => ?_⟩
          unfold wpo; rw [hg]; simp only [hget ha, hb, hm]
          exact ⟨fun _ => hv s' ha.right K' hK', fun hn => absurd hbw hn⟩
        · refine ⟨.un, h.2 hbw, fun s' ha K' hK' => ?_⟩
          unfold wpo; rw [hg]; simp only [hget ha, hb, hm]
          exact ⟨fun hn => absurd hn hbw, fun _ => hK'⟩
    · rename_i g b hb
      split at h
      · rename_i hm
        obtain ⟨v, hK, hv⟩ := dt_ev _ _ _ _ h
        refine ⟨_, hK, fun s' ha K' hK' => ?_⟩
        unfold wpo; rw [hg]; simp only [hget ha, hb, hm, if_true]
        exact ev_free hq ha.right (hv _ hK')
      · rename_i hm
        by_cases hbw : g = true ∧ b = want
        · obtain ⟨v, hK, hv⟩ := do1_free hq (h.1 hbw.1 hbw.2)
          refine ⟨v, hK, fun s' ha K' hK' => ?_⟩
          unfold wpo; rw [hg]; simp only [hget ha, hb, hm]
          exact ⟨fun _ _ => hv s' ha.right K' hK', fun hn => absurd hbw.2 (hn hbw.1)⟩
        · refine ⟨.un, h.2 (fun h1 h2 => hbw ⟨h1, h2⟩), fun s' ha K' hK' => ?_⟩
          unfold wpo; rw [hg]; simp only [hget ha, hb, hm]
          exact ⟨fun h1 h2 => absurd ⟨h1, h2⟩ hbw, fun _ => hK'⟩
    · exact h.elim

theorem do1_sto {o : AO} {K : St → Prop} (hq : o.isStore = true) (h : do1 P s o K) :
    ∃ b, K { s with bx := b } ∧ ∀ s', s'.bx = s.bx → Agree s s' o.k.reads → ∀ K' : St → Prop, K' { s' with bx := b } → do1 P s' o K' := by
  obtain ⟨dst, guard, mg, k⟩ := o
  simp only [AO.isStore, Bool.and_eq_true] at hq
  cases k <;> simp at hq
  rename_i n x y
  simp only [do1, isEx, if_true, ex] at h ⊢
  obtain ⟨p, h, h1⟩ := dt_vg _ _ _ _ h
  obtain ⟨v, h, h2⟩ := dt_vg _ _ _ _ h
  cases p <;> simp only at h
  case pt k pth tot =>
    split at h
    case h_2 => exact h.elim
    rename_i blk hb
    split at h
    case h_2 => exact h.elim
    rename_i blk' hb'
    obtain ⟨hc, hK⟩ := h
    refine ⟨_, hK, fun s' hbx ha K' hK' => ?_⟩
    rw [vg_agree ha.left]
    refine h1 _ ?_
    rw [vg_agree ha.right]
    refine h2 _ ?_
    simp only [hbx, hb, hb']
    exact ⟨hc, hK'⟩

theorem wpo_store {o : AO} {K : St → Prop} (hq : o.isStore = true) (h : wpo P s o K) :
    ∃ b, K { s with bx := b } ∧ ∀ s', s'.bx = s.bx → Agree s s' o.reads → ∀ K' : St → Prop, K' { s' with bx := b } → wpo P s' o K' := by
  have hd : o.dst = none := by simp [AO.isStore] at hq; exact hq.1
  have hput : ∀ (s : St) p, s.put o.dst p = s := by intro s p; rw [hd]; rfl
  have hnev : ∀ (g : Bool) (s : St) K, ev g s o.k K → False := by
    intro g s K h
    obtain ⟨dst, guard, mg, k⟩ := o
    cases k <;> simp [AO.isStore] at hq
    simp [ev] at h
  unfold wpo at h
  cases hg : o.guard with
  | none =>
    rw [hg] at h
    obtain ⟨b, hK, hv⟩ := do1_sto hq h
    refine ⟨b, hK, fun s' hb ha K' hK' => ?_⟩
    unfold wpo; rw [hg]
    exact hv s' hb ha.right K' hK'
  | some gw =>
    obtain ⟨sl, want⟩ := gw
    rw [hg] at h
    simp only at h
    have hget : ∀ {s' : St}, Agree s s' o.reads → get s'.env sl = get s.env sl := fun ha => ha sl (by simp [AO.reads, hg])
    split at h
    · rename_i b hb
      split at h
      · exact (hnev _ _ _ h).elim
      · rename_i hm
        by_cases hbw : b = want
        · obtain ⟨v, hK, hv⟩ := do1_sto hq (h.1 hbw)
          refine ⟨v, hK, fun s' hbx ha K' hK' => ?_⟩
          unfold wpo; rw [hg]; simp only [hget ha, hb, hm]
          exact ⟨fun _ => hv s' hbx ha.right K' hK', fun hn => absurd hbw hn⟩
        · refine ⟨s.bx, by have := h.2 hbw; rw [hput] at this; exact this, fun s' hbx ha K' hK' => ?_⟩
          unfold wpo; rw [hg]; simp only [hget ha, hb, hm]
          exact ⟨fun hn => absurd hn hbw, fun _ => by rw [hput]; rw [← hbx] at hK'; exact hK'⟩
    · rename_i g b hb
      split at h
      · exact (hnev _ _ _ h).elim
      · rename_i hm
        by_cases hbw : g = true ∧ b = want
        · obtain ⟨v, hK, hv⟩ := do1_sto hq (h.1 hbw.1 hbw.2)
          refine ⟨v, hK, fun s' hbx ha K' hK' => ?_⟩
          unfold wpo; rw [hg]; simp only [hget ha, hb, hm]
          exact ⟨fun _ _ => hv s' hbx ha.right K' hK', fun hn => absurd hbw.2 (hn hbw.1)⟩
        · refine ⟨s.bx, by have := h.2 (fun h1 h2 => hbw ⟨h1, h2⟩); rw [hput] at this; exact this, fun s' hbx ha K' hK' => ?_⟩
          unfold wpo; rw [hg]; simp only [hget ha, hb, hm]
          exact ⟨fun h1 h2 => absurd ⟨h1, h2⟩ hbw, fun _ => by rw [hput]; rw [← hbx] at hK'; exact hK'⟩
    · exact h.elim

theorem put_with {d : Option Nat} {v : PV} {b : List (Nat × Blk)} : ({ s with bx := b } : St).put d v = { s.put d v with bx := b } := by cases d <;> rfl
theorem Agree.bx {l : List Nat} {b : List (Nat × Blk)} : Agree s { s with bx := b } l := fun _ _ => rfl
theorem Agree.bx' {l : List Nat} {b : List (Nat × Blk)} : Agree { s with bx := b } s l := fun _ _ => rfl

/-- may change places -/
def AO.comm (y x : AO) : Bool := y.apart x && (y.quiet && x.quiet || y.free && x.isStore || y.isStore && x.free)

theorem wpo_comm {y x : AO} {K : St → Prop} (h : y.comm x = true) (hh : wpo P s y fun s1 => wpo P s1 x K) : wpo P s x fun s2 => wpo P s2 y K := by
  simp only [AO.comm, Bool.and_eq_true, Bool.or_eq_true] at h
  obtain ⟨hap, h⟩ := h
  have h1 : ∀ d, y.dst = some d → d ∉ x.reads := fun d hd => by simp [AO.apart, hd] at hap; exact hap.1.1
  have h3 : ∀ d, x.dst = some d → d ∉ y.reads := fun d hd => by simp [AO.apart, hd] at hap; exact hap.2
  rcases h with (h | h) | h
  · exact wpo_swap h.1 h.2 hap hh
  · obtain ⟨v, hh, hv⟩ := wpo_free h.1 hh
    obtain ⟨b, hh, hb⟩ := wpo_store h.2 hh
    refine hb s (put_bx _ _).symm (Agree.put' h1) _ ?_
    refine hv _ Agree.bx _ ?_
    rw [put_with]; exact hh
  · obtain ⟨b, hh, hb⟩ := wpo_store h.1 hh
    obtain ⟨v, hh, hv⟩ := wpo_free h.2 hh
    refine hv s Agree.bx' _ ?_
    refine hb _ (put_bx _ _) (Agree.put h3) _ ?_
    rw [put_with] at hh; exact hh

/-- under one that may change places -/
theorem wpo_under {y x : AO} {K K' : St → Prop} (h : y.comm x = true) (hk : ∀ s, K s → K' s) (hh : wpo P s y K) : wpo P s y K' := by
  simp only [AO.comm, Bool.and_eq_true, Bool.or_eq_true] at h
  obtain ⟨_, h⟩ := h
  have hq : y.quiet = true ∨ y.isStore = true := by
    rcases h with (h | h) | h
    · exact .inl h.1
    · exact .inl (free_quiet h.1)
    · exact .inr h.1
  rcases hq with hq | hq
  · obtain ⟨v, h1, h2⟩ := wpo_dt hq hh
    exact h2 s rfl (fun _ _ => rfl) _ (hk _ h1)
  · obtain ⟨b, h1, h2⟩ := wpo_store hq hh
    exact h2 s rfl (fun _ _ => rfl) _ (hk _ h1)

end Go.Ab
/- Regions: in the text's order, and in any order that Go leaves open. No condition. -/
namespace Go.Ab
variable {P : Program} {nt : Nat} {s s' : St} {Γ : Cx} {a : Act} {w : World} {Q : Exit → Act → World → Prop}

/-- a list of operations -/
def wpl (P : Program) (s : St) : List AO → (St → Prop) → Prop
  | [], K => K s
  | o :: r, K => wpo P s o fun s' => wpl P s' r K

def wpx (P : Program) (aos : List AO) (s : St) : List Nat → (St → Prop) → Prop
  | [], K => K s
  | i :: r, K => match aos[i]? with
    | some o => wpo P s o fun s' => wpx P aos s' r K
    | none => False

theorem wpl_eq_wpx {aos : List AO} {K : St → Prop} : ∀ (n i : Nat) (s : St), i + n = aos.length → (wpl P s (aos.drop i) K ↔ wpx P aos s (List.range' i n) K)
  | 0, i, s, h => by simp only [List.range'_zero, wpx]; rw [List.drop_of_length_le (by omega)]; rfl
  | n + 1, i, s, h => by
    have hlt : i < aos.length := by omega
    rw [List.range'_succ, List.drop_eq_getElem_cons hlt]
    simp only [wpl, wpx, List.getElem?_eq_getElem hlt]
    have : (fun s' => wpl P s' (aos.drop (i + 1)) K) = fun s' => wpx P aos s' (List.range' (i + 1) n) K := funext fun s' => propext (wpl_eq_wpx n (i + 1) s' (by omega))
    rw [this]

/-- the operations of a region, read -/
def trOpers (P : Program) (nt : Nat) (ops : Array Oper) (own sp : List Nat) (draw : Bool) : List Oper → Option (List AO)
  | [] => some []
  | o :: r => match trOper P nt ops own sp draw o, trOpers P nt ops own sp draw r with | some x, some l => some (x :: l) | _, _ => none

theorem trOpers_at {ops : Array Oper} {own sp : List Nat} {draw : Bool} : ∀ {os : List Oper} {aos : List AO}, trOpers P nt ops own sp draw os = some aos → aos.length = os.length ∧ ∀ (i : Nat) o, os[i]? = some o → ∃ ao, aos[i]? = some ao ∧ trOper P nt ops own sp draw o = some ao
  | [], aos, h => by simp [trOpers] at h; subst h; simp
  | o :: r, aos, h => by
    simp only [trOpers] at h
    split at h
    · rename_i x l hx hl
      simp only [Option.some.injEq] at h; subst h
      obtain ⟨h1, h2⟩ := trOpers_at hl
      refine ⟨by simp [h1], fun i o' hi => ?_⟩
      cases i with
      | zero => simp at hi; subst hi; exact ⟨x, rfl, hx⟩
      | succ i => simp at hi; simpa using h2 i o' hi
    · simp at h

theorem Nxt.trans {Γ1 : Cx} {w1 : World} {K : St → Prop} {Kr : Act → World → Prop} (h1 : Le Γ Γ1) (h2 : WF w w1) (h : Nxt P nt Γ w K Kr) : Nxt P nt Γ1 w1 K Kr :=
  fun s' Γ' a' w' a1 a2 a3 a4 a5 => h s' Γ' a' w' a1 a2 (h1.trans a3) (h2.trans a4) a5

theorem wpx_sound {ops : Array Oper} {aos : List AO} {own sp : List Nat} {draw : Bool} (hop : ∀ (i : Nat) o, ops[i]? = some o → ∃ ao, aos[i]? = some ao ∧ trOper P nt ops own sp draw o = some ao) (hlen : aos.length = ops.size) {K : St → Prop} :
    ∀ (l : List Nat) {s : St} {Γ : Cx} {a : Act} {w : World}, Sim nt s Γ a → w.heap = Γ.heap → wpx P aos s l K → Nxt P nt Γ w K (Q .normal) → wpOps P ops Q l a w
  | [], s, Γ, a, w, hs, hw, h, hk => hk _ _ _ _ hs hw (Le.refl Γ) (WF.refl w) h
  | i :: r, s, Γ, a, w, hs, hw, h, hk => by
    rw [wpOps_cons]
    simp only [wpx] at h
    split at h
    case h_2 => exact h.elim
    rename_i ao hao
    have hi : i < ops.size := by rw [← hlen]; exact (List.getElem?_eq_some_iff.1 hao).1
    obtain ⟨ao', h1, h2⟩ := hop i ops[i] (Array.getElem?_eq_getElem hi)
    rw [hao] at h1; cases h1
    refine wpo_sound (Array.getElem?_eq_getElem hi) h2 hs hw h ?_
    intro s' Γ' a' w' b1 b2 b3 b4 b5
    exact wpx_sound hop hlen r b1 b2 b5 (hk.trans b3 b4)

theorem region_sound {ops : Array Oper} {aos : List AO} {own sp : List Nat} {id : Nat} (ht : trOpers P nt ops own sp false ops.toList = some aos) {K : St → Prop} (hs : Sim nt s Γ a) (hw : w.heap = Γ.heap) (h : wpl P s aos K) (hk : Nxt P nt Γ w K (Q .normal)) :
    (Code.region id ops false).wp P Q a w := by
  obtain ⟨h1, h2⟩ := trOpers_at ht
  refine wp_region (wpx_sound (fun i o hi => h2 i o (by simpa using hi)) (by simpa using h1) _ hs hw ?_ hk)
  rw [List.range_eq_range']
  exact (wpl_eq_wpx (P := P) ops.size 0 s (by simpa using h1.symm)).1 (by simpa using h)

/-- j comes ahead of i, by the bonds -/
inductive Bef (ops : Array Oper) : Nat → Nat → Prop
  | dir {i : Nat} {o : Oper} {e : Edge} : ops[i]? = some o → e ∈ o.after → Region.binds .any e = true → Bef ops i e.on
  | tr {i j : Nat} {o : Oper} {e : Edge} : ops[i]? = some o → e ∈ o.after → Region.binds .any e = true → Bef ops e.on j → Bef ops i j

def maskOf (ms : List Nat) : List Edge → Nat → Nat
  | [], m => m
  | e :: r, m => maskOf ms r (if Region.binds .any e = true then m ||| 2 ^ e.on ||| ms.getD e.on 0 else m)
/-- all that comes ahead, as bits -/
def masks : List Oper → List Nat → List Nat
  | [], ms => ms
  | o :: r, ms => masks r (ms ++ [maskOf ms o.after.toList 0])

theorem maskOf_spec {ms : List Nat} {B : Nat → Prop} : ∀ (l : List Edge) (m : Nat), (∀ e ∈ l, Region.binds .any e = true → B e.on ∧ ∀ j, (ms.getD e.on 0).testBit j = true → B j) → (∀ j, m.testBit j = true → B j) →
    ∀ j, (maskOf ms l m).testBit j = true → B j
  | [], m, _, hm, j, h => hm j h
  | e :: r, m, hl, hm, j, h => by
    simp only [maskOf] at h
    refine maskOf_spec r _ (fun e he => hl e (by simp [he])) ?_ j h
    intro j hj
    split at hj
    · rename_i hb
      obtain ⟨h1, h2⟩ := hl e (by simp) hb
      rw [Nat.testBit_or, Nat.testBit_or, Bool.or_eq_true, Bool.or_eq_true, Nat.testBit_two_pow] at hj
      rcases hj with (hj | hj) | hj
      · exact hm j hj
      · simp only [decide_eq_true_eq] at hj; subst hj; exact h1
      · exact h2 j hj
    · exact hm j hj

theorem masks_spec {ops : Array Oper} : ∀ (l done : List Oper) (ms : List Nat), ops.toList = done ++ l → ms.length = done.length → (∀ (i : Nat) m, ms[i]? = some m → ∀ j, m.testBit j = true → Bef ops i j) →
    ∀ (i : Nat) m, (masks l ms)[i]? = some m → ∀ j, m.testBit j = true → Bef ops i j
  | [], _, ms, _, _, h => h
  | o :: r, done, ms, hd, hl, h => by
    refine masks_spec r (done ++ [o]) _ (by simp [hd]) (by simp [hl]) ?_
    intro i m hi j hj
    rw [List.getElem?_append] at hi
    split at hi
    · exact h i m hi j hj
    · rename_i hge
      have hi0 : i = ms.length := by
        have := (List.getElem?_eq_some_iff.1 hi).1
        simp at this; omega
      subst hi0
      simp at hi
      subst hi
      have ho : ops[ms.length]? = some o := by
        rw [← Array.getElem?_toList, hd, hl]; simp
      refine maskOf_spec (B := fun j => Bef ops ms.length j) _ 0 (fun e he hb => ⟨.dir ho (by simpa using he) hb, fun j hj => .tr ho (by simpa using he) hb ?_⟩) (by simp) j hj
      cases hx : ms[e.on]? with
      | none => rw [List.getD_eq_getElem?_getD, hx] at hj; simp at hj
      | some m => rw [List.getD_eq_getElem?_getD, hx] at hj; exact h _ m hx j hj

def bef (ms : List Nat) (i j : Nat) : Bool := (ms.getD i 0).testBit j

theorem bef_spec {ops : Array Oper} {i j : Nat} (h : bef (masks ops.toList []) i j = true) : Bef ops i j := by
  unfold bef at h
  cases hx : (masks ops.toList [])[i]? with
  | none => rw [List.getD_eq_getElem?_getD, hx] at h; simp at h
  | some m =>
    rw [List.getD_eq_getElem?_getD, hx] at h
    exact masks_spec ops.toList [] [] (by simp) rfl (by simp) i m hx j h

/-- may these be done in the text's order, whichever order is drawn? -/
def okDrawM (ops : Array Oper) (aos : List AO) (ms : List Nat) : Bool :=
  (List.range ops.size).all fun i => match ops[i]?, aos[i]? with
    | some o, some x => (o.after.all fun e => !Region.binds .any e || decide (e.on < i)) &&
        (List.range i).all fun j => bef ms i j || (match aos[j]? with | some y => y.comm x | none => false)
    | _, _ => false

def okDraw (ops : Array Oper) (aos : List AO) : Bool := okDrawM ops aos (masks ops.toList [])

def Closed (ops : Array Oper) (listed : Array Bool) : Prop :=
  ∀ (k : Nat) o, ops[k]? = some o → listed.getD k true = true → ∀ e ∈ o.after, Region.binds .any e = true → listed.getD e.on false = true

theorem bef_listed {ops : Array Oper} {listed : Array Bool} (hc : Closed ops listed) {i j : Nat} (h : Bef ops i j) : listed.getD i false = true → listed.getD j false = true := by
  have up : ∀ i : Nat, listed.getD i false = true → listed.getD i true = true := by
    intro i hl
    have hi : i < listed.size := by
      rcases Nat.lt_or_ge i listed.size with h' | h'
      · exact h'
      · simp [Array.getElem?_eq_none h'] at hl
    simpa [Array.getD_eq_getD_getElem?, Array.getElem?_eq_getElem hi] using hl
  induction h with
  | dir ho he hb => intro hl; exact hc _ _ ho (up _ hl) _ he hb
  | tr ho he hb _ ih => intro hl; exact ih (hc _ _ ho (up _ hl) _ he hb)

theorem bef_ready {ops : Array Oper} {listed : Array Bool} (hc : Closed ops listed) {i j : Nat} (h : Bef ops i j) (hr : i ∈ Region.ready .any ops listed) : listed.getD j false = true := by
  obtain ⟨_, o, ho, hall⟩ := mem_ready.1 hr
  cases h with
  | dir ho' he hb => rw [ho] at ho'; cases ho'; exact hall _ he hb
  | tr ho' he hb h2 => rw [ho] at ho'; cases ho'; exact bef_listed hc h2 (hall _ he hb)

/-- one to the front -/
theorem wpx_front {aos : List AO} {K : St → Prop} {i : Nat} {x : AO} (hi : aos[i]? = some x) (l2 : List Nat) : ∀ (l1 : List Nat) (s : St),
    (∀ j ∈ l1, ∃ y, aos[j]? = some y ∧ y.comm x = true) → wpx P aos s (l1 ++ i :: l2) K → wpo P s x fun s' => wpx P aos s' (l1 ++ l2) K
  | [], s, _, h => by simpa [wpx, hi] using h
  | j :: l1, s, hall, h => by
    obtain ⟨y, hy, hap⟩ := hall j (by simp)
    simp only [List.cons_append, wpx, hy] at h ⊢
    exact wpo_comm hap (wpo_under hap (fun s' h' => wpx_front hi l2 l1 s' (fun k hk => hall k (by simp [hk])) h') h)

theorem anyA {ops : Array Oper} {aos : List AO} {own sp : List Nat} (hop : ∀ (i : Nat) o, ops[i]? = some o → ∃ ao, aos[i]? = some ao ∧ trOper P nt ops own sp true o = some ao) (hlen : aos.length = ops.size) (hok : okDraw ops aos = true) {K : St → Prop} :
    ∀ (n : Nat) (listed : Array Bool) {s : St} {Γ : Cx} {a : Act} {w : World}, listed.size = ops.size → Closed ops listed → ((List.range ops.size).filter fun i => !listed.getD i true).length = n →
      Sim nt s Γ a → w.heap = Γ.heap → wpx P aos s ((List.range ops.size).filter fun i => !listed.getD i true) K → Nxt P nt Γ w K (Q .normal) → wpAny P .any ops Q n listed a w := by
  simp only [okDraw, okDrawM, Bool.and_eq_true, List.all_eq_true, List.mem_range] at hok
  have hoi := hok
  -- what is first is ready
  have hfirst : ∀ listed : Array Bool, listed.size = ops.size → Region.ready .any ops listed = [] → ((List.range ops.size).filter fun i => !listed.getD i true) = [] := by
    intro listed hsz hr
    cases hl : (List.range ops.size).filter fun i => !listed.getD i true with
    | nil => rfl
    | cons i l =>
      exfalso
      have hm : ∀ j, j ∈ i :: l ↔ j < ops.size ∧ listed.getD j true = false := by intro j; rw [← hl]; simp
      have hsort : (i :: l).Pairwise (· < ·) := by rw [← hl]; exact (List.pairwise_lt_range).filter _
      obtain ⟨hi, hun⟩ := (hm i).1 (by simp)
      have hoi' := hoi i hi
      obtain ⟨ao, hao, _⟩ := hop i ops[i] (Array.getElem?_eq_getElem hi)
      rw [Array.getElem?_eq_getElem hi, hao] at hoi'
      simp only [Bool.and_eq_true, Array.all_eq_true_iff_forall_mem, Bool.or_eq_true, Bool.not_eq_true', decide_eq_true_eq] at hoi'
      have : i ∈ Region.ready .any ops listed := by
        rw [mem_ready]
        refine ⟨hun, ops[i], Array.getElem?_eq_getElem hi, fun e he hb => ?_⟩
        have hlt := (hoi'.1 e he).resolve_left (by simp [hb])
        cases hx : listed.getD e.on false with
        | true => rfl
        | false =>
          have hlt2 : e.on < listed.size := by omega
          have hu : listed.getD e.on true = false := by
            simpa [Array.getD_eq_getD_getElem?, Array.getElem?_eq_getElem hlt2] using hx
          have hmem := (hm e.on).2 ⟨by omega, hu⟩
          rcases List.mem_cons.1 hmem with h | h
          · omega
          · have := List.rel_of_pairwise_cons hsort h; omega
      rw [hr] at this; simp at this
  intro n
  induction n with
  | zero =>
    intro listed s Γ a w hsz hc hn hs hw h hk
    have hl := List.length_eq_zero_iff.1 hn
    rw [hl] at h
    refine ⟨?_, hk _ _ _ _ hs hw (Le.refl Γ) (WF.refl w) h⟩
    rw [List.eq_nil_iff_forall_not_mem]
    intro i hi
    have h0 := (mem_ready.1 hi)
    obtain ⟨h1, o, ho, _⟩ := h0
    have : i ∈ (List.range ops.size).filter fun i => !listed.getD i true := by
      rw [List.mem_filter, List.mem_range]; exact ⟨(Array.getElem?_eq_some_iff.1 ho).1, by rw [h1]; rfl⟩
    rw [hl] at this; simp at this
  | succ n ih =>
    intro listed s Γ a w hsz hc hn hs hw h hk
    refine ⟨fun hr => ?_, fun i hi => ?_⟩
    · rw [hfirst listed hsz hr] at hn; simp at hn
    · obtain ⟨hun, o, ho, hall⟩ := mem_ready.1 hi
      have hlt := (Array.getElem?_eq_some_iff.1 ho).1
      obtain ⟨ao, hao, htr⟩ := hop i o ho
      have hmem : i ∈ (List.range ops.size).filter fun i => !listed.getD i true := by
        rw [List.mem_filter, List.mem_range]; exact ⟨hlt, by rw [hun]; rfl⟩
      obtain ⟨l1, l2, hl⟩ := List.append_of_mem hmem
      have hsort : (l1 ++ i :: l2).Pairwise (· < ·) := by rw [← hl]; exact (List.pairwise_lt_range).filter _
      have hnd : (l1 ++ i :: l2).Nodup := hsort.imp (fun h => Nat.ne_of_lt h)
      have hrest : (List.range ops.size).filter (fun j => !(listed.setIfInBounds i true).getD j true) = l1 ++ l2 := by
        have e : (fun j => !(listed.setIfInBounds i true).getD j true) = fun j => (decide (j ≠ i)) && !listed.getD j true := by
          funext j
          by_cases hji : i = j
          · subst hji; simp [Array.getD_eq_getD_getElem?, Array.getElem?_setIfInBounds_self_of_lt (by omega : i < listed.size)]
          · rw [getD_set_ne true hji]; simp [Ne.symm hji]
        rw [e, ← List.filter_filter, hl, List.filter_append, List.filter_cons]
        simp only [ne_eq, not_true, decide_false, Bool.false_eq_true, if_false]
        have hn1 := List.nodup_append.1 hnd
        rw [List.filter_eq_self.2, List.filter_eq_self.2]
        · intro x hx; simp; rintro rfl; exact (List.nodup_cons.1 hn1.2.1).1 hx
        · intro x hx; simp; rintro rfl; exact hn1.2.2 x hx x (by simp) rfl
      rw [hl] at h hn
      have hlt1 : ∀ j ∈ l1, j < i := fun j hj => by
        have := (List.pairwise_append.1 hsort).2.2 j hj i (by simp); exact this
      have hunl : ∀ j ∈ l1, listed.getD j true = false := fun j hj => by
        have : j ∈ (List.range ops.size).filter fun i => !listed.getD i true := by rw [hl]; simp [hj]
        simpa using (List.mem_filter.1 this).2
      have hoi' := hoi i hlt
      rw [ho, hao] at hoi'
      simp only [Bool.and_eq_true, List.all_eq_true, List.mem_range, Bool.or_eq_true] at hoi'
      have hf := wpx_front (P := P) (K := K) hao l2 l1 s (fun j hj => by
        have hj2 := hoi'.2 j (hlt1 j hj)
        rcases hj2 with hb | hb
        · have := bef_ready hc (bef_spec hb) hi
          have hx := hunl j hj
          have hjl : j < listed.size := by have := hlt1 j hj; omega
          simp [Array.getD_eq_getD_getElem?, Array.getElem?_eq_getElem hjl] at this hx
          rw [this] at hx; simp at hx
        · split at hb
          · rename_i y hy; exact ⟨y, hy, hb⟩
          · simp at hb) h
      refine wpo_sound ho htr hs hw hf ?_
      intro s' Γ' a' w' b1 b2 b3 b4 b5
      refine ih (listed.setIfInBounds i true) (by simp [hsz]) ?_ (by rw [hrest]; simp at hn ⊢; omega) b1 b2 (by rw [hrest]; exact b5) (hk.trans b3 b4)
      intro k ok hok2 hkl e he hb
      by_cases hki : i = k
      · subst hki; rw [ho] at hok2; cases hok2; exact getD_set_true (hall e he hb)
      · rw [getD_set_ne true hki] at hkl; exact getD_set_true (hc k ok hok2 hkl e he hb)

theorem region_draw_sound {ops : Array Oper} {aos : List AO} {own sp : List Nat} {id : Nat} (hm : P.follows .mixedOrders = true) (ht : trOpers P nt ops own sp true ops.toList = some aos) (hok : okDraw ops aos = true) {K : St → Prop} (hs : Sim nt s Γ a) (hw : w.heap = Γ.heap) (h : wpl P s aos K) (hk : Nxt P nt Γ w K (Q .normal)) :
    (Code.region id ops true).wp P Q a w := by
  obtain ⟨h1, h2⟩ := trOpers_at ht
  have e : ((List.range ops.size).filter fun i => !(Array.replicate ops.size false).getD i true) = List.range ops.size := by
    rw [List.filter_eq_self]
    intro i hi
    rw [List.mem_range] at hi
    simp [Array.getD_eq_getD_getElem?, hi]
  refine wp_region_any hm (anyA (s := s) (Γ := Γ) (K := K) (fun i o hi => h2 i o (by simpa using hi)) (by simpa using h1) hok _ _ (by simp) ?_ (by rw [e]; simp) hs hw ?_ ?_)
  · intro k o hko hl
    have := (Array.getElem?_eq_some_iff.1 hko).1
    simp [Array.getD_eq_getD_getElem?, this] at hl
  · rw [e, List.range_eq_range']
    exact (wpl_eq_wpx (P := P) ops.size 0 s (by simpa using h1.symm)).1 (by simpa using h)
  · intro s' Γ' a' w' b1 b2 b3 b4 b5
    exact hk s' Γ' a' w' b1 b2 b3 ⟨b4.os, b4.tape, b4.output⟩ b5

end Go.Ab
/- What is known may be given up: blocks frozen or dropped, slots forgotten. No condition. -/
namespace Go.Ab
variable {P : Program} {nt : Nat} {s : St} {Γ Δ : Cx} {a : Act} {w : World}

mutual
def frz (k sz : Nat) (l0 : List PV) : PV → PV
  | .rs k' p off len tot sz' c => if k' = k then (if tot = l0.length ∧ p = [] ∧ sz' = sz ∧ off + len ≤ l0.length then .sl sz ((l0.drop off).take len) (decide (c = .clip)) else .un) else .rs k' p off len tot sz' c
  | .pt k' p tot => if k' = k then (if tot = l0.length then .fp sz l0 p else .un) else .pt k' p tot
  | .st w l => .st w (frzL k sz l0 l)
  | .ar z n l => .ar z n (frzL k sz l0 l)
  | .tup l => .tup (frzL k sz l0 l)
  | .sl z l c => .sl z (frzL k sz l0 l) c
  | .fp z l p => .fp z (frzL k sz l0 l) p
  | .fn f x y => .fn f (frzL k sz l0 x) (frzL k sz l0 y)
  | .gd b p => .gd b (frz k sz l0 p)
  | .ifc t p => .ifc t (frz k sz l0 p)
  | p => p
def frzL (k sz : Nat) (l0 : List PV) : List PV → List PV
  | [] => []
  | p :: l => frz k sz l0 p :: frzL k sz l0 l
end

def frzB (k sz : Nat) (l0 : List PV) : Blk → Blk
  | .box v => .box (frz k sz l0 v)
  | .arr z l => .arr z (frzL k sz l0 l)

variable {k sz : Nat} {l0 : List PV}

theorem frz_width (p : PV) : (frz k sz l0 p).width = p.width := by
  cases p <;> simp only [frz] <;> (try split) <;> (try split) <;> simp [PV.width]
theorem frz_isAgg (p : PV) : (frz k sz l0 p).isAgg = p.isAgg := by
  cases p <;> simp only [frz] <;> (try split) <;> (try split) <;> simp [PV.isAgg]
theorem frzL_length (l : List PV) : (frzL k sz l0 l).length = l.length := by induction l <;> simp [frzL, *]
theorem frzL_mem {l : List PV} {q : PV} (h : q ∈ frzL k sz l0 l) : ∃ p ∈ l, q = frz k sz l0 p := by
  induction l with
  | nil => simp [frzL] at h
  | cons x l ih =>
    simp only [frzL, List.mem_cons] at h
    rcases h with h | h
    · exact ⟨x, by simp, h⟩
    · obtain ⟨p, hp, e⟩ := ih h; exact ⟨p, by simp [hp], e⟩
theorem frzB_tot (b : Blk) : (frzB k sz l0 b).tot = b.tot := by cases b <;> simp [frzB, Blk.tot, frzL_length]

mutual
theorem frz_id : ∀ p, refsOk (fun j => decide (j ≠ k)) p = true → frz k sz l0 p = p
  | .rs k' _ _ _ _ _ _, hp => by simp only [refsOk, decide_eq_true_eq] at hp; simp [frz, hp]
  | .pt k' _ _, hp => by simp only [refsOk, decide_eq_true_eq] at hp; simp [frz, hp]
  | .st _ l, hp => by simp only [refsOk] at hp; simp [frz, frzL_id l hp]
  | .ar _ _ l, hp => by simp only [refsOk] at hp; simp [frz, frzL_id l hp]
  | .tup l, hp => by simp only [refsOk] at hp; simp [frz, frzL_id l hp]
  | .sl _ l _, hp => by simp only [refsOk] at hp; simp [frz, frzL_id l hp]
  | .fp _ l _, hp => by simp only [refsOk] at hp; simp [frz, frzL_id l hp]
  | .fn _ x y, hp => by simp only [refsOk, Bool.and_eq_true] at hp; simp [frz, frzL_id x hp.1, frzL_id y hp.2]
  | .gd _ p, hp => by simp only [refsOk] at hp; simp [frz, frz_id p hp]
  | .ifc _ p, hp => by simp only [refsOk] at hp; simp [frz, frz_id p hp]
  | .un, _ => by simp [frz]
  | .bl _, _ => by simp [frz]
  | .int _ _, _ => by simp [frz]
  | .str _, _ => by simp [frz]
  | .np, _ => by simp [frz]
  | .nf, _ => by simp [frz]
  | .ni, _ => by simp [frz]
theorem frzL_id : ∀ l, refsOkL (fun j => decide (j ≠ k)) l = true → frzL k sz l0 l = l
  | [], _ => rfl
  | p :: l, hp => by simp only [refsOkL, Bool.and_eq_true] at hp; simp [frzL, frz_id p hp.1, frzL_id l hp.2]
end

/-- Δ is Γ, with the array 'k' frozen -/
structure Frz (Γ Δ : Cx) (k sz : Nat) (l0 : List PV) : Prop where
  heap : Δ.heap = Γ.heap
  own : ∀ b, b < Γ.heap.size → ¬ Γ.own b → ¬ Δ.own b
  ref : ∀ k' blk, k' ≠ k → get Γ.bx k' = some blk → ∃ blk', get Δ.bx k' = some blk' ∧ blk'.tot = blk.tot ∧ Δ.ι k' = Γ.ι k'
  here : ∀ blk, get Γ.bx k = some blk → blk = .arr sz l0
  wd : ∀ x ∈ l0, x.width = sz
  cells : ∀ b, Γ.ι k = some b → b < Γ.heap.size ∧ ¬ Δ.own b ∧ ∃ c e cs rest, Γ.heap[b]? = some (.cells c e (0, 0)) ∧ c.toList = cs ++ rest ∧ RepL Δ l0 cs

theorem RepL.frz (hf : Frz Γ Δ k sz l0) {l : List PV} {cs : List Value} (h : RepL Γ l cs) : RepL Δ (frzL k sz l0 l) cs := by
  induction h with
  | nil => exact .nil
  | un h hr ih => exact .un h ih
  | bl x hr ih => exact .bl x ih
  | int k n hr ih => exact .int k n ih
  | str l s h hr ih => exact .str l s h ih
  | st w l hl hw hr ihl ih => exact .st w _ ihl hw ih
  | ar z n l hl hn hw hr ihl ih =>
    refine .ar z n _ ihl (by rw [frzL_length]; exact hn) (fun x hx => ?_) ih
    obtain ⟨p, hp, rfl⟩ := frzL_mem hx
    rw [frz_width]; exact hw p hp
  | sl z l clip ad rcap hl hw hc hk hb hr ihl ih =>
    have := RepL.sl (Γ := Δ) z (frzL k sz l0 l) clip ad rcap ihl (fun x hx => by obtain ⟨p, hp, rfl⟩ := frzL_mem hx; rw [frz_width]; exact hw p hp) (by rw [frzL_length]; exact hc) (by rw [frzL_length]; exact hk)
      (fun hne => by
        obtain ⟨b, o, h1, h2, h3, h4⟩ := hb (by intro h; subst h; simp [frzL] at hne)
        exact ⟨b, o, h1, by rw [hf.heap]; exact h2, hf.own b h2 h3, by rw [hf.heap]; exact h4⟩) ih
    rw [frzL_length] at this
    exact this
  | rs k' p off len tot sz' c v blk hg h1 hv hr ih =>
    simp only [frzL, Ab.frz]
    by_cases hk : k' = k
    · rw [if_pos hk]
      subst hk
      have hblk := hf.here blk hg.1
      subst hblk
      split
      · rename_i hc
        obtain ⟨ht, hp, hsz, hle⟩ := hc
        subst hp hsz
        obtain ⟨ad, rcap, rfl, hrs⟩ := hv (by simpa [Blk.tot] using ht)
        have hlen : ((l0.drop off).take len).length = len := by simp; omega
        unfold RsOk at hrs
        cases hι : Γ.ι k' with
        | none =>
          rw [hι] at hrs
          obtain ⟨rfl, rfl⟩ := hrs
          have := RepL.sl (Γ := Δ) sz' ((l0.drop off).take 0) (decide (c = .clip)) ad 0 (cs := []) (by simpa using RepL.nil) (by simp) (by simp) (by simp) (by simp) ih
          simpa using this
        | some b =>
          rw [hι] at hrs
          obtain ⟨hlr, had, hcl, _⟩ := hrs
          obtain ⟨hb1, hb2, cc, e, cs, rest, hh, hcs, hrl⟩ := hf.cells b hι
          have hr2 := (hrl.dropU hf.wd off (by omega)).takeU (fun x hx => hf.wd x (List.mem_of_mem_drop hx)) len (by simp; omega)
          have hcl2 : cs.length = l0.length * sz' := by rw [hrl.length, widths_const hf.wd]
          have := RepL.sl (Γ := Δ) sz' ((l0.drop off).take len) (decide (c = .clip)) ad rcap hr2 (fun x hx => hf.wd x (List.mem_of_mem_drop (List.mem_of_mem_take hx))) (by rw [hlen]; exact hlr) (by rw [hlen]; simpa using hcl)
            (fun hne => by
              have hlen0 : len ≠ 0 := by rintro rfl; simp at hne
              refine ⟨b, off * sz', ?_, by rw [hf.heap]; exact hb1, hb2, fun i x hi => ?_⟩
              · rcases had with h | h
                · omega
                · simpa [poff] using h
              · rw [List.getElem?_take] at hi
                split at hi
                · rw [List.getElem?_drop] at hi
                  simp only [cell, hf.heap, hh]
                  rw [← Array.getElem?_toList, hcs]
                  have hlt := (List.getElem?_eq_some_iff.1 hi).1
                  rw [List.getElem?_append_left hlt]; exact hi
                · simp at hi) ih
          rw [hlen] at this
          exact this
      · exact .un h1 ih
    · rw [if_neg hk]
      obtain ⟨blk', g1, g2, g3⟩ := hf.ref k' blk hk hg.1
      refine .rs k' p off len tot sz' c v blk' ⟨g1, by rw [g2]; exact hg.2⟩ h1 (fun ht => ?_) ih
      obtain ⟨ad, rcap, e1, e2⟩ := hv (by rw [ht, g2])
      exact ⟨ad, rcap, e1, e2.ren g3 hf.heap⟩
  | np hr ih => exact .np ih
  | pt k' p tot v blk hg h1 hv hr ih =>
    simp only [frzL, Ab.frz]
    by_cases hk : k' = k
    · rw [if_pos hk]
      subst hk
      have hblk := hf.here blk hg.1
      subst hblk
      split
      · rename_i ht
        obtain ⟨b, hι, rfl⟩ := hv (by simpa [Blk.tot] using ht)
        obtain ⟨hb1, hb2, cc, e, cs, rest, hh, hcs, hrl⟩ := hf.cells b hι
        have := RepL.fp (Γ := Δ) sz l0 p b 0 hrl hf.wd ⟨by rw [hf.heap]; exact hb1, hb2⟩ (fun i x hi => by
          simp only [cell, hf.heap, hh]
          rw [← Array.getElem?_toList, hcs, Nat.zero_add]
          have hlt := (List.getElem?_eq_some_iff.1 hi).1
          rw [List.getElem?_append_left hlt]; exact hi) ih
        simpa using this
      · exact .un h1 ih
    · rw [if_neg hk]
      obtain ⟨blk', g1, g2, g3⟩ := hf.ref k' blk hk hg.1
      refine .pt k' p tot v blk' ⟨g1, by rw [g2]; exact hg.2⟩ h1 (fun ht => ?_) ih
      obtain ⟨b, e1, e2⟩ := hv (by rw [ht, g2])
      exact ⟨b, by rw [g3, e1], e2⟩
  | fp z l p b o hl hw hm hc hr ihl ih =>
    exact .fp z _ p b o ihl (fun x hx => by obtain ⟨p, hp, rfl⟩ := frzL_mem hx; rw [frz_width]; exact hw p hp) ⟨by rw [hf.heap]; exact hm.1, hf.own b hm.1 hm.2⟩ (by rw [hf.heap]; exact hc) ih
  | fn g first cap h1 h2 h3 h4 hr i1 i2 ih =>
    exact .fn g _ _ i1 i2 (fun x hx => by obtain ⟨p, hp, rfl⟩ := frzL_mem hx; rw [frz_isAgg]; exact h3 p hp) (fun x hx => by obtain ⟨p, hp, rfl⟩ := frzL_mem hx; rw [frz_isAgg]; exact h4 p hp) ih
  | nf hr ih => exact .nf ih
  | ifc t v h1 h2 hr i1 ih =>
    simp only [frzL] at i1
    exact .ifc t _ i1 (by rw [frz_isAgg]; exact h2) ih
  | ni hr ih => exact .ni ih

theorem RepL.frz1 (hf : Frz Γ Δ k sz l0) {p : PV} {cs : List Value} (h : RepL Γ [p] cs) : RepL Δ [Ab.frz k sz l0 p] cs := by
  have := h.frz hf
  simpa only [frzL] using this

theorem RepL.toV1 {p : PV} {v : Value} (h : RepL Γ [p] [v]) (ha : p.isAgg = false) : RepV1 Γ p v := by
  cases p <;> simp [PV.isAgg] at ha <;> first | (simp only [RepV1]; done) | (simp only [RepV1]; exact h)

theorem RepV1.frz (hf : Frz Γ Δ k sz l0) {p : PV} {v : Value} (h : RepV1 Γ p v) : RepV1 Δ (Ab.frz k sz l0 p) v := by
  cases p
  case un => trivial
  case st w l => obtain ⟨cs, h1, h2⟩ := h; exact ⟨cs, h1, h2.frz1 hf⟩
  case ar z n l => obtain ⟨cs, h1, h2⟩ := h; exact ⟨cs, h1, h2.frz1 hf⟩
  case rs => exact (RepL.frz1 hf h).toV1 (by rw [frz_isAgg]; rfl)
  case pt => exact (RepL.frz1 hf h).toV1 (by rw [frz_isAgg]; rfl)
  all_goals exact RepL.frz1 hf h

theorem RepV.frz (hf : Frz Γ Δ k sz l0) : ∀ {p : PV} {v : Value}, RepV Γ p v → RepV Δ (Ab.frz k sz l0 p) v := by
  have h2 : ∀ {l : List PV} {vs : List Value}, AllV Γ l vs → AllV Δ (frzL k sz l0 l) vs := by
    intro l
    induction l with
    | nil => intro vs h; cases vs <;> simp_all [AllV, frzL]
    | cons p l ih =>
      intro vs h
      cases vs with
      | nil => simp [AllV] at h
      | cons v vs => simp only [AllV, frzL] at h ⊢; exact ⟨h.1.frz hf, ih h.2⟩
  intro p
  induction p using PV.rec (motive_2 := fun _ => True) with
  | gd b p ih => intro v h; simp only [Ab.frz]; rw [RepV] at h ⊢; exact ⟨fun hb => ih (h.1 hb), h.2⟩
  | tup l => intro v h; simp only [RepV, Ab.frz] at h ⊢; obtain ⟨vs, e, h⟩ := h; exact ⟨vs, e, h2 h⟩
  | un => intro v h; simp [RepV, Ab.frz]
  | st w l => intro v h; obtain ⟨cs, e, h⟩ := h; exact ⟨cs, e, h.frz1 hf⟩
  | ar z n l => intro v h; obtain ⟨cs, e, h⟩ := h; exact ⟨cs, e, h.frz1 hf⟩
  | nil => trivial
  | cons => trivial
  | rs => intro v h; exact (RepL.frz1 hf h).toV (by rw [frz_isAgg]; rfl)
  | pt => intro v h; exact (RepL.frz1 hf h).toV (by rw [frz_isAgg]; rfl)
  | _ => intro v h; exact RepL.frz1 hf h

theorem Blk.Rep.frz (hf : Frz Γ Δ k sz l0) {blk : Blk} {ob : Option Nat} (h : blk.Rep Γ ob) : (frzB k sz l0 blk).Rep Δ ob := by
  cases blk with
  | box v =>
    obtain ⟨b, c, e, h1, h2, h3⟩ := h
    exact ⟨b, c, e, h1, by rw [hf.heap]; exact h2, h3.frz1 hf⟩
  | arr z l =>
    obtain ⟨h1, h2, h3⟩ := h
    refine ⟨fun x hx => by obtain ⟨p, hp, rfl⟩ := frzL_mem hx; rw [frz_width]; exact h1 p hp, h2, ?_⟩
    cases ob with
    | none => simp only at h3 ⊢; subst h3; rfl
    | some b =>
      obtain ⟨c, e, cs, rest, h4, h5, h6⟩ := h3
      exact ⟨c, e, cs, rest, by rw [hf.heap]; exact h4, h5, h6.frz hf⟩

end Go.Ab
/- Giving up what is known, over whole states. No condition. -/
namespace Go.Ab
variable {P : Program} {nt : Nat} {s : St} {Γ Δ Γ0 : Cx} {a : Act} {w : World} {k sz : Nat} {l0 : List PV}

def del {α : Type} : List (Nat × α) → Nat → List (Nat × α)
  | [], _ => []
  | (j, v) :: r, k => if j = k then del r k else (j, v) :: del r k
def mapV {α : Type} (f : α → α) : List (Nat × α) → List (Nat × α)
  | [] => []
  | (j, v) :: r => (j, f v) :: mapV f r
def keepL {α : Type} (sl : List Nat) : List (Nat × α) → List (Nat × α)
  | [] => []
  | (j, v) :: r => if sl.contains j = true then (j, v) :: keepL sl r else keepL sl r

theorem get_del {α : Type} (l : List (Nat × α)) (k j : Nat) : get (del l k) j = if j = k then none else get l j := by
  induction l with
  | nil => simp [del, get]
  | cons x r ih =>
    obtain ⟨i, v⟩ := x
    simp only [del]
    split
    · rename_i h; subst h; rw [ih]; simp only [get]; split
      · rfl
      · rename_i h2; rw [if_neg (fun e => h2 e.symm)]
    · simp only [get, ih]
      split
      · rename_i h h2; subst h2; rw [if_neg h]
      · rfl
theorem get_mapV {α : Type} (f : α → α) (l : List (Nat × α)) (j : Nat) : get (mapV f l) j = (get l j).map f := by
  induction l with
  | nil => rfl
  | cons x r ih => obtain ⟨i, v⟩ := x; simp only [mapV, get, ih]; split <;> rfl
theorem get_keepL {α : Type} (sl : List Nat) (l : List (Nat × α)) (j : Nat) {v : α} (h : get (keepL sl l) j = some v) : get l j = some v := by
  induction l with
  | nil => simp [keepL, get] at h
  | cons x r ih =>
    obtain ⟨i, u⟩ := x
    simp only [keepL] at h
    split at h
    · simp only [get] at h ⊢
      split
      · rename_i h2; rw [if_pos h2] at h; exact h
      · rename_i h2; rw [if_neg h2] at h; exact ih h
    · rename_i hc
      have h3 := ih h
      simp only [get]
      split
      · rename_i h2; subst h2
        exfalso
        have : ∀ r : List (Nat × α), get (keepL sl r) i = none := by
          intro r
          induction r with
          | nil => rfl
          | cons y r ih2 =>
            obtain ⟨m, q⟩ := y
            simp only [keepL]
            split
            · rename_i h4
              simp only [get]
              rw [if_neg (by rintro rfl; exact hc h4)]; exact ih2
            · exact ih2
        rw [this] at h; simp at h
      · exact h3

def HK (Γ : Cx) : Prop := ∀ k blk, get Γ.bx k = some blk → KB ≤ k

/-- a step by which knowledge is given up -/
def Gives (nt : Nat) (Γ0 Γ : Cx) (a : Act) (K : St → Prop) : Prop := ∃ s' Γ', Sim nt s' Γ' a ∧ Γ'.heap = Γ.heap ∧ Le Γ0 Γ' ∧ K s'

theorem same_del (hm : Mem Γ) (f : Blk → Blk) (hft : ∀ b, (f b).tot = b.tot) : Same (fun j => decide (j ≠ k)) id Γ { Γ with bx := mapV f (del Γ.bx k) } where
  heap := rfl
  own b _ hn := by
    rintro (⟨j, blk, h1, h2⟩ | h)
    · simp only [get_mapV, get_del] at h1
      split at h1
      · simp at h1
      · obtain ⟨b0, g1, _⟩ := Option.map_eq_some_iff.1 h1
        exact hn (.inl ⟨j, b0, g1, h2⟩)
    · exact hn (.inr h)
  ref j blk hj hb := by
    simp only [decide_eq_true_eq] at hj
    exact ⟨f blk, by simp [get_mapV, get_del, hj, hb], hft _, rfl⟩

theorem renL_id' {f : Nat → Bool} {l : List PV} (h : refsOkL f l = true) : renL id l = l := renL_id (f := f) (fun _ _ => rfl) l h
theorem ren_id' {f : Nat → Bool} {p : PV} (h : refsOk f p = true) : ren id p = p := ren_id (f := f) (fun _ _ => rfl) p h

theorem le_del (hle : Le Γ0 Γ) (hk0 : HK Γ0) (hkb : k < KB) (f : Blk → Blk) (hft : ∀ b, (f b).tot = b.tot) : Le Γ0 { Γ with bx := mapV f (del Γ.bx k) } where
  heap := hle.heap
  mutb b hb h := by
    obtain ⟨j, blk, h1, h2⟩ := h
    simp only [get_mapV, get_del] at h1
    split at h1
    · simp at h1
    · obtain ⟨b0, g1, _⟩ := Option.map_eq_some_iff.1 h1
      exact hle.mutb b hb ⟨j, b0, g1, h2⟩
  prot := hle.prot
  size := hle.size
  ref j blk hj := by
    obtain ⟨blk', h1, h2, h3⟩ := hle.ref j blk hj
    have := hk0 j blk hj
    have hne : j ≠ k := by omega
    exact ⟨f blk', by simp [get_mapV, get_del, hne, h1], by rw [hft]; exact h2, fun ht => h3 (by rw [← ht, hft])⟩

theorem frz_of (hm : Mem Γ) (hg : get Γ.bx k = some (.arr sz l0)) (hr : refsOkL (fun j => decide (j ≠ k)) l0 = true) : Frz Γ { Γ with bx := mapV (frzB k sz l0) (del Γ.bx k) } k sz l0 where
  heap := rfl
  own := (same_del hm _ frzB_tot).own
  ref j blk hj hb := by
    obtain ⟨b', h1, h2, h3⟩ := (same_del (k := k) hm _ (frzB_tot (k := k) (sz := sz) (l0 := l0))).ref j blk (by simpa using hj) hb
    exact ⟨b', h1, h2, h3⟩
  here blk hb := by rw [hg] at hb; exact (Option.some.inj hb).symm
  wd := (hm.blk k _ hg).1
  cells b hb := by
    have h := hm.blk k _ hg
    obtain ⟨h1, h2, h3⟩ := h
    rw [hb] at h3
    obtain ⟨c, e, cs, rest, h4, h5, h6⟩ := h3
    refine ⟨lt_of_get h4, ?_, c, e, cs, rest, h4, h5, ?_⟩
    · rintro (⟨j, blk, g1, g2⟩ | g)
      · simp only [get_mapV, get_del] at g1
        split at g1
        · simp at g1
        · rename_i hne
          obtain ⟨b0, g3, _⟩ := Option.map_eq_some_iff.1 g1
          exact hne (hm.inj j k b (by simp [g3]) (by simp [hg]) g2 hb)
      · exact hm.apart b ⟨k, _, hg, hb⟩ g
    · have := h6.ren (same_del (k := k) hm _ (frzB_tot (k := k) (sz := sz) (l0 := l0))) hr
      rwa [renL_id' hr] at this

theorem mem_del (hm : Mem Γ) (f : Blk → Blk) (hf : ∀ j blk, j ≠ k → get Γ.bx j = some blk → (f blk).Rep { Γ with bx := mapV f (del Γ.bx k) } (Γ.ι j)) : Mem { Γ with bx := mapV f (del Γ.bx k) } where
  blk j blk hb := by
    simp only [get_mapV, get_del] at hb
    split at hb
    · simp at hb
    · rename_i hne
      obtain ⟨b0, g1, rfl⟩ := Option.map_eq_some_iff.1 hb
      exact hf j b0 hne g1
  inj i j b hi hj h1 h2 := by
    have : ∀ x, (get (mapV f (del Γ.bx k)) x).isSome = true → (get Γ.bx x).isSome = true := by
      intro x hx
      simp only [get_mapV, get_del] at hx
      split at hx
      · simp at hx
      · simpa using hx
    exact hm.inj i j b (this i hi) (this j hj) h1 h2
  prot := hm.prot
  apart b h hp := by
    refine hm.apart b ?_ hp
    obtain ⟨j, blk, h1, h2⟩ := h
    simp only [get_mapV, get_del] at h1
    split at h1
    · simp at h1
    · obtain ⟨b0, g1, _⟩ := Option.map_eq_some_iff.1 h1
      exact ⟨j, b0, g1, h2⟩

/-- freeze the array 'k' -/
def fz1 (k : Nat) (s : St) (K : St → Prop) : Prop :=
  match get s.bx k with
  | some (.arr sz l) => (refsOkL (fun j => decide (j ≠ k)) l = true ∧ k < KB) ∧ K { env := mapV (frz k sz l) s.env, bx := mapV (frzB k sz l) (del s.bx k) }
  | _ => False

theorem fz1_sound {K : St → Prop} (hs : Sim nt s Γ a) (hle : Le Γ0 Γ) (hk0 : HK Γ0) (h : fz1 k s K) : Gives nt Γ0 Γ a K := by
  unfold fz1 at h
  split at h
  · rename_i sz l hg
    obtain ⟨⟨hr, hkb⟩, hK⟩ := h
    rw [← hs.bx] at hg
    have hf := frz_of hs.mem hg hr
    refine ⟨_, { Γ with bx := mapV (frzB k sz l) (del Γ.bx k) }, ⟨by simp [hs.bx], hs.size, hs.defers, fun j p hj => ?_, mem_del hs.mem _ (fun j blk hne hb => (hs.mem.blk j blk hb).frz hf)⟩, rfl, le_del hle hk0 hkb _ frzB_tot, hK⟩
    simp only [get_mapV] at hj
    obtain ⟨q, g1, rfl⟩ := Option.map_eq_some_iff.1 hj
    exact (hs.env j q g1).frz hf
  · exact h.elim

def refsEnv (f : Nat → Bool) : List (Nat × PV) → Bool
  | [] => true
  | (_, p) :: r => refsOk f p && refsEnv f r
def refsBx (f : Nat → Bool) : List (Nat × Blk) → Bool
  | [] => true
  | (_, b) :: r => refsOkB f b && refsBx f r
theorem refsEnv_get {f : Nat → Bool} : ∀ {l : List (Nat × PV)} {j : Nat} {p : PV}, refsEnv f l = true → get l j = some p → refsOk f p = true
  | [], _, _, _, h => by simp [get] at h
  | (i, q) :: r, j, p, hr, h => by
    simp only [refsEnv, Bool.and_eq_true] at hr
    simp only [get] at h
    split at h
    · cases h; exact hr.1
    · exact refsEnv_get hr.2 h
theorem refsBx_get {f : Nat → Bool} : ∀ {l : List (Nat × Blk)} {j : Nat} {p : Blk}, refsBx f l = true → get l j = some p → refsOkB f p = true
  | [], _, _, _, h => by simp [get] at h
  | (i, q) :: r, j, p, hr, h => by
    simp only [refsBx, Bool.and_eq_true] at hr
    simp only [get] at h
    split at h
    · cases h; exact hr.1
    · exact refsBx_get hr.2 h

theorem mapV_id {α : Type} : ∀ l : List (Nat × α), mapV id l = l
  | [] => rfl
  | (j, v) :: r => by simp [mapV, mapV_id r]

/-- drop the block 'k' -/
def dr1 (k : Nat) (s : St) (K : St → Prop) : Prop :=
  (refsEnv (fun j => decide (j ≠ k)) s.env = true ∧ refsBx (fun j => decide (j ≠ k)) (del s.bx k) = true ∧ k < KB) ∧ K { s with bx := del s.bx k }

theorem renB_id' {f : Nat → Bool} {b : Blk} (h : refsOkB f b = true) : renB id b = b := by
  cases b with
  | box v => simp only [renB, ren_id' (f := f) h]
  | arr sz l => simp only [renB, renL_id' (f := f) h]

theorem dr1_sound {K : St → Prop} (hs : Sim nt s Γ a) (hle : Le Γ0 Γ) (hk0 : HK Γ0) (h : dr1 k s K) : Gives nt Γ0 Γ a K := by
  obtain ⟨⟨h1, h2, h3⟩, hK⟩ := h
  have hsame := same_del (k := k) hs.mem id (fun _ => rfl)
  refine ⟨_, { Γ with bx := mapV id (del Γ.bx k) }, ⟨by simp [hs.bx, mapV_id], hs.size, hs.defers, fun j p hj => ?_, mem_del hs.mem _ (fun j blk hne hb => ?_)⟩, rfl, le_del hle hk0 h3 _ (fun _ => rfl), hK⟩
  · have hr := refsEnv_get h1 hj
    have := (hs.env j p hj).ren hsame hr
    rwa [ren_id' hr] at this
  · have hr : refsOkB (fun j => decide (j ≠ k)) blk = true := by
      refine refsBx_get (j := j) h2 ?_
      rw [get_del, if_neg hne, ← hs.bx]; exact hb
    have := (hs.mem.blk j blk hb).ren hsame hr
    rwa [renB_id' hr] at this

/-- forget slots -/
theorem keep_sound {K : St → Prop} {sl : List Nat} (hs : Sim nt s Γ a) (hle : Le Γ0 Γ) (h : K { s with env := keepL sl s.env }) : Gives nt Γ0 Γ a K :=
  ⟨{ s with env := keepL sl s.env }, Γ, ⟨hs.bx, hs.size, hs.defers, fun j p hj => hs.env j p (get_keepL sl _ _ hj), hs.mem⟩, rfl, hle, h⟩

/-- an empty slice whose capacity is none becomes a block of ours without memory -/
def vt1 (n k sz : Nat) (s : St) (K : St → Prop) : Prop :=
  match get s.env n with
  | some (.sl _ [] true) => (get s.bx k = none ∧ 0 < sz) ∧ K { env := put s.env n (.rs k [] 0 0 0 sz .tip), bx := put s.bx k (.arr sz []) }
  | _ => False

theorem vt1_sound {n : Nat} {K : St → Prop} (hs : Sim nt s Γ a) (hle : Le Γ0 Γ) (h : vt1 n k sz s K) : Gives nt Γ0 Γ a K := by
  unfold vt1 at h
  split at h
  · rename_i z hg
    obtain ⟨⟨hfree, hsz⟩, hK⟩ := h
    rw [← hs.bx] at hfree
    have hl := le_virt Γ (.arr sz []) hfree
    have hm := mem_virt hs.mem hfree (blk := .arr sz []) ⟨by simp, hsz, rfl⟩
    refine ⟨_, Γ.virt k (.arr sz []), ⟨by simp [Cx.virt, hs.bx], hs.size, hs.defers, fun j p hj => ?_, hm⟩, rfl, hle.trans hl, hK⟩
    simp only [get_put] at hj
    split at hj
    · rename_i hnj
      subst hnj
      simp only [Option.some.injEq] at hj; subst hj
      have h0 := hs.env n _ hg
      simp only [RepV] at h0 ⊢
      generalize a.tmps.getD n undef = v at h0
      cases h0 with
      | @sl _ _ cs _ _ _ ad rcap h1 h2 h3 h4 h5 h6 =>
        have hr0 : rcap = 0 := h4 rfl
        subst hr0
        refine .rs k [] 0 0 0 sz .tip _ (.arr sz []) ⟨by simp [Cx.virt, get_put_same], by simp [Blk.tot]⟩ rfl (fun _ => ⟨ad, 0, rfl, ?_⟩) .nil
        unfold RsOk
        simp [Cx.virt]
    · exact (hs.env j p hj).mono hl
  · exact h.elim

inductive Cut
  | fz (k : Nat)
  | dr (k : Nat)
  | keep (sl : List Nat)
  | vt (n k sz : Nat)
  | wk (n : Nat)

/-- forget the capacities in a slot -/
def wk1 (n : Nat) (s : St) (K : St → Prop) : Prop :=
  match get s.env n with
  | some p => K { s with env := put s.env n (wk p) }
  | none => False

theorem wk1_sound {n : Nat} {K : St → Prop} (hs : Sim nt s Γ a) (hle : Le Γ0 Γ) (h : wk1 n s K) : Gives nt Γ0 Γ a K := by
  unfold wk1 at h
  split at h
  · rename_i p hp
    refine ⟨{ s with env := put s.env n (Ab.wk p) }, Γ, ⟨hs.bx, hs.size, hs.defers, fun j q hj => ?_, hs.mem⟩, rfl, hle, h⟩
    simp only [get_put] at hj
    split at hj
    · rename_i hnj; subst hnj; cases hj; exact (hs.env _ p hp).wk
    · exact hs.env j q hj
  · exact h.elim

def cut1 : Cut → St → (St → Prop) → Prop
  | .fz k, s, K => fz1 k s K
  | .dr k, s, K => dr1 k s K
  | .keep sl, s, K => K { s with env := keepL sl s.env }
  | .vt n k sz, s, K => vt1 n k sz s K
  | .wk n, s, K => wk1 n s K

def cuts : List Cut → St → (St → Prop) → Prop
  | [], s, K => K s
  | c :: r, s, K => cut1 c s fun s' => cuts r s' K

theorem cuts_sound {K : St → Prop} (hk0 : HK Γ0) : ∀ (c : List Cut) {s : St} {Γ : Cx}, Sim nt s Γ a → Le Γ0 Γ → cuts c s K → Gives nt Γ0 Γ a K
  | [], s, Γ, hs, hle, h => ⟨s, Γ, hs, rfl, hle, h⟩
  | c :: r, s, Γ, hs, hle, h => by
    have : Gives nt Γ0 Γ a fun s' => cuts r s' K := by
      cases c with
      | fz k => exact fz1_sound hs hle hk0 h
      | dr k => exact dr1_sound hs hle hk0 h
      | keep sl => exact keep_sound hs hle h
      | vt n k sz => exact vt1_sound hs hle h
      | wk n => exact wk1_sound hs hle h
    obtain ⟨s', Γ', h1, h2, h3, h4⟩ := this
    obtain ⟨s2, Γ2, g1, g2, g3, g4⟩ := cuts_sound hk0 r h1 h3 h4
    exact ⟨s2, Γ2, g1, by rw [g2, h2], g3, g4⟩

end Go.Ab
/- Bodies of the abstract reading. No condition. -/
namespace Go.Ab
variable {P : Program} {nt : Nat} {s : St} {Γ Δ Γ0 : Cx} {a : Act} {w w0 : World}

inductive ACode
  | skip
  | region (l : List AO)
  | seq (x y : ACode)
  | cond (c : AX) (x y : ACode)
  | block (id : Nat) (x : ACode)
  | loop (x : ACode)
  | exit (id : Nat)
  | ret
  /-- 'seq', with an assertion between -/
  | seqm (x y : ACode)

def erase : ACode → ACode
  | .seq x y | .seqm x y => .seq (erase x) (erase y)
  | .cond c x y => .cond c (erase x) (erase y)
  | .block id x => .block id (erase x)
  | .loop x => .loop (erase x)
  | .skip => .skip
  | .region l => .region l
  | .exit id => .exit id
  | .ret => .ret

def trCode (P : Program) (nt : Nat) (own sp : List Nat) : Code → Option ACode
  | .skip => some .skip
  | .region _ ops false => match trOpers P nt ops own sp false ops.toList with | some l => some (.region l) | none => none
  | .region _ ops true => match trOpers P nt ops own sp true ops.toList with | some l => if okDraw ops l = true ∧ P.follows .mixedOrders = true then some (.region l) else none | none => none
  | .seq x y => match trCode P nt own sp x, trCode P nt own sp y with | some x, some y => some (.seq x y) | _, _ => none
  | .cond c x y => match trX c, trCode P nt own sp x, trCode P nt own sp y with | some c, some x, some y => some (.cond c x y) | _, _, _ => none
  | .block id x => match trCode P nt own sp x with | some x => some (.block id x) | none => none
  | .loop x => match trCode P nt own sp x with | some x => some (.loop x) | none => none
  | .exit id => some (.exit id)
  | .ret => some .ret
  | _ => none

def thn (Q : Exit → St → Prop) (K : St → Prop) : Exit → St → Prop
  | .normal, s => K s
  | e, s => Q e s
def inb (id : Nat) (Q : Exit → St → Prop) : Exit → St → Prop
  | .exit id', s => if id' = id then Q .normal s else Q (.exit id') s
  | e, s => Q e s

/-- the loop's law: what holds at its head, with a number that falls -/
def Lp (body : (Exit → St → Prop) → St → Prop) (Q : Exit → St → Prop) (s : St) : Prop :=
  ∃ (I : Nat → St → Prop) (c : List Cut), (cuts c s fun s' => ∃ n, I n s') ∧ ∀ n s, I n s → body (thn Q fun s' => ∃ c' : List Cut, cuts c' s' fun s' => ∃ m, m < n ∧ I m s') s

/-- an assertion between two parts -/
def Md (x y : (Exit → St → Prop) → St → Prop) (Q : Exit → St → Prop) (s : St) : Prop :=
  ∃ M : St → Prop, x (thn Q fun s' => ∃ c : List Cut, cuts c s' M) s ∧ ∀ s', M s' → y Q s'

def aw (P : Program) : ACode → (Exit → St → Prop) → St → Prop
  | .skip, Q, s => Q .normal s
  | .region l, Q, s => wpl P s l (Q .normal)
  | .seq x y, Q, s => aw P x (thn Q fun s' => aw P y Q s') s
  | .cond c x y, Q, s => match vx s c with
    | .bl b => (b = true → aw P x Q s) ∧ (b = false → aw P y Q s)
    | .gd g (.bl b) => g = true ∧ (b = true → aw P x Q s) ∧ (b = false → aw P y Q s)
    | _ => False
  | .block id x, Q, s => aw P x (inb id Q) s
  | .loop x, Q, s => Lp (fun Q s => aw P x Q s) Q s
  | .exit id, Q, s => Q (.exit id) s
  | .ret, Q, s => Q .ret s
  | .seqm x y, Q, s => Md (fun Q s => aw P x Q s) (fun Q s => aw P y Q s) Q s

def lift (nt : Nat) (Γ0 : Cx) (w0 : World) (Q : Exit → St → Prop) : Exit → Act → World → Prop :=
  fun e a w => ∃ s Γ, Sim nt s Γ a ∧ w.heap = Γ.heap ∧ Le Γ0 Γ ∧ WF w0 w ∧ Q e s

theorem lift_thn {Q : Exit → St → Prop} {K : St → Prop} {e : Exit} (h : lift nt Γ0 w0 (thn Q K) e a w) : Exit.then (lift nt Γ0 w0 (fun _ => K) .normal) (lift nt Γ0 w0 Q) e a w := by
  cases e <;> exact h
theorem lift_inb {Q : Exit → St → Prop} {id : Nat} {e : Exit} (h : lift nt Γ0 w0 (inb id Q) e a w) : Exit.inBlock id (lift nt Γ0 w0 Q) e a w := by
  cases e with
  | exit id' =>
    obtain ⟨s, Γ, h1, h2, h3, h4, h5⟩ := h
    simp only [Exit.inBlock, inb] at h5 ⊢
    split at h5
    · rename_i hid; rw [if_pos hid]; exact ⟨s, Γ, h1, h2, h3, h4, h5⟩
    · rename_i hid; rw [if_neg hid]; exact ⟨s, Γ, h1, h2, h3, h4, h5⟩
  | _ => exact h

/-- the least number at which a state is read -/
theorem least_exists {p : Nat → Prop} (h : ∃ n, p n) : ∃ n, p n ∧ ∀ m, m < n → ¬ p m := by
  obtain ⟨n, hn⟩ := h
  induction n using Nat.strongRecOn with
  | _ n ih =>
    by_cases hex : ∃ m, m < n ∧ p m
    · obtain ⟨m, hm, hp⟩ := hex; exact ih m hm hp
    · exact ⟨n, hn, fun m hm hp => hex ⟨m, hm, hp⟩⟩

noncomputable def least (p : Nat → Prop) : Nat := by
  classical exact if h : ∃ n, p n then Classical.choose (least_exists h) else 0
theorem least_spec {p : Nat → Prop} (h : ∃ n, p n) : p (least p) ∧ ∀ m, p m → least p ≤ m := by
  unfold least
  rw [dif_pos h]
  have := Classical.choose_spec (least_exists h)
  exact ⟨this.1, fun m hm => Nat.not_lt.1 fun hlt => this.2 m hlt hm⟩

theorem aw_sound (own sp : List Nat) (hk0 : HK Γ0) : ∀ (c : Code) {ac : ACode} {Q : Exit → St → Prop} {s : St} {Γ : Cx} {a : Act} {w : World}, trCode P nt own sp c = some (erase ac) → aw P ac Q s → Sim nt s Γ a → w.heap = Γ.heap → Le Γ0 Γ → WF w0 w →
    c.wp P (lift nt Γ0 w0 Q) a w := by
  have key : ∀ {Γ : Cx} {a : Act} {w : World} {K : St → Prop}, w.heap = Γ.heap → WF w0 w → Gives nt Γ0 Γ a K → ∃ s' Γ', Sim nt s' Γ' a ∧ w.heap = Γ'.heap ∧ Le Γ0 Γ' ∧ WF w0 w ∧ K s' := by
    intro Γ a w K b2 b4 hg
    obtain ⟨s', Γ', g1, g2, g3, g4⟩ := hg
    exact ⟨s', Γ', g1, by rw [g2]; exact b2, g3, b4, g4⟩
  intro c
  induction c with
  | skip =>
    intro ac Q s Γ a w ht h hs hw hle hwf
    simp only [trCode, Option.some.injEq] at ht
    cases ac <;> simp only [erase, reduceCtorEq] at ht
    exact wp_skip ⟨s, Γ, hs, hw, hle, hwf, h⟩
  | exit id =>
    intro ac Q s Γ a w ht h hs hw hle hwf
    simp only [trCode, Option.some.injEq] at ht
    cases ac <;> simp only [erase, reduceCtorEq, ACode.exit.injEq] at ht
    subst ht
    exact wp_exit ⟨s, Γ, hs, hw, hle, hwf, h⟩
  | ret =>
    intro ac Q s Γ a w ht h hs hw hle hwf
    simp only [trCode, Option.some.injEq] at ht
    cases ac <;> simp only [erase, reduceCtorEq] at ht
    exact wp_ret ⟨s, Γ, hs, hw, hle, hwf, h⟩
  | region id ops draw =>
    intro ac Q s Γ a w ht h hs hw hle hwf
    have hk : Nxt P nt Γ w (Q .normal) (lift nt Γ0 w0 Q .normal) := fun s' Γ' a' w' b1 b2 b3 b4 b5 => ⟨s', Γ', b1, b2, hle.trans b3, hwf.trans b4, b5⟩
    cases draw with
    | false =>
      simp only [trCode] at ht
      split at ht <;> simp only [Option.some.injEq, reduceCtorEq] at ht
      rename_i l hl
      cases ac <;> simp only [erase, reduceCtorEq, ACode.region.injEq] at ht
      subst ht
      exact region_sound hl hs hw h hk
    | true =>
      simp only [trCode] at ht
      split at ht
      · rename_i l hl
        split at ht <;> simp only [Option.some.injEq, reduceCtorEq] at ht
        rename_i hok
        cases ac <;> simp only [erase, reduceCtorEq, ACode.region.injEq] at ht
        subst ht
        exact region_draw_sound hok.2 hl hok.1 hs hw h hk
      · simp at ht
  | seq x y ihx ihy =>
    intro ac Q s Γ a w ht h hs hw hle hwf
    simp only [trCode] at ht
    split at ht <;> simp only [Option.some.injEq, reduceCtorEq] at ht
    rename_i ax ay hx hy
    cases ac <;> simp only [erase, reduceCtorEq, ACode.seq.injEq] at ht
    · obtain ⟨rfl, rfl⟩ := ht
      simp only [aw] at h
      refine wp_seq (wp_mono (ihx hx h hs hw hle hwf) fun e a' w' he => ?_)
      have := lift_thn he
      cases e with
      | normal =>
        obtain ⟨s', Γ', b1, b2, b3, b4, b5⟩ := this
        exact ihy hy b5 b1 b2 b3 b4
      | _ => exact this
    · obtain ⟨rfl, rfl⟩ := ht
      simp only [aw] at h
      obtain ⟨M, h1, h2⟩ := h
      refine wp_seq (wp_mono (ihx hx h1 hs hw hle hwf) fun e a' w' he => ?_)
      have := lift_thn he
      cases e with
      | normal =>
        obtain ⟨s', Γ', b1, b2, b3, b4, c, b5⟩ := this
        obtain ⟨s3, Γ3, d1, d2, d3, d4, d5⟩ := key (Γ := Γ') b2 b4 (cuts_sound hk0 c b1 b3 b5)
        exact ihy hy (h2 _ d5) d1 d2 d3 d4
      | _ => exact this
  | cond c x y ihx ihy =>
    intro ac Q s Γ a w ht h hs hw hle hwf
    simp only [trCode] at ht
    split at ht <;> simp only [Option.some.injEq, reduceCtorEq] at ht
    rename_i c' ax ay hc hx hy
    cases ac <;> simp only [erase, reduceCtorEq, ACode.cond.injEq] at ht
    obtain ⟨rfl, rfl, rfl⟩ := ht
    simp only [aw] at h
    have hr := vx_rep hc hs
    split at h
    · rename_i b hb
      rw [hb] at hr
      simp only [RepV] at hr
      have hcv : a.eval c = .bool b := by generalize a.eval c = v at hr; cases hr; rfl
      exact wp_cond_split hcv (fun hb => ihx hx (h.1 hb) hs hw hle hwf) (fun hb => ihy hy (h.2 hb) hs hw hle hwf)
    · rename_i g b hb
      rw [hb, RepV] at hr
      have hr := hr.1 h.1
      simp only [RepV] at hr
      have hcv : a.eval c = .bool b := by generalize a.eval c = v at hr; cases hr; rfl
      exact wp_cond_split hcv (fun hb => ihx hx (h.2.1 hb) hs hw hle hwf) (fun hb => ihy hy (h.2.2 hb) hs hw hle hwf)
    · exact h.elim
  | block id x ih =>
    intro ac Q s Γ a w ht h hs hw hle hwf
    simp only [trCode] at ht
    split at ht <;> simp only [Option.some.injEq, reduceCtorEq] at ht
    rename_i ax hx
    cases ac <;> simp only [erase, reduceCtorEq, ACode.block.injEq] at ht
    obtain ⟨rfl, rfl⟩ := ht
    simp only [aw] at h
    exact wp_block (wp_mono (ih hx h hs hw hle hwf) fun e a' w' he => lift_inb he)
  | loop x ih =>
    intro ac Q s Γ a w ht h hs hw hle hwf
    simp only [trCode] at ht
    split at ht <;> simp only [Option.some.injEq, reduceCtorEq] at ht
    rename_i ax hx
    cases ac <;> simp only [erase, reduceCtorEq, ACode.loop.injEq] at ht
    subst ht
    simp only [aw] at h
    obtain ⟨I, cs, h0, hr⟩ := h
    let J : Act → World → Nat → Prop := fun a w n => ∃ s Γ, Sim nt s Γ a ∧ w.heap = Γ.heap ∧ Le Γ0 Γ ∧ WF w0 w ∧ I n s
    refine wp_loop (fun a w => ∃ n, J a w n) (fun a w => least (J a w)) ?_ ?_
    · obtain ⟨s', Γ', b1, b2, b3, b4, n, b5⟩ := key (Γ := Γ) hw hwf (cuts_sound hk0 cs hs hle h0)
      exact ⟨n, s', Γ', b1, b2, b3, b4, b5⟩
    · intro a1 w1 hJ
      obtain ⟨⟨s1, Γ1, b1, b2, b3, b4, b5⟩, hmin⟩ := least_spec hJ
      refine wp_mono (ih hx (hr _ _ b5) b1 b2 b3 b4) fun e a' w' he => ?_
      have := lift_thn he
      cases e with
      | normal =>
        obtain ⟨s2, Γ2, c1, c2, c3, c4, cs', c5⟩ := this
        obtain ⟨s3, Γ3, d1, d2, d3, d4, m, hlt, d5⟩ := key (Γ := Γ2) c2 c4 (cuts_sound hk0 cs' c1 c3 c5)
        have hJm : J a' w' m := ⟨s3, Γ3, d1, d2, d3, d4, d5⟩
        exact ⟨⟨m, hJm⟩, Nat.lt_of_le_of_lt ((least_spec ⟨m, hJm⟩).2 m hJm) hlt⟩
      | _ => exact this
  | _ => intro ac Q s Γ a w ht; simp [trCode] at ht

end Go.Ab
/- A function's promise from its body. No condition. -/
namespace Go.Ab
variable {P : Program} {nt : Nat} {s : St} {Γ Δ Γ0 : Cx} {a : Act} {w w0 : World}

def trRes (P : Program) : ResultVar → Option AK
  | .tmp t => some (.mv (.t t))
  | .cell t ty => match aggOf P ty, szOf P ty with | some g, some n => some (.load g n (.t t)) | _, _ => none

/-- n times the same; 'simp' does not write it out -/
def zr (n : Nat) (p : PV) : List PV := List.replicate n p

structure AFun where
  nt : Nat
  res : List AK
  code : ACode

def AFun.er (f : AFun) : AFun := ⟨f.nt, f.res, erase f.code⟩

/-- a function, read -/
def trFun (P : Program) (own sp : List Nat) (f : FuncId) : Option AFun :=
  match P.funcs[f]? with
  | some fn => if (fn.name == "runtime.NumGoroutine") = false then (match fn.body with
    | some c => match trCode P fn.ntmps own sp c, allM (trRes P) fn.results.toList with
      | some ac, some rs => some ⟨fn.ntmps, rs, ac⟩
      | _, _ => none
    | none => none) else none
  | none => none

def evs (s : St) : List AK → (List PV → Prop) → Prop
  | [], K => K []
  | k :: r, K => ev true s k fun p => evs s r fun ps => K (p :: ps)

def tupOf : List PV → PV
  | [p] => p
  | ps => .tup ps

def PV.flat : PV → Bool
  | .gd _ _ | .tup _ => false
  | _ => true

def fpKeys (n : Nat) : List Nat := (List.range n).map (KB + ·)

/-- what a function hands back: its results, and the blocks 'ks' -/
def RetK (n : Nat) (res : List AK) (R : PV → List Blk → Prop) (s : St) : Prop :=
  ∃ (c : List Cut) (ks : List Nat), cuts c s fun s' => evs s' res fun ps => ∃ blks, (getAll s'.bx ks = some blks ∧ ks.Nodup ∧ ks.take n = fpKeys n) ∧
    (ps.all PV.flat = true ∧ refsOk (inKs ks) (tupOf ps) = true ∧ blks.all (refsOkB (inKs ks)) = true) ∧ R (ren (ren1 ks) (tupOf ps)) (blks.map (renB (ren1 ks)))

def ends (n : Nat) (res : List AK) (R : PV → List Blk → Prop) : Exit → St → Prop
  | .ret, s | .normal, s => RetK n res R s
  | _, _ => False

def argEnv : Nat → List PV → List (Nat × PV)
  | _, [] => []
  | i, p :: r => (i, p) :: argEnv (i + 1) r

theorem get_argEnv : ∀ (l : List PV) (i k : Nat), get (argEnv i l) k = if i ≤ k then l[k - i]? else none
  | [], i, k => by simp [argEnv, get]
  | p :: l, i, k => by
    simp only [argEnv, get, get_argEnv l (i + 1) k]
    by_cases h : i = k
    · subst h; simp
    · rw [if_neg h]
      by_cases h2 : i ≤ k
      · rw [if_pos (by omega), if_pos h2, show k - i = (k - (i + 1)) + 1 by omega, List.getElem?_cons_succ]
      · rw [if_neg (by omega), if_neg h2]

theorem AllR.at : ∀ {l : List PV} {vs : List Value} {i : Nat} {p : PV}, AllR Γ l vs → l[i]? = some p → ∃ v, vs[i]? = some v ∧ RepV Γ p v
  | [], _, _, _, _, h => by simp at h
  | p :: l, [], _, _, h, _ => by simp [AllR] at h
  | p :: l, v :: vs, 0, q, h, hi => by simp at hi; subst hi; exact ⟨v, rfl, h.1⟩
  | p :: l, v :: vs, i + 1, q, h, hi => by simp at hi; simpa using AllR.at h.2 hi
theorem AllR.length : ∀ {l : List PV} {vs : List Value}, AllR Γ l vs → vs.length = l.length
  | [], [], _ => rfl
  | [], _ :: _, h => by simp [AllR] at h
  | _ :: _, [], h => by simp [AllR] at h
  | _ :: _, _ :: _, h => by simp [AllR.length h.2]

/-- what is handed back, under its new names -/
def Cx.out (Γ : Cx) (ks : List Nat) (blks : List Blk) : Cx :=
  { heap := Γ.heap, ι := fun k => if KB ≤ k then (match ks[k - KB]? with | some j => Γ.ι j | none => none) else none,
    bx := fpBx 0 (blks.map (renB (ren1 ks))), prot := Γ.prot }

theorem Cx.out_mutb {ks : List Nat} {blks : List Blk} (hg : getAll Γ.bx ks = some blks) {b : Nat} : (Γ.out ks blks).mutb b ↔ ∃ (i : Nat) (k : Nat), ks[i]? = some k ∧ Γ.ι k = some b := Cx.call_mutb (Γ := Γ) hg

theorem Cx.out_same {ks : List Nat} {blks : List Blk} (hg : getAll Γ.bx ks = some blks) : Same (inKs ks) (ren1 ks) Γ (Γ.out ks blks) where
  heap := rfl
  own b hb hn := by
    rintro (h | h)
    · obtain ⟨i, k, h1, h2⟩ := (Cx.out_mutb hg).1 h
      obtain ⟨_, hget⟩ := getAll_get hg
      obtain ⟨b', g1, _⟩ := hget _ _ h1
      exact hn (.inl ⟨k, b', g1, h2⟩)
    · exact hn (.inr h)
  ref := (Cx.call_same hg).ref

theorem Cx.out_mem (hm : Mem Γ) {ks : List Nat} {blks : List Blk} (hg : getAll Γ.bx ks = some blks) (hn : ks.Nodup) (hok : blks.all (refsOkB (inKs ks)) = true) : Mem (Γ.out ks blks) where
  blk k blk hk := by
    obtain ⟨hl, hget⟩ := getAll_get hg
    simp only [Cx.out, get_fpBx] at hk
    split at hk
    · rename_i hle
      rw [List.getElem?_map, Option.map_eq_some_iff] at hk
      obtain ⟨b0, hb0, rfl⟩ := hk
      have hi := (List.getElem?_eq_some_iff.1 hb0).1
      obtain ⟨j, hj⟩ : ∃ j, ks[k - KB]? = some j := ⟨_, List.getElem?_eq_getElem (by omega)⟩
      obtain ⟨b1, g1, g2⟩ := hget _ _ hj
      simp only [Nat.sub_zero] at hb0
      rw [hb0] at g2; cases g2
      have := (hm.blk j b0 g1).ren (Cx.out_same hg) (List.all_eq_true.1 hok b0 (List.mem_of_getElem? hb0))
      have e : (Γ.out ks blks).ι k = Γ.ι j := by simp only [Cx.out]; rw [if_pos (by omega), hj]
      rw [e]; exact this
    · simp at hk
  inj := (Cx.call_mem hm hg hn hok).inj
  prot := hm.prot
  apart b h hp := by
    obtain ⟨i, k, h1, h2⟩ := (Cx.out_mutb hg).1 h
    obtain ⟨_, hget⟩ := getAll_get hg
    obtain ⟨b', g1, _⟩ := hget _ _ h1
    exact hm.apart b ⟨k, b', g1, h2⟩ hp

theorem Cx.out_le {ks : List Nat} {blks fp : List Blk} (hle : Le Γ0 Γ) (h0 : Γ0.bx = fpBx 0 fp) (hg : getAll Γ.bx ks = some blks) (hks : ks.take fp.length = fpKeys fp.length) : Le Γ0 (Γ.out ks blks) where
  heap := hle.heap
  mutb b hb h := by
    obtain ⟨i, k, h1, h2⟩ := (Cx.out_mutb hg).1 h
    obtain ⟨_, hget⟩ := getAll_get hg
    obtain ⟨b', g1, _⟩ := hget _ _ h1
    exact hle.mutb b hb ⟨k, b', g1, h2⟩
  prot := hle.prot
  size := hle.size
  ref k blk hk := by
    obtain ⟨blk', h1, h2, h3⟩ := hle.ref k blk hk
    rw [h0, get_fpBx] at hk
    split at hk
    · rename_i hkb
      have hi := (List.getElem?_eq_some_iff.1 hk).1
      have e : ks[k - KB]? = some k := by
        have : (ks.take fp.length)[k - KB]? = some k := by
          rw [hks, fpKeys, List.getElem?_map, List.getElem?_range (by omega)]
          simp; omega
        rw [List.getElem?_take] at this
        split at this
        · exact this
        · simp at this
      obtain ⟨hl, hget⟩ := getAll_get hg
      obtain ⟨b1, g1, g2⟩ := hget _ _ e
      rw [h1] at g1; cases g1
      refine ⟨renB (ren1 ks) blk', ?_, by rw [renB_tot]; exact h2, fun ht => ?_⟩
      · simp only [Cx.out, get_fpBx]
        rw [if_pos (by omega), List.getElem?_map, show k - KB - 0 = k - KB by omega, g2]; rfl
      · rw [renB_tot] at ht
        obtain ⟨h4, h5⟩ := h3 ht
        exact ⟨by simp only [Cx.out]; rw [if_pos (by omega), e]; exact h4, h5⟩
    · simp at hk

theorem run_asAddr {t : TypeId} {v r : Value} (h : (Instr.loadAt t v).run P w = .ok r w) : ((do loadVar t (← asAddr v)) : Sem Value).run P w = .ok r w := by
  unfold Instr.loadAt at h
  cases v <;> first
    | (rename_i ad; cases ad <;> first | exact h | (simp [Instr.sureAddr, stuck] at h))
    | (simp [Instr.sureAddr, stuck] at h)

theorem RepV.flat1 {p : PV} {v : Value} (h : RepV Γ p v) (hf : p.flat = true) : RepV1 Γ p v := by
  cases p <;> simp [PV.flat] at hf <;> first | exact h | (simp [RepV1])

/-- one result -/
def resOf (tmps : Array Value) : ResultVar → Sem Value
  | .tmp t => pure (tmps.getD t undef)
  | .cell a t => do loadVar t (← asAddr (tmps.getD a undef))

theorem evs_run (hs : Sim nt s Γ a) (hw : w.heap = Γ.heap) : ∀ {rs : List ResultVar} {ks : List AK} {K : List PV → Prop}, allM (trRes P) rs = some ks → evs s ks K →
    ∃ ps vs, K ps ∧ (rs.mapM (resOf a.tmps)).run P w = .ok vs w ∧ AllR Γ ps vs
  | [], ks, K, h, he => by
    simp only [allM, Option.some.injEq] at h; subst h
    exact ⟨[], [], he, rfl, trivial⟩
  | r :: rs, ks, K, h, he => by
    simp only [allM] at h
    split at h
    · rename_i y l hy hl
      simp only [Option.some.injEq] at h; subst h
      simp only [evs] at he
      have h1 : ∃ p v, (evs s l fun ps => K (p :: ps)) ∧ (resOf a.tmps r).run P w = .ok v w ∧ RepV Γ p v := by
        cases r with
        | tmp t =>
          simp only [trRes, Option.some.injEq] at hy; subst hy
          simp only [ev] at he
          obtain ⟨p, hp, hr⟩ := vg_rep (x := .tmp t) rfl hs rfl he
          exact ⟨p, _, hp, rfl, hr⟩
        | cell t ty =>
          simp only [trRes] at hy
          split at hy <;> simp only [Option.some.injEq, reduceCtorEq] at hy
          rename_i g n hg hn; subst hy
          obtain ⟨p, v, hp, hrun, hr⟩ := snd_load (x := .tmp t) rfl hs hw rfl hg hn he
          exact ⟨p, v, hp, run_asAddr hrun, hr⟩
      obtain ⟨p, v, hp, hrun, hr⟩ := h1
      obtain ⟨ps, vs, hK, hrun2, hall⟩ := evs_run hs hw hl hp
      refine ⟨p :: ps, v :: vs, hK, ?_, hr, hall⟩
      rw [List.mapM_cons]
      simp only [Sem.run_bind, hrun, Result.andThen_ok, hrun2]
      rfl
    · simp at h

theorem allV_of : ∀ {ps : List PV} {vs : List Value}, AllR Γ ps vs → ps.all PV.flat = true → AllV Γ ps vs
  | [], [], _, _ => trivial
  | [], _ :: _, h, _ => by simp [AllR] at h
  | _ :: _, [], h, _ => by simp [AllR] at h
  | p :: ps, v :: vs, h, hf => by
    simp only [List.all_cons, Bool.and_eq_true] at hf
    exact ⟨h.1.flat1 hf.1, allV_of h.2 hf.2⟩

def retV : List Value → Value
  | [v] => v
  | vs => .tuple vs.toArray

theorem results_eq (fn : Func) (tmps : Array Value) {vs : List Value} (h : (fn.results.toList.mapM (resOf tmps)).run P w = .ok vs w) :
    (results fn tmps).run P w = .ok (retV vs) w := by
  have e : results fn tmps = (do
      let vs ← fn.results.mapM (resOf tmps)
      pure (if h : vs.size = 1 then vs[0] else .tuple vs)) := by
    unfold results
    congr 1
  have h2 : (fn.results.mapM (resOf tmps)).run P w = .ok vs.toArray w := by
    rw [Array.mapM_eq_mapM_toList, Sem.run_map, h]; rfl
  rw [e, Sem.run_bind, h2]
  simp only [Result.andThen_ok, Sem.run_pure]
  match vs with
  | [] => rfl
  | [v] => rfl
  | v :: u :: vs => rfl

theorem ret_sound {fn : Func} {rs : List AK} {fp : List Blk} {R : PV → List Blk → Prop} (hr : allM (trRes P) fn.results.toList = some rs) (h0 : Γ0.bx = fpBx 0 fp) (hk0 : HK Γ0) (hs : Sim nt s Γ a) (hw : w.heap = Γ.heap) (hle : Le Γ0 Γ) (h : RetK fp.length rs R s) :
    ∃ v r fp' Γ', (results fn a.tmps).run P w = .ok v w ∧ R r fp' ∧ w.heap = Γ'.heap ∧ Mem Γ' ∧ Γ'.bx = fpBx 0 fp' ∧ RepV Γ' r v ∧ Le Γ0 Γ' := by
  obtain ⟨c, ks, h⟩ := h
  obtain ⟨s', Γ1, hs1, hh, hle1, h⟩ := cuts_sound hk0 c hs hle h
  have hw1 : w.heap = Γ1.heap := by rw [hh]; exact hw
  obtain ⟨ps, vs, h, hrun, hall⟩ := evs_run hs1 hw1 hr h
  obtain ⟨blks, ⟨hg, hn, hks⟩, ⟨hf, hro, hbo⟩, hR⟩ := h
  rw [← hs1.bx] at hg
  have hsame := Cx.out_same hg
  refine ⟨_, _, _, Γ1.out ks blks, results_eq fn a.tmps hrun, hR, hw1, Cx.out_mem hs1.mem hg hn hbo, rfl, ?_, Cx.out_le hle1 h0 hg hks⟩
  have hv : RepV Γ1 (tupOf ps) (retV vs) := by
    have hl := hall.length
    match ps, vs, hall, hl with
    | [], [], _, _ => exact ⟨[], rfl, trivial⟩
    | [p], [v], hall, _ => exact hall.1
    | p :: q :: ps, v :: u :: vs, hall, _ => exact ⟨_, rfl, allV_of hall hf⟩
  exact hv.ren hsame hro

theorem ACalls.intro {f : FuncId} {A : AFun} {own sp : List Nat} {args : List PV} {fp : List Blk} {R : PV → List Blk → Prop} (ht : trFun P own sp f = some A.er) (hl : args.length ≤ A.nt)
    (h : aw P A.code (ends fp.length A.res R) ⟨argEnv 0 args, fpBx 0 fp⟩) : ACalls P f args fp R := by
  unfold trFun at ht
  split at ht
  case h_2 => simp at ht
  rename_i fn hfn
  split at ht
  case isFalse => simp at ht
  rename_i hname
  split at ht
  case h_2 => simp at ht
  rename_i c hb
  split at ht
  case h_2 => simp at ht
  rename_i ac rs hac hrs
  simp only [Option.some.injEq, AFun.er, AFun.mk.injEq] at ht
  obtain ⟨hnt, hres, hcode⟩ := ht
  subst hres hcode
  refine ⟨fun vs w => ?_, fun Γ w vs hw hm hbx hall => ?_⟩
  · unfold callFunc
    simp only [Sem.run_bind, run_program, Result.andThen_ok, hfn, hname, Bool.false_eq_true, if_false, hb, Option.isNone_some, Sem.run_pure]
  · have hlen := hall.length
    have hk0 : HK Γ := by
      intro k blk hk
      rw [hbx, get_fpBx] at hk
      split at hk
      · omega
      · simp at hk
    refine calls_of_wp hfn hb (wp_mono (aw_sound own sp hk0 c hac h (Γ := Γ) (a := { tmps := vs.toArray ++ Array.replicate (fn.ntmps - vs.toArray.size) undef, defers := [] }) ⟨hbx, ?_, rfl, ?_, hm⟩ hw (Le.refl Γ) (WF.refl w)) ?_)
    · simp; omega
    · intro k p hk
      rw [get_argEnv] at hk
      simp only [Nat.zero_le, if_true, Nat.sub_zero] at hk
      obtain ⟨v, hv, hr⟩ := hall.at hk
      have hlt := (List.getElem?_eq_some_iff.1 hv).1
      have e : (vs.toArray ++ Array.replicate (fn.ntmps - vs.toArray.size) undef).getD k undef = v := by
        rw [Array.getD_eq_getD_getElem?, Array.getElem?_append_left (by simpa using hlt)]
        simp [hv]
      simp only
      rw [e]; exact hr
    · rintro e a' w' ⟨s', Γ', hs', hw', hle', hwf', he⟩
      cases e with
      | ret =>
        obtain ⟨v, r, fp', Γ2, h1, h2, h3⟩ := ret_sound hrs hbx hk0 hs' hw' hle' he
        exact ⟨hs'.defers, v, h1, v, r, fp', Γ2, rfl, h2, h3.1, h3.2.1, h3.2.2.1, h3.2.2.2.1, h3.2.2.2.2, hwf'⟩
      | normal =>
        obtain ⟨v, r, fp', Γ2, h1, h2, h3⟩ := ret_sound hrs hbx hk0 hs' hw' hle' he
        exact ⟨hs'.defers, v, h1, v, r, fp', Γ2, rfl, h2, h3.1, h3.2.1, h3.2.2.1, h3.2.2.2.1, h3.2.2.2.2, hwf'⟩
      | _ => exact he.elim

end Go.Ab
