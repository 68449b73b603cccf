/- Regions, loops and bodies do what their abstract reading says. No condition. -/
import Derived.Test.YtdfkcobijmbidaaGreatA3
set_option linter.all false
namespace Go.Ab
variable [Tabs]
variable {P : Program} {nt : Nat} {ds : List Deferred} {s : St} {Γ : Cx} {a : Act} {w : World} [YCtx]
structure AO where
  dst : Option Nat
  guard : Option (Nat × Bool)
  mg : Bool
  k : AK
def isEx : AK → Bool
  | .alloc _ | .box _ | .buildSlice .. | .makeSlice .. | .store .. | .append .. | .copy .. | .fill .. | .isNil .. | .convB .. | .mkMap .. | .mapGet .. | .mapSet .. => true
  | _ => false
def callW (P : Program) (s : St) (d : Option Nat) (f : AX) (args : List AX) (K : St → Prop) : Prop :=
  vg true s f fun pf => vgs true s args fun ps => match pf with
    | .fn (.func fid) first cap => ∃ ks os, CallK P s d fid (first ++ ps ++ cap) ks os K
    | .fn (.yield l) [] [] => YCallK s d l ps K
    | _ => False
def callQ (P : Program) (s : St) (d : Option Nat) (f : AX) (args : List AX) (K : St → Prop) : Prop :=
  vg true s f fun pf => vgs true s args fun ps => match pf with
    | .fn (.func fid) first cap => ∃ v, (refsOkL (fun _ => false) (first ++ ps ++ cap) = true ∧ refsOk (fun _ => false) v = true) ∧
        ACalls P fid (first ++ ps ++ cap) [] (fun r fp => r = v ∧ fp = []) ∧ K (s.put d v)
    | _ => False
def do1 (P : Program) (s : St) (o : AO) (K : St → Prop) : Prop :=
  match o.k with
  | .call f args => callW P s o.dst f args K
  | .callq f args => callQ P s o.dst f args K
  | k => if isEx k = true then ex s o.dst k K else ev true s k fun p => K (s.put o.dst p)
def wpo (P : Program) (s : St) (o : AO) (K : St → Prop) : Prop :=
  match o.guard with
  | none => do1 P s o K
  | some (sl, want) => match (get s.env sl).getD .un with
    | .bl b => if o.mg = true then ev (b == want) s o.k (fun p => K (s.put o.dst (.gd (b == want) p)))
        else (b = want → do1 P s o K) ∧ (b ≠ want → K (s.put o.dst .un))
    | .gd g (.bl b) => if o.mg = true then ev (g && b == want) s o.k (fun p => K (s.put o.dst (.gd (g && b == want) p)))
        else (g = true → b = want → do1 P s o K) ∧ ((g = true → b ≠ want) → K (s.put o.dst .un))
    | _ => False
def mergeable : AK → Bool
  | .mv _ | .pick .. | .load .. | .nilCheck _ | .un .. | .convI .. | .convS _ | .fieldA .. | .s2a .. | .field .. | .extract .. | .len _ | .lenS _ | .lenC _ | .mm .. => true
  | .bin op _ _ _ => match op with | .quo | .rem | .shl | .shr => false | _ => true
  | _ => false
def trGuard (ops : Array Oper) : Option (Nat × Bool) → Option (Option (Nat × Bool))
  | none => some none
  | some (j, want) => match (ops[j]?).bind (·.dst) with | some d => some (some (d, want)) | none => none
def dstOk (nt : Nat) (d : Option Nat) (k : AK) : Bool :=
  match d, k with
  | some _, .store .. => false
  | some d, _ => decide (d < nt)
  | none, _ => true
def fixK (P : Program) (draw : Bool) (ty : TypeId) : AK → AK
  | .call f args => if draw = true then .callq f args else .call f args
  | .mv (.c (.sl 0 [] true)) => (match P.underlying ty with
    | some (.slice e) => .mv (.c (.sl (P.cellsOf e) [] true))
    | _ => .mv (.c (.sl 0 [] true)))
  | k => k
def ownD (own : List Nat) : Option Nat → Bool
  | some d => own.contains d
  | none => true
noncomputable def trOper (P : Program) (nt : Nat) (ops : Array Oper) (own sp : List Nat) (draw : Bool) (o : Oper) : Option AO :=
  match trK P (match o.dst with | some d => own.contains d | none => false) o.op, trGuard ops o.guard with
  | some k, some g => if dstOk nt o.dst k = true then some ⟨o.dst, g, mergeable k && !(match o.dst with | some d => sp.contains d | none => false), fixK P (draw && !ownD own o.dst) o.type k⟩ else none
  | _, _ => none
theorem trK_nodefer {own : Bool} {op : Op} {k : AK} (h : trK P own op = some k) (c : Call) : op ≠ .defer c := by
  rintro rfl; simp [trK] at h
theorem Oper.wp_of_stepd {ro : Option Nat} {o : Oper} {own : Bool} {k : AK} (hk0 : trK P own o.op = some k) {K : St → Prop} {Kr : Act → World → Prop} {Q : Exit → Act → World → Prop} (h : Stepd P nt ds o a w Γ K)
    (hk : ∀ s' Γ' a' w', Sim nt ds s' Γ' a' → w'.heap = Γ'.heap → Le Γ Γ' → WF w w' → K s' → Kr a' w') : o.wpIn (FW ro) 0 P a w Kr Q := by
  obtain ⟨nx, v, w', s', Γ', hrun, hnx, hs, hh, hle, hwf, hK⟩ := h
  refine ⟨fun _ _ => trivial, ?_⟩
  rw [Oper.semAt_eq _ _ _ (trK_nodefer hk0), hrun]
  rcases hnx with rfl | ⟨rfl, rfl⟩
  · exact hk _ _ _ _ hs hh hle hwf hK
  · exact hk _ _ _ _ hs hh hle hwf hK
theorem stepd_ex {o : Oper} {k : AK} {own : Bool} {K : St → Prop} (hk : trK P own o.op = some k) (hs : Sim nt ds s Γ a) (hw : w.heap = Γ.heap) (hd : dstOk nt o.dst k = true) (he : ex s o.dst k K) : Stepd P nt ds o a w Γ K := by
  have hd' : (∀ x y z, k ≠ .store x y z) → ∀ j, o.dst = some j → j < nt := by
    intro hne j hj
    rw [hj] at hd
    unfold dstOk at hd
    split at hd
    · exact absurd rfl (hne _ _ _)
    · rename_i heq _; simp at heq; subst heq; simpa using hd
    · rename_i heq; simp at heq
  cases hop : o.op with
  | alloc t =>
    rw [hop] at hk; simp only [trK] at hk
    split at hk <;> simp only [Option.some.injEq, reduceCtorEq] at hk
    rename_i z hz; subst hk
    exact snd_alloc hop hz hs hw (hd' (by intros; simp)) he
  | box t x =>
    rw [hop] at hk; simp only [trK] at hk
    split at hk <;> simp only [Option.some.injEq, reduceCtorEq] at hk
    rename_i y hy; subst hk
    exact snd_box hop hy hs hw (hd' (by intros; simp)) he
  | buildSlice t n parts =>
    rw [hop] at hk; simp only [trK] at hk
    split at hk
    · rename_i e ps hu hp
      split at hk
      · rename_i z sz hz hsz
        split at hk <;> simp only [Option.some.injEq, reduceCtorEq] at hk
        rename_i hc; subst hk
        exact snd_buildSlice hop hu hp hz hsz hc.1 hc.2 hs hw (hd' (by intros; simp)) he
      · simp at hk
    · simp at hk
  | makeSlice t l c =>
    rw [hop] at hk; simp only [trK] at hk
    split at hk
    · rename_i e l' c' hu hl hc
      split at hk
      · rename_i z i hz hi
        split at hk <;> simp only [Option.some.injEq, reduceCtorEq] at hk
        rename_i hpos; subst hk
        exact snd_makeSlice hop hu hl hc hz hi hpos hs hw (hd' (by intros; simp)) he
      · simp at hk
    · simp at hk
  | store t x y =>
    rw [hop] at hk; simp only [trK] at hk
    split at hk <;> simp only [Option.some.injEq, reduceCtorEq] at hk
    rename_i n x' y' hn hx hy; subst hk
    refine snd_store hop hn hx hy hs hw ?_ he
    cases hdd : o.dst with
    | none => rfl
    | some d => rw [hdd] at hd; simp [dstOk] at hd
  | convert t e x =>
    rw [hop] at hk; simp only [trK] at hk
    split at hk
    · simp only [Option.some.injEq] at hk; subst hk; simp [ex] at he
    · split at hk <;> simp only [Option.some.injEq, reduceCtorEq] at hk
      subst hk; simp [ex] at he
    · rename_i e' y h1 h2 hx
      split at hk <;> simp only [Option.some.injEq, reduceCtorEq] at hk
      rename_i h3; subst hk
      exact snd_convB hop h1 h2 h3 hx hs hw (hd' (by intros; simp)) he
    · simp at hk
  | makeMap t r =>
    rw [hop] at hk
    cases r with
    | some r => simp [trK] at hk
    | none =>
      simp only [trK] at hk
      split at hk
      · rename_i k' e hu
        split at hk <;> simp only [Option.some.injEq, reduceCtorEq] at hk
        subst hk
        exact snd_mkMap hop hs hw (hd' (by intros; simp)) he
      · simp at hk
  | lookup t m x ok =>
    rw [hop] at hk; simp only [trK] at hk
    split at hk
    · rename_i k' e m' x' hu hm hx
      split at hk
      · rename_i ks vs z h1 h2 hz
        split at hk <;> simp only [Option.some.injEq, reduceCtorEq] at hk
        rename_i hf; subst hk
        exact snd_mapGet hop hu hm hx h1 hz hf hs hw (hd' (by intros; simp)) he
      · simp at hk
    · simp at hk
  | mapUpdate t m x y =>
    rw [hop] at hk; simp only [trK] at hk
    split at hk
    · rename_i k' e m' x' y' hu hm hx hy
      split at hk <;> simp only [Option.some.injEq, reduceCtorEq] at hk
      rename_i ks vs h1 h2; subst hk
      exact snd_mapSet hop hu hm hx hy h1 hs hw he
    · simp at hk
  | call c =>
    obtain ⟨callee, args, tys⟩ := c
    rw [hop] at hk
    cases callee with
    | value f =>
      simp only [trK] at hk
      split at hk <;> simp only [Option.some.injEq, reduceCtorEq] at hk
      subst hk; simp [ex] at he
    | invoke r m => simp [trK] at hk
    | builtin b =>
      simp only [trK] at hk
      obtain ⟨args⟩ := args
      obtain ⟨tys⟩ := tys
      simp only at hk
      cases b with
      | append =>
        match args, tys, hop, hk with
        | [x, y], [t, u], hop, hk =>
          unfold trBuiltin at hk
          simp only at hk
          split at hk
          · rename_i e d x' y' hu1 hu2 hx hy
            split at hk
            · rename_i i hi
              split at hk
              · rename_i z hz
                split at hk
                · rename_i hc
                  split at hk
                  · simp only [Option.some.injEq] at hk; subst hk
                    exact snd_append hop hu1 hu2 (.inl ⟨_, rfl⟩) hi hz hc.1 hc.2 hx hy hs hw (hd' (by intros; simp)) he
                  · split at hk <;> simp only [Option.some.injEq, reduceCtorEq] at hk
                    rename_i h1; subst hk
                    exact snd_append hop hu1 hu2 (.inr rfl) hi hz hc.1 hc.2 hx hy hs hw (hd' (by intros; simp)) he
                  · simp at hk
                · simp at hk
              · simp at hk
            · simp at hk
          · simp at hk
        | [], _, _, hk | [_], _, _, hk | _ :: _ :: _ :: _, _, _, hk | [_, _], [], _, hk | [_, _], [_], _, hk | [_, _], _ :: _ :: _ :: _, _, hk => simp [trBuiltin] at hk
      | clear =>
        match args, tys, hop, hk with
        | [x], [t], hop, hk =>
          unfold trBuiltin at hk
          simp only at hk
          split at hk
          · rename_i e x' hu1 hx
            split at hk
            · rename_i n z hn hz
              split at hk <;> simp only [Option.some.injEq, reduceCtorEq] at hk
              subst hk
              exact snd_fill hop hu1 hn hz hx hs hw he
            · simp at hk
          · simp at hk
        | [], _, _, hk | _ :: _ :: _, _, _, hk | [_], [], _, hk | [_], _ :: _ :: _, _, hk => simp [trBuiltin] at hk
      | copy =>
        match args, tys, hop, hk with
        | [x, y], [t, u], hop, hk =>
          unfold trBuiltin at hk
          simp only at hk
          split at hk
          · rename_i e x' y' hu1 hx hy
            split at hk <;> simp only [Option.some.injEq, reduceCtorEq] at hk
            rename_i n hn; subst hk
            exact snd_copy hop hu1 hn hx hy hs hw (hd' (by intros; simp)) he
          · simp at hk
        | [], _, _, hk | [_], _, _, hk | _ :: _ :: _ :: _, _, _, hk | [_, _], [], _, hk | [_, _], [_], _, hk | [_, _], _ :: _ :: _ :: _, _, hk => simp [trBuiltin] at hk
      | len =>
        exfalso
        unfold trBuiltin at hk
        repeat (split at hk <;> (try contradiction))
        all_goals first | (simp only [Option.some.injEq] at hk; subst hk; simp [ex] at he; done) | (simp at hk; done) | (split at hk <;> first | (simp only [Option.some.injEq] at hk; subst hk; simp [ex] at he; done) | (simp at hk; done))
      | min =>
        unfold trBuiltin at hk
        split at hk <;> (try contradiction)
        split at hk <;> simp only [Option.some.injEq, reduceCtorEq] at hk
        subst hk; simp [ex] at he
      | max =>
        unfold trBuiltin at hk
        split at hk <;> (try contradiction)
        split at hk <;> simp only [Option.some.injEq, reduceCtorEq] at hk
        subst hk; simp [ex] at he
      | _ => unfold trBuiltin at hk; split at hk <;> contradiction
  | binOp op t x y yt =>
    by_cases hn : ∃ ng p, k = .isNil ng p
    · obtain ⟨ng, p, rfl⟩ := hn
      rw [hop] at hk
      exact snd_isNil hop hk hs hw (hd' (by intros; simp)) he
    rw [hop] at hk; simp only [trK] at hk
    exfalso
    repeat (split at hk <;> (try contradiction))
    all_goals first | (simp only [Option.some.injEq] at hk; subst hk; simp [ex] at he; done) | (simp at hk; done) | (simp only [Option.some.injEq] at hk; exact hn ⟨_, _, hk.symm⟩) | (split at hk <;> first | (simp only [Option.some.injEq] at hk; subst hk; simp [ex] at he; done) | (simp at hk; done) | (simp only [Option.some.injEq] at hk; exact hn ⟨_, _, hk.symm⟩) | (split at hk <;> first | (simp only [Option.some.injEq] at hk; subst hk; simp [ex] at he; done) | (simp at hk; done) | (simp only [Option.some.injEq] at hk; exact hn ⟨_, _, hk.symm⟩) | (split at hk <;> first | (simp only [Option.some.injEq] at hk; subst hk; simp [ex] at he; done) | (simp at hk; done) | (simp only [Option.some.injEq] at hk; exact hn ⟨_, _, hk.symm⟩))))
  | _ =>
    exfalso
    rw [hop] at hk
    first
    | (simp only [trK, reduceCtorEq] at hk; done)
    | (simp only [trK] at hk
       repeat (split at hk <;> (try contradiction))
       all_goals first | (simp only [Option.some.injEq] at hk; subst hk; simp [ex] at he; done) | (simp at hk; done) | (split at hk <;> first | (simp only [Option.some.injEq] at hk; subst hk; simp [ex] at he; done) | (simp at hk; done) | (split at hk <;> first | (simp only [Option.some.injEq] at hk; subst hk; simp [ex] at he; done) | (simp at hk; done))))
end Go.Ab
namespace Go.Ab
variable [Tabs]
variable {P : Program} {nt : Nat} {ds : List Deferred} {s : St} {Γ : Cx} {a : Act} {w : World} [YCtx]
theorem RepL.toV {p : PV} {v : Value} (h : RepL Γ [p] [v]) (ha : p.isAgg = false) : RepV Γ p v := by
  cases p <;> simp [PV.isAgg] at ha <;> first | (simp only [RepV]; done) | (simp only [RepV]; exact h) | (exact absurd h (by intro h; cases h))
theorem allR_of_repL : ∀ {l : List PV} {vs : List Value}, RepL Γ l vs → (∀ x ∈ l, x.isAgg = false) → AllR Γ l vs
  | [], vs, h, _ => by cases h; trivial
  | p :: l, vs, h, hn => by
    obtain ⟨cs, us, rfl, h1, h2⟩ := h.uncons
    have hp := hn p (by simp)
    have hw : p.width = 1 := by cases p <;> simp [PV.isAgg] at hp <;> rfl
    have hl := h1.width1
    rw [hw] at hl
    obtain ⟨v, rfl⟩ := List.length_eq_one_iff.1 hl
    exact ⟨h1.toV hp, allR_of_repL h2 (fun x hx => hn x (by simp [hx]))⟩
theorem AllR.append : ∀ {l m : List PV} {vs us : List Value}, AllR Γ l vs → AllR Γ m us → AllR Γ (l ++ m) (vs ++ us)
  | [], m, [], us, _, h => h
  | p :: l, m, v :: vs, us, h, h' => ⟨h.1, AllR.append h.2 h'⟩
  | [], m, v :: vs, us, h, _ => by simp [AllR] at h
  | p :: l, m, [], us, h, _ => by simp [AllR] at h
theorem AllR.ren {f : Nat → Bool} {ρ : Nat → Nat} {Δ : Cx} (hs : Same f ρ Γ Δ) : ∀ {l : List PV} {vs : List Value}, AllR Γ l vs → refsOkL f l = true → AllR Δ (renL ρ l) vs
  | [], [], _, _ => trivial
  | p :: l, v :: vs, h, hf => by
    simp only [refsOkL, Bool.and_eq_true] at hf
    exact ⟨h.1.ren hs hf.1, AllR.ren hs h.2 hf.2⟩
  | [], v :: vs, h, _ => by simp [AllR] at h
  | p :: l, [], h, _ => by simp [AllR] at h
theorem allR_of_at : ∀ {ps : List PV} {xs : List Operand}, ps.length = xs.length → (∀ (i : Nat) p x, ps[i]? = some p → xs[i]? = some x → RepV Γ p (a.eval x)) → AllR Γ ps (xs.map a.eval)
  | [], [], _, _ => trivial
  | p :: ps, x :: xs, hl, h => ⟨h 0 p x rfl rfl, allR_of_at (by simpa using hl) (fun i q y h1 h2 => h (i + 1) q y h1 h2)⟩
  | [], _ :: _, hl, _ => by simp at hl
  | _ :: _, [], hl, _ => by simp at hl
def Nxt (P : Program) (nt : Nat) (ds : List Deferred) (Γ : Cx) (w : World) (K : St → Prop) (Kr : Act → World → Prop) : Prop :=
  ∀ s' Γ' a' w', Sim nt ds s' Γ' a' → w'.heap = Γ'.heap → Le Γ Γ' → WF w w' → K s' → Kr a' w'
theorem exec_call {o : Oper} {f : Operand} {args : Array Operand} {tys : Array TypeId} {fid : FuncId} {fs cs : Array Value} (ho : o.op = .call { callee := .value f, args, argTypes := tys }) (hf : a.eval f = .func (.func fid) fs cs) :
    execOp a.eval o = (do let d ← (Pure.pure { target := .fn (.func fid) cs, args := fs ++ args.map a.eval } : Sem Deferred); invoke d.target d.args) := by
  unfold execOp
  rw [ho]
  simp only [resolve, hf, Deferred.ofValue]
theorem call_value {o : Oper} {f : Operand} {args : Array Operand} {tys : Array TypeId} {fid : FuncId} {first cap ps : List PV} (ho : o.op = .call { callee := .value f, args, argTypes := tys })
    (hf : RepV Γ (.fn (.func fid) first cap) (a.eval f)) (hl : ps.length = args.toList.length) (hp : ∀ (i : Nat) p x, ps[i]? = some p → args.toList[i]? = some x → RepV Γ p (a.eval x)) :
    ∃ vs : List Value, AllR Γ (first ++ ps ++ cap) vs ∧ ∀ w r, (callFunc fid vs.toArray).run P w = r → (execOp a.eval o).run P w = r := by
  simp only [RepV] at hf
  generalize hv : a.eval f = v at hf
  cases hf with
  | @fn _ _ fs cs _ _ _ h1 h2 h3 h4 _ =>
    refine ⟨fs ++ args.toList.map a.eval ++ cs, ((allR_of_repL h1 h3).append (allR_of_at hl hp)).append (allR_of_repL h2 h4), fun w r hc => ?_⟩
    rw [exec_call ho hv]
    have e : (fs ++ args.toList.map a.eval ++ cs).toArray = (fs.toArray ++ args.map a.eval) ++ cs.toArray := by
      apply Array.ext'; simp
    rw [e] at hc
    exact hc
theorem ren2_fpKeys {n k : Nat} : ren2 (fpKeys n) k = k := by
  unfold ren2
  split
  · rename_i h
    cases hi : (fpKeys n)[k - KB]? with
    | none => rfl
    | some j => simp only [Option.getD_some]; have := (fpKeys_at.1 hi).2; omega
  · rfl
theorem FW_round {ro : Option Nat} {l : Nat} {f : FuncId} {tmps : Array Value} {as bo : Code} {R : Ending → World → Prop} (h : RoundIn (FW none) 0 P l f tmps as bo w R) : RoundIn (FW ro) 0 P l f tmps as bo w R := h
theorem callW_sound {o : Oper} {f : Operand} {args : Array Operand} {tys : Array TypeId} {f' : AX} {args' : List AX} {K : St → Prop} {Kr : Act → World → Prop} {Q : Exit → Act → World → Prop} {ro : Option Nat} (ho : o.op = .call { callee := .value f, args, argTypes := tys })
    (hf : trX f = some f') (hx : trXs args.toList = some args') (hs : Sim nt ds s Γ a) (hw : w.heap = Γ.heap) (hd : ∀ j, o.dst = some j → j < nt) (hY : YOk P Γ) (h : callW P s o.dst f' args' K) (hk : Nxt P nt ds Γ w K Kr) : o.wpIn (FW ro) 0 P a w Kr Q := by
  unfold callW at h
  obtain ⟨pf, h, hrf⟩ := vg_rep hf hs rfl h
  obtain ⟨ps, h, hl, hp⟩ := vgs_rep hs rfl hx h
  split at h
  case h_3 => exact h.elim
  case h_2 =>
    rename_i l _
    obtain ⟨blks, R, hg, hr1, hr2, hsp, hK⟩ := h
    obtain ⟨Γ0, rec, hle0, h0, hrec, hm0, hAY⟩ := hY l ps blks R hsp
    rw [← hs.bx] at hg
    have hev : a.eval f = .func (.yield l) #[] #[] := by
      simp only [RepV] at hrf
      generalize a.eval f = v at hrf
      cases hrf with
      | @fn _ _ fs cs _ _ _ h1 h2 h3 h4 _ => cases h1; cases h2; rfl
    have hrun : (execOp a.eval o).run P w = (Instr.yield l (args.toList.map a.eval).toArray).run P w := by
      have e : (args.toList.map a.eval).toArray = #[] ++ args.map a.eval := by apply Array.ext'; simp
      rw [e]
      unfold execOp
      rw [ho]
      simp only [resolve, hev, Deferred.ofValue]
      rfl
    have hsame := Cx.call_same hg
    have hA : AllR Γ ps (args.toList.map a.eval) := allR_of_at hl hp
    have hA' := hA.ren hsame (by rw [inKs_fpKeys]; exact hr1)
    rw [renL_same (fun _ => ren1_fpKeys)] at hA'
    have hl0 : Γ.heap[l]? = Γ0.heap[l]? := by rw [hle0.plain hm0 hrec rfl, hrec]
    obtain ⟨fn, tmps, as, bo, hy, hR⟩ := hAY (Γ.call (fpKeys YCtx.n) blks) w _ hw (Cx.call_mem hs.mem hg (fpKeys_nodup _) (by rw [inKs_fpKeys]; exact hr2)) (by simp only [Cx.call]; rw [renBs_same (fun _ => ren1_fpKeys)]) hA' (lec_call h0 hle0 hg) hl0
    refine ⟨fun _ _ => trivial, ?_⟩
    rw [Oper.semAt_eq _ _ _ (fun c => by rw [ho]; simp), hrun, hy, Oper.uponIn_round]
    refine ⟨fun h => by simp [FW, Fence.wide] at h, FW_round (hR.mono ?_)⟩
    rintro e w' ⟨fp, Γ', rfl, hR, hw', hm', hbx', hle, hwf⟩
    obtain ⟨⟨hlen, hfr⟩, hKK⟩ := hK fp hR
    have hlk : (fpKeys YCtx.n ++ []).length = YCtx.n := by simp [fpKeys]
    obtain ⟨same2, le2, mem2⟩ := back_facts hs.mem hg (os := []) (by simpa using fpKeys_nodup _) (by simp) hm' hbx' hle (by rw [hlen, hlk]) (by rw [hlen]; exact hfr)
    have hs' := hs.le le2 mem2 (bx' := putAll s.bx (fpKeys YCtx.n) fp) (by simp only [Cx.back, List.append_nil, hs.bx]; rw [renBs_same (fun _ => ren2_fpKeys)])
    exact hk _ _ _ _ (hs'.put hd (p := .bl true) (v := .bool true) (by simp only [RepV]; exact .bl _ .nil)) (by simp [Cx.back, hw']) le2 hwf hKK
  rename_i fid first cap
  obtain ⟨ks, os, blks, R, hg, hn, hos, hr1, hr2, hc, hK⟩ := h
  obtain ⟨vs, hA, hrun⟩ := call_value (P := P) ho hrf hl hp
  refine ⟨fun _ _ => trivial, ?_⟩
  rw [← hs.bx] at hg hos
  have hnk : ks.Nodup := (List.nodup_append.1 hn).1
  have hsame := Cx.call_same hg
  have key : ∀ e w', (∃ v r fp' Γ', e = Ending.returned v ∧ R r fp' ∧ w'.heap = Γ'.heap ∧ Mem Γ' ∧ Γ'.bx = fpBx 0 fp' ∧ RepV Γ' r v ∧ Le (Γ.call ks blks) Γ' ∧ WF w w') → ∃ v, e = .returned v ∧ Kr (a.put o.dst v) w' := by
    rintro e w' ⟨v, r, fp, Γ', rfl, hR, hw', hm', hbx', hrv, hle, hwf⟩
    obtain ⟨⟨hlen, hrr, hfr⟩, hKK⟩ := hK r fp hR
    obtain ⟨same2, le2, mem2⟩ := back_facts hs.mem hg hn hos hm' hbx' hle hlen hfr
    have hs' := hs.le le2 mem2 (bx' := putAll s.bx (ks ++ os) (fp.map (renB (ren2 (ks ++ os))))) (by simp [Cx.back, hs.bx])
    exact ⟨v, rfl, hk _ _ _ _ (hs'.put hd (hrv.ren same2 hrr)) (by simp [Cx.back, hw']) le2 hwf hKK⟩
  rcases hc (Γ.call ks blks) w vs hw (Cx.call_mem hs.mem hg hnk hr2) rfl (hA.ren hsame hr1) with ⟨hc1, hc2⟩ | ⟨v, w', hc1, hc2⟩
  · rw [Oper.semAt_eq _ _ _ (fun c => by rw [ho]; simp), hrun w _ hc1, Oper.uponIn_enter]
    refine ⟨fun h => by simp [FW, Fence.wide] at h, FW_calls ?_⟩
    refine hc2.mono fun e w' he => ?_
    obtain ⟨v, rfl, h⟩ := key e w' he
    exact h
  · rw [Oper.semAt_eq _ _ _ (fun c => by rw [ho]; simp), hrun w _ hc1]
    obtain ⟨u, hu, h⟩ := key _ w' hc2
    cases hu
    exact h
theorem refsOk_false_ren {ρ : Nat → Nat} {p : PV} (h : refsOk (fun _ => false) p = true) : ren ρ p = p := ren_id (f := fun _ => false) (by simp) p h
theorem refsOkL_false_ren {ρ : Nat → Nat} {l : List PV} (h : refsOkL (fun _ => false) l = true) : renL ρ l = l := renL_id (f := fun _ => false) (by simp) l h
mutual
theorem refsOk_weaken {f g : Nat → Bool} (h : ∀ k, f k = true → g k = true) : ∀ p, refsOk f p = true → refsOk g p = true
  | .st w l, hh => by simp only [refsOk] at *; exact refsOkL_weaken h l hh
  | .ar sz n l, hh => by simp only [refsOk] at *; exact refsOkL_weaken h l hh
  | .tup l, hh => by simp only [refsOk] at *; exact refsOkL_weaken h l hh
  | .sl sz l c, hh => by simp only [refsOk] at *; exact refsOkL_weaken h l hh
  | .fp sz l c, hh => by simp only [refsOk] at *; exact refsOkL_weaken h l hh
  | .fn f x y, hh => by simp only [refsOk, Bool.and_eq_true] at *; exact ⟨refsOkL_weaken h x hh.1, refsOkL_weaken h y hh.2⟩
  | .gd b p, hh => by simp only [refsOk] at *; exact refsOk_weaken h p hh
  | .ifc b p, hh => by simp only [refsOk] at *; exact refsOk_weaken h p hh
  | .rs .., hh => by simp only [refsOk] at *; exact h _ hh
  | .pt .., hh => by simp only [refsOk] at *; exact h _ hh
  | .un, _ | .bl _, _ | .int .., _ | .str _, _ | .np, _ | .nf, _ | .ni, _ | .mp .., _ => by simp [refsOk]
theorem refsOkL_weaken {f g : Nat → Bool} (h : ∀ k, f k = true → g k = true) : ∀ l, refsOkL f l = true → refsOkL g l = true
  | [], _ => by simp [refsOkL]
  | p :: l, hh => by simp only [refsOkL, Bool.and_eq_true] at *; exact ⟨refsOk_weaken h p hh.1, refsOkL_weaken h l hh.2⟩
end
theorem callW_of_callQ {d : Option Nat} {f : AX} {args : List AX} {K : St → Prop} (h : callQ P s d f args K) : callW P s d f args K := by
  unfold callQ at h
  unfold callW
  have hv : ∀ {g : Bool} {x : AX} {K K' : PV → Prop}, (∀ p, K p → K' p) → vg g s x K → vg g s x K' := by
    intro g x K K' hh hv
    unfold vg at *
    split at hv
    · exact ⟨hv.1, hh _ hv.2⟩
    · exact hh _ hv
  have hvs : ∀ {g : Bool} {xs : List AX} {K K' : List PV → Prop}, (∀ p, K p → K' p) → vgs g s xs K → vgs g s xs K' := by
    intro g xs
    induction xs with
    | nil => intro K K' hh hv; exact hh _ hv
    | cons x xs ih => intro K K' hh hq; exact hv (fun p hp => ih (fun q hq => hh _ hq) hp) hq
  refine hv (fun pf hq => hvs (fun ps hr => ?_) hq) h
  split at hr
  case h_2 => exact hr.elim
  rename_i fid first cap
  obtain ⟨v, ⟨h1, h2⟩, hc, hK⟩ := hr
  refine ⟨[], [], [], (fun r fp => r = v ∧ fp = []), rfl, by simp, by simp, refsOkL_weaken (by simp) _ h1, rfl, ?_, ?_⟩
  · rw [refsOkL_false_ren h1]; exact hc
  · rintro r fp ⟨rfl, rfl⟩
    refine ⟨⟨rfl, refsOk_weaken (by simp) _ h2, rfl⟩, ?_⟩
    rw [refsOk_false_ren h2]
    exact hK
end Go.Ab
namespace Go.Ab
variable [Tabs]
variable {P : Program} {nt : Nat} {ds : List Deferred} {s : St} {Γ : Cx} {a : Act} {w : World} [YCtx]
def Dt {α : Type} (C : (α → Prop) → Prop) : Prop := ∀ K, C K → ∃ p, K p ∧ ∀ K' : α → Prop, K' p → C K'
theorem Dt.ret {α : Type} (v : α) : Dt (fun K => K v) := fun _ h => ⟨v, h, fun _ h => h⟩
theorem Dt.no {α : Type} : Dt (fun _ : α → Prop => False) := fun _ h => h.elim
theorem Dt.bind {α β : Type} {C : (α → Prop) → Prop} {D : α → (β → Prop) → Prop} (hc : Dt C) (hd : ∀ p, Dt (D p)) : Dt (fun K => C (fun p => D p K)) := by
  intro K h
  obtain ⟨p, hp, hk⟩ := hc _ h
  obtain ⟨q, hq, hk2⟩ := hd p _ hp
  exact ⟨q, hq, fun K' h' => hk _ (hk2 _ h')⟩
theorem Dt.and {α : Type} {c : Prop} {C : (α → Prop) → Prop} (hc : Dt C) : Dt (fun K => c ∧ C K) := by
  intro K h
  obtain ⟨p, hp, hk⟩ := hc _ h.2
  exact ⟨p, hp, fun K' h' => ⟨h.1, hk _ h'⟩⟩
theorem dt_vg (g : Bool) (s : St) (x : AX) : Dt (vg g s x) := by
  unfold vg
  split
  · exact Dt.and (Dt.ret _)
  · exact Dt.ret _
theorem dt_vgs (g : Bool) (s : St) : ∀ xs, Dt (vgs g s xs)
  | [] => Dt.ret _
  | x :: xs => by
    show Dt fun K => vgs g s (x :: xs) K
    simp only [vgs]
    exact Dt.bind (dt_vg g s x) fun p => Dt.bind (dt_vgs g s xs) fun ps => Dt.ret _
theorem dt_vgp (g : Bool) (s : St) : ∀ xs, Dt (vgp g s xs)
  | [] => Dt.ret _
  | (i, x) :: xs => by
    show Dt fun K => vgp g s ((i, x) :: xs) K
    simp only [vgp]
    exact Dt.bind (dt_vg g s x) fun p => Dt.bind (dt_vgp g s xs) fun ps => Dt.ret _
theorem dt_intK (p : PV) : Dt (intK p) := by
  unfold intK; split
  · exact Dt.ret _
  · exact Dt.no
theorem dt_mmInt (mx : Bool) : ∀ l a, Dt (mmInt mx a l)
  | [], a => Dt.ret _
  | p :: r, a => by
    show Dt fun K => mmInt mx a (p :: r) K
    simp only [mmInt]
    exact Dt.bind (dt_intK p) fun b => dt_mmInt mx r _
theorem dt_binI (op : BinOp) (k : IntKind) (a b : Int) : Dt (binI op k a b) := by
  cases op <;> first | exact Dt.ret _ | exact Dt.and (Dt.ret _)
theorem dt_binS (op : BinOp) (a b : List UInt8) : Dt (binS op a b) := by
  cases op <;> first | exact Dt.ret _ | exact Dt.and (Dt.ret _) | exact Dt.no
theorem dt_binE (op : BinOp) (b : Bool) : Dt (binE op b) := by
  cases op <;> first | exact Dt.ret _ | exact Dt.no
theorem dt_binV (s : St) (op : BinOp) (eqs : ET) (p q : PV) : Dt (binV s op eqs p q) := by
  show Dt fun K => binV s op eqs p q K
  cases eqs <;> simp only [binV]
  case no => split <;> first | exact Dt.and (dt_binI _ _ _ _) | exact dt_binS _ _ _ | exact Dt.no
  case sh x => exact Dt.and (dt_binE _ _)
  case bl => split <;> first | exact dt_binE _ _ | exact Dt.no
  case ptr =>
    split
    · exact dt_binE _ _
    · split
      · exact Dt.and (dt_binE _ _)
      · exact Dt.no
    · exact dt_binE _ _
    · exact Dt.no
def Dt2 {α β : Type} (C : (α → β → Prop) → Prop) : Prop := ∀ K, C K → ∃ p q, K p q ∧ ∀ K' : α → β → Prop, K' p q → C K'
theorem Dt2.ret {α β : Type} (v : α) (u : β) : Dt2 (fun K => K v u) := fun _ h => ⟨v, u, h, fun _ h => h⟩
theorem Dt2.no {α β : Type} : Dt2 (fun _ : α → β → Prop => False) := fun _ h => h.elim
theorem Dt2.and {α β : Type} {c : Prop} {C : (α → β → Prop) → Prop} (hc : Dt2 C) : Dt2 (fun K => c ∧ C K) := by
  intro K h
  obtain ⟨p, q, hp, hk⟩ := hc _ h.2
  exact ⟨p, q, hp, fun K' h' => ⟨h.1, hk _ h'⟩⟩
theorem Dt2.of {α β γ : Type} {C : (α → Prop) → Prop} {D : α → (β → γ → Prop) → Prop} (hc : Dt C) (hd : ∀ p, Dt2 (D p)) : Dt2 (fun K => C (fun p => D p K)) := by
  intro K h
  obtain ⟨p, hp, hk⟩ := hc _ h
  obtain ⟨q, r, hq, hk2⟩ := hd p _ hp
  exact ⟨q, r, hq, fun K' h' => hk _ (hk2 _ h')⟩
theorem Dt.bind2 {α β γ : Type} {C : (α → β → Prop) → Prop} {D : α → β → (γ → Prop) → Prop} (hc : Dt2 C) (hd : ∀ p q, Dt (D p q)) : Dt (fun K => C (fun p q => D p q K)) := by
  intro K h
  obtain ⟨p, q, hp, hk⟩ := hc _ h
  obtain ⟨r, hq, hk2⟩ := hd p q _ hp
  exact ⟨r, hq, fun K' h' => hk _ (hk2 _ h')⟩
theorem dt_content (s : St) (p : PV) : Dt2 (content s p) := by
  show Dt2 fun K => content s p K
  cases p <;> simp only [content] <;> first
    | exact Dt2.ret _ _ | exact Dt2.no
    | (split <;> first | exact Dt2.and (Dt2.ret _ _) | exact Dt2.no | (split <;> first | exact Dt2.and (Dt2.ret _ _) | exact Dt2.no))
theorem dt_lohi (g : Bool) (s : St) (lo hi : Option AX) (len cap : Nat) : Dt2 (lohi g s lo hi len cap) := by
  unfold lohi
  refine Dt2.of (C := match hi with | none => fun (J : Nat → Prop) => J len | some x => fun J => vg g s x fun p => intK p fun h => (0 ≤ h ∧ h ≤ cap) ∧ J h.toNat) ?_ fun h => ?_
  · cases hi with
    | none => exact Dt.ret _
    | some x => exact Dt.bind (dt_vg g s x) fun p => Dt.bind (dt_intK p) fun h => Dt.and (Dt.ret _)
  · refine Dt2.of (C := match lo with | none => fun (J : Nat → Prop) => J 0 | some x => fun J => vg g s x fun p => intK p fun l => (0 ≤ l ∧ l ≤ h) ∧ J l.toNat) ?_ fun l => Dt2.ret _ _
    cases lo with
    | none => exact Dt.ret _
    | some x => exact Dt.bind (dt_vg g s x) fun p => Dt.bind (dt_intK p) fun h => Dt.and (Dt.ret _)
theorem dt_ev (g : Bool) (s : St) (k : AK) : Dt (ev g s k) := by
  have V := dt_vg g s
  have I := dt_intK
  show Dt fun K => ev g s k K
  cases k with
  | mv x => exact V x
  | pick c a b =>
    simp only [ev]
    refine Dt.bind (V c) fun p => ?_
    split
    · split <;> first | exact Dt.ret _ | exact Dt.and (Dt.ret _) | exact Dt.no
    · exact Dt.no
  | build z parts =>
    simp only [ev]
    refine Dt.bind (dt_vgp g s parts) fun p => ?_
    split <;> first | exact Dt.no | (split <;> first | exact Dt.ret _ | exact Dt.no)
  | load agg w x =>
    simp only [ev]
    refine Dt.bind (V x) fun p => ?_
    split
    · split
      · split <;> first | exact Dt.and (Dt.ret _) | exact Dt.no
      · exact Dt.no
    · split <;> first | exact Dt.and (Dt.ret _) | exact Dt.no
    · exact Dt.no
  | nilCheck x =>
    simp only [ev]
    refine Dt.bind (V x) fun p => ?_
    split
    · split <;> first | exact Dt.and (Dt.ret _) | exact Dt.no
    all_goals first | exact Dt.ret _ | exact Dt.no
  | bin op eqs x y => simp only [ev]; exact Dt.bind (V x) fun p => Dt.bind (V y) fun q => dt_binV _ _ _ _ _
  | un op x =>
    simp only [ev]
    refine Dt.bind (V x) fun p => ?_
    split <;> first | exact Dt.ret _ | exact Dt.no
  | convI k x => simp only [ev]; exact Dt.bind (V x) fun p => Dt.bind (I p) fun n => Dt.ret _
  | convS x =>
    simp only [ev]
    refine Dt.bind (V x) fun p => Dt.bind2 (dt_content s p) fun sz l => Dt.and ?_
    split <;> first | exact Dt.ret _ | exact Dt.no
  | mkFunc f first cap => simp only [ev]; exact Dt.bind (dt_vgs g s first) fun p => Dt.bind (dt_vgs g s cap) fun q => Dt.and (Dt.ret _)
  | slice k x lo hi mx =>
    cases k with
    | str =>
      simp only [ev]
      refine Dt.bind (V x) fun p => ?_
      split
      · exact Dt.and (Dt.bind2 (dt_lohi _ _ _ _ _ _) fun l h => Dt.ret _)
      · exact Dt.no
    | sl sz =>
      simp only [ev]
      refine Dt.bind (V x) fun p => ?_
      split
      · split
        · exact Dt.bind2 (dt_lohi _ _ _ _ _ _) fun l h => Dt.and (Dt.ret _)
        · exact Dt.bind (V _) fun q => Dt.bind (I q) fun m => Dt.and (Dt.bind2 (dt_lohi _ _ _ _ _ _) fun l h => Dt.and (Dt.ret _))
      · split
        · refine Dt.and ?_
          split
          · exact Dt.bind2 (dt_lohi _ _ _ _ _ _) fun l h => Dt.ret _
          · exact Dt.bind (V _) fun q => Dt.bind (I q) fun m => Dt.and (Dt.bind2 (dt_lohi _ _ _ _ _ _) fun l h => Dt.ret _)
        · exact Dt.no
      · exact Dt.no
    | ar n sz =>
      simp only [ev]
      refine Dt.bind (V x) fun p => ?_
      split
      · split
        · exact Dt.and (Dt.and (Dt.bind2 (dt_lohi _ _ _ _ _ _) fun l h => Dt.ret _))
        · exact Dt.no
      · split
        · exact Dt.and (Dt.bind2 (dt_lohi _ _ _ _ _ _) fun l h => Dt.ret _)
        · exact Dt.no
      · exact Dt.no
  | fieldA i off x =>
    simp only [ev]
    refine Dt.bind (V x) fun p => ?_
    split
    · split <;> first | exact Dt.and (Dt.ret _) | exact Dt.no
    all_goals first | exact Dt.ret _ | exact Dt.no
  | s2a n sz x =>
    simp only [ev]
    refine Dt.bind (V x) fun p => ?_
    split
    · exact Dt.and (Dt.ret _)
    · split <;> first | exact Dt.and (Dt.ret _) | exact Dt.no
    all_goals first | exact Dt.ret _ | exact Dt.no
  | field i off agg w x =>
    simp only [ev]
    refine Dt.bind (V x) fun p => ?_
    split
    · split <;> first | exact Dt.and (Dt.ret _) | exact Dt.no
    · exact Dt.no
  | indexA k x i =>
    cases k with
    | str => simp only [ev]; exact Dt.no
    | sl sz =>
      simp only [ev]
      refine Dt.bind (V x) fun p => Dt.bind (V i) fun q => Dt.bind (I q) fun j => ?_
      split
      · exact Dt.and (Dt.ret _)
      · split <;> first | exact Dt.and (Dt.ret _) | exact Dt.no
      · exact Dt.no
    | ar n sz =>
      simp only [ev]
      refine Dt.bind (V x) fun p => Dt.bind (V i) fun q => Dt.bind (I q) fun j => Dt.and ?_
      split
      · split <;> first | exact Dt.and (Dt.ret _) | exact Dt.no
      all_goals first | exact Dt.ret _ | exact Dt.no
  | index agg n w x i =>
    simp only [ev]
    refine Dt.bind (V x) fun p => Dt.bind (V i) fun q => Dt.bind (I q) fun j => ?_
    split
    · split <;> first | exact Dt.and (Dt.ret _) | exact Dt.no
    · exact Dt.no
  | indexS x i =>
    simp only [ev]
    refine Dt.bind (V x) fun p => Dt.bind (V i) fun q => Dt.bind (I q) fun j => ?_
    split
    · split <;> first | exact Dt.and (Dt.ret _) | exact Dt.no
    · exact Dt.no
  | extract i x =>
    simp only [ev]
    split
    · split <;> first | exact Dt.ret _ | exact Dt.no
    · exact Dt.no
  | len x =>
    simp only [ev]
    refine Dt.bind (V x) fun p => ?_
    split
    · exact Dt.ret _
    · split <;> first | exact Dt.and (Dt.ret _) | exact Dt.no
    · exact Dt.no
  | lenS x =>
    simp only [ev]
    refine Dt.bind (V x) fun p => ?_
    split <;> first | exact Dt.ret _ | exact Dt.no
  | lenC n => simp only [ev]; exact Dt.ret _
  | mm mx xs =>
    simp only [ev]
    refine Dt.bind (dt_vgs g s xs) fun ps => ?_
    split
    · exact Dt.bind (dt_mmInt _ _ _) fun n => Dt.ret _
    · exact Dt.no
  | _ => simp only [ev]; exact Dt.no
end Go.Ab
namespace Go.Ab
variable [Tabs]
variable {P : Program} {nt : Nat} {ds : List Deferred} {s s' : St} {Γ : Cx} {a : Act} {w : World} [YCtx]
def AX.reads : AX → List Nat
  | .t n => [n]
  | .c _ => []
def axs : List AX → List Nat
  | [] => []
  | x :: r => x.reads ++ axs r
def axo : Option AX → List Nat
  | none => []
  | some x => x.reads
def axp : List (Nat × AX) → List Nat
  | [] => []
  | (_, x) :: r => x.reads ++ axp r
def AK.reads : AK → List Nat
  | .mv x | .load _ _ x | .nilCheck x | .un _ x | .convI _ x | .convS x | .convB x | .fieldA _ _ x | .s2a _ _ x | .field _ _ _ _ x | .extract _ x | .len x | .lenS x | .box x => x.reads
  | .pick c a b => c.reads ++ a.reads ++ b.reads
  | .build _ parts | .buildSlice _ _ _ _ parts => axp parts
  | .bin _ _ x y | .indexA _ x y | .index _ _ _ x y | .indexS x y | .store _ x y | .append _ _ _ x y | .copy _ x y | .makeSlice _ _ _ x y => x.reads ++ y.reads
  | .mkFunc _ a b => axs a ++ axs b
  | .slice _ x lo hi mx => x.reads ++ (axo lo ++ (axo hi ++ axo mx))
  | .lenC _ | .alloc _ | .mkMap .. => []
  | .mapGet _ _ _ _ m x => m.reads ++ x.reads
  | .mapSet _ _ m x y => m.reads ++ (x.reads ++ y.reads)
  | .mm _ xs => axs xs
  | .call f args | .callq f args => f.reads ++ axs args
  | .isNil _ x | .fill _ _ x => x.reads
def Agree (s s' : St) (l : List Nat) : Prop := ∀ n ∈ l, get s'.env n = get s.env n
theorem Agree.left {l m : List Nat} (h : Agree s s' (l ++ m)) : Agree s s' l := fun n hn => h n (List.mem_append.2 (.inl hn))
theorem Agree.right {l m : List Nat} (h : Agree s s' (l ++ m)) : Agree s s' m := fun n hn => h n (List.mem_append.2 (.inr hn))
theorem vx_agree {x : AX} (h : Agree s s' x.reads) : vx s' x = vx s x := by
  cases x with
  | t n => simp only [vx]; rw [h n (by simp [AX.reads])]
  | c p => rfl
theorem vg_agree {g : Bool} {x : AX} (h : Agree s s' x.reads) : vg g s' x = vg g s x := by
  funext K; unfold vg; rw [vx_agree h]
theorem vgs_agree {g : Bool} : ∀ {xs : List AX}, Agree s s' (axs xs) → vgs g s' xs = vgs g s xs
  | [], _ => rfl
  | x :: xs, h => by
    funext K; simp only [vgs]; rw [vg_agree (x := x) h.left, vgs_agree (xs := xs) h.right]
theorem vgp_agree {g : Bool} : ∀ {xs : List (Nat × AX)}, Agree s s' (axp xs) → vgp g s' xs = vgp g s xs
  | [], _ => rfl
  | (i, x) :: xs, h => by
    funext K; simp only [vgp]; rw [vg_agree (x := x) h.left, vgp_agree (xs := xs) h.right]
theorem content_agree (hb : s'.bx = s.bx) (p : PV) : content s' p = content s p := by
  funext K; cases p <;> simp only [content, hb]
theorem binV_agree (hb : s'.bx = s.bx) (op : BinOp) (e : ET) (p q : PV) : binV s' op e p q = binV s op e p q := by
  funext K; unfold binV; rw [hb]
theorem lohi_agree {g : Bool} {lo hi : Option AX} (h1 : Agree s s' (axo lo)) (h2 : Agree s s' (axo hi)) (n c : Nat) : lohi g s' lo hi n c = lohi g s lo hi n c := by
  funext K
  cases lo <;> cases hi <;> simp only [lohi]
  · rw [vg_agree h2]
  · rw [vg_agree h1]
  · rw [vg_agree h2]; simp only [vg_agree h1]
theorem ev_agree {g : Bool} {k : AK} (hb : s'.bx = s.bx) (h : Agree s s' k.reads) : ev g s' k = ev g s k := by
  funext K
  cases k with
  | mv x => simp only [ev]; rw [vg_agree h]
  | pick c a b => simp only [ev]; rw [vg_agree h.left.left, vx_agree h.left.right, vx_agree h.right]
  | build z parts => simp only [ev]; rw [vgp_agree h]
  | load agg w x => simp only [ev]; rw [vg_agree h, hb]
  | nilCheck x => simp only [ev]; rw [vg_agree h, hb]
  | bin op e x y => simp only [ev]; rw [vg_agree h.left, vg_agree h.right]; simp only [binV_agree hb]
  | un op x => simp only [ev]; rw [vg_agree h]
  | convI k x => simp only [ev]; rw [vg_agree h]
  | convS x => simp only [ev]; rw [vg_agree h]; simp only [content_agree hb]
  | mkFunc f a b => simp only [ev]; rw [vgs_agree h.left, vgs_agree h.right]
  | slice k x lo hi mx =>
    have hx := vg_agree (g := g) h.left
    have hl := fun n c => lohi_agree (g := g) h.right.left h.right.right.left n c
    have hm := h.right.right.right
    cases k <;> cases mx <;> simp only [ev, hx, hl, hb]
    rw [vg_agree (x := _) hm]
  | fieldA i off x => simp only [ev]; rw [vg_agree h, hb]
  | s2a n sz x => simp only [ev]; rw [vg_agree h, hb]
  | field i off agg w x => simp only [ev]; rw [vg_agree h]
  | indexA k x i =>
    have hx := vg_agree (g := g) h.left
    have hi := vg_agree (g := g) h.right
    cases k <;> simp only [ev, hx, hi, hb]
  | index agg n w x i => simp only [ev]; rw [vg_agree h.left, vg_agree h.right]
  | indexS x i => simp only [ev]; rw [vg_agree h.left, vg_agree h.right]
  | extract i x => simp only [ev]; rw [vx_agree h]
  | len x => simp only [ev]; rw [vg_agree h, hb]
  | lenS x => simp only [ev]; rw [vg_agree h]
  | lenC n => rfl
  | mm mx xs => simp only [ev]; rw [vgs_agree h]
  | _ => rfl
def AO.quiet (o : AO) : Bool :=
  match o.k with
  | .call .. => false
  | .callq .. => true
  | .buildSlice own .. => !own
  | k => !isEx k
def AO.reads (o : AO) : List Nat := (match o.guard with | some (n, _) => [n] | none => []) ++ o.k.reads
theorem callQ_dt {d : Option Nat} {f : AX} {args : List AX} {K : St → Prop} (h : callQ P s d f args K) :
    ∃ v, K (s.put d v) ∧ ∀ s', s'.bx = s.bx → Agree s s' (AK.callq f args).reads → ∀ K' : St → Prop, K' (s'.put d v) → callQ P s' d f args K' := by
  unfold callQ at h
  obtain ⟨pf, h, h1⟩ := dt_vg _ _ _ _ h
  obtain ⟨ps, h, h2⟩ := dt_vgs _ _ _ _ h
  split at h
  case h_2 => exact h.elim
  rename_i fid first cap
  obtain ⟨v, hc1, hc2, hK⟩ := h
  refine ⟨v, hK, fun s' hb ha K' hK' => ?_⟩
  unfold callQ
  rw [vg_agree ha.left]
  refine h1 _ ?_
  rw [vgs_agree ha.right]
  exact h2 _ ⟨v, hc1, hc2, hK'⟩
theorem build_dt {d : Option Nat} {sz n : Nat} {z : PV} {parts : List (Nat × AX)} {K : St → Prop} (h : ex s d (.buildSlice false sz z n parts) K) :
    ∃ v, K (s.put d v) ∧ ∀ s', s'.bx = s.bx → Agree s s' (AK.buildSlice false sz z n parts).reads → ∀ K' : St → Prop, K' (s'.put d v) → ex s' d (.buildSlice false sz z n parts) K' := by
  simp only [ex] at h
  obtain ⟨ps, h, h1⟩ := dt_vgp _ _ _ _ h
  split at h
  case h_2 => exact h.elim
  rename_i l hl
  simp only [Bool.false_eq_true, if_false] at h
  refine ⟨_, h, fun s' hb ha K' hK' => ?_⟩
  simp only [ex]
  rw [vgp_agree ha]
  refine h1 _ ?_
  simp only [hl, Bool.false_eq_true, if_false]
  exact hK'
theorem do1_dt {o : AO} {K : St → Prop} (hq : o.quiet = true) (h : do1 P s o K) :
    ∃ v, K (s.put o.dst v) ∧ ∀ s', s'.bx = s.bx → Agree s s' o.k.reads → ∀ K' : St → Prop, K' (s'.put o.dst v) → do1 P s' o K' := by
  obtain ⟨dst, guard, mg, k⟩ := o
  cases k with
  | call f args => simp [AO.quiet] at hq
  | callq f args => exact callQ_dt h
  | buildSlice own sz z n parts =>
    simp only [AO.quiet, Bool.not_eq_true'] at hq
    subst hq
    simp only [do1, isEx, if_true] at h ⊢
    exact build_dt h
  | _ =>
    first
    | (simp [AO.quiet, isEx] at hq; done)
    | (simp only [do1, isEx, Bool.false_eq_true, if_false] at h ⊢
       obtain ⟨v, hK, hv⟩ := dt_ev _ _ _ _ h
       refine ⟨v, hK, fun s' hb ha K' hK' => ?_⟩
       rw [ev_agree hb ha]
       exact hv _ hK')
theorem wpo_dt {o : AO} {K : St → Prop} (hq : o.quiet = true) (h : wpo P s o K) :
    ∃ v, K (s.put o.dst v) ∧ ∀ s', s'.bx = s.bx → Agree s s' o.reads → ∀ K' : St → Prop, K' (s'.put o.dst v) → wpo P s' o K' := by
  unfold wpo at h
  cases hg : o.guard with
  | none =>
    rw [hg] at h
    obtain ⟨v, hK, hv⟩ := do1_dt hq h
    refine ⟨v, hK, fun s' hb ha K' hK' => ?_⟩
    unfold wpo; rw [hg]
    exact hv s' hb ha.right K' hK'
  | some gw =>
    obtain ⟨sl, want⟩ := gw
    rw [hg] at h
    simp only at h
    have hget : ∀ {s' : St}, Agree s s' o.reads → get s'.env sl = get s.env sl := fun ha => ha sl (by simp [AO.reads, hg])
    split at h
    · rename_i b hb
      split at h
      · rename_i hm
        obtain ⟨v, hK, hv⟩ := dt_ev _ _ _ _ h
        refine ⟨_, hK, fun s' hbx ha K' hK' => ?_⟩
        unfold wpo; rw [hg]; simp only [hget ha, hb, hm, if_true]
        rw [ev_agree hbx ha.right]
        exact hv _ hK'
      · rename_i hm
        by_cases hbw : b = want
        · obtain ⟨v, hK, hv⟩ := do1_dt hq (h.1 hbw)
          refine ⟨v, hK, fun s' hbx ha K' hK' => ?_⟩
          unfold wpo; rw [hg]; simp only [hget ha, hb, hm]
          exact ⟨fun _ => hv s' hbx ha.right K' hK', fun hn => absurd hbw hn⟩
        · refine ⟨.un, h.2 hbw, fun s' hbx ha K' hK' => ?_⟩
          unfold wpo; rw [hg]; simp only [hget ha, hb, hm]
          exact ⟨fun hn => absurd hn hbw, fun _ => hK'⟩
    · rename_i g b hb
      split at h
      · rename_i hm
        obtain ⟨v, hK, hv⟩ := dt_ev _ _ _ _ h
        refine ⟨_, hK, fun s' hbx ha K' hK' => ?_⟩
        unfold wpo; rw [hg]; simp only [hget ha, hb, hm, if_true]
        rw [ev_agree hbx ha.right]
        exact hv _ hK'
      · rename_i hm
        by_cases hbw : g = true ∧ b = want
        · obtain ⟨v, hK, hv⟩ := do1_dt hq (h.1 hbw.1 hbw.2)
          refine ⟨v, hK, fun s' hbx ha K' hK' => ?_⟩
          unfold wpo; rw [hg]; simp only [hget ha, hb, hm]
          exact ⟨fun _ _ => hv s' hbx ha.right K' hK', fun hn => absurd hbw.2 (hn hbw.1)⟩
        · refine ⟨.un, h.2 (fun h1 h2 => hbw ⟨h1, h2⟩), fun s' hbx ha K' hK' => ?_⟩
          unfold wpo; rw [hg]; simp only [hget ha, hb, hm]
          exact ⟨fun h1 h2 => absurd ⟨h1, h2⟩ hbw, fun _ => hK'⟩
    · exact h.elim
theorem put_comm {α : Type} {n m : Nat} (h : n ≠ m) (x y : α) : ∀ l : List (Nat × α), put (put l n x) m y = put (put l m y) n x
  | [] => by
    simp only [put]
    by_cases h1 : n < m
    · simp [h, Ne.symm h, show ¬ m < n by omega, h1, put]
    · simp [h, Ne.symm h, show m < n by omega, h1, put]
  | (k, v) :: r => by
    have ih := put_comm h x y r
    grind [put]
theorem St.put_comm {d e : Option Nat} (h : ∀ k, d = some k → e ≠ some k) (v u : PV) : (s.put d v).put e u = (s.put e u).put d v := by
  cases d with
  | none => rfl
  | some d =>
    cases e with
    | none => rfl
    | some e =>
      have : d ≠ e := fun hh => h d rfl (by rw [hh])
      simp only [St.put, Ab.put_comm this]
def AO.apart (x y : AO) : Bool :=
  (match x.dst with | some d => !y.reads.contains d && y.dst != some d | none => true) &&
  (match y.dst with | some d => !x.reads.contains d | none => true)
theorem Agree.put {d : Option Nat} {v : PV} {l : List Nat} (h : ∀ k, d = some k → k ∉ l) : Agree s (s.put d v) l := by
  intro n hn
  cases d with
  | none => rfl
  | some d =>
    have : d ≠ n := fun e => h d rfl (e ▸ hn)
    simp [St.put, get_put_ne _ _ _ _ this]
theorem Agree.put' {d : Option Nat} {v : PV} {l : List Nat} (h : ∀ k, d = some k → k ∉ l) : Agree (s.put d v) s l := fun n hn => ((Agree.put h) n hn).symm
theorem put_bx (d : Option Nat) (v : PV) : (s.put d v).bx = s.bx := by cases d <;> rfl
theorem wpo_swap {x y : AO} {K : St → Prop} (hx : x.quiet = true) (hy : y.quiet = true) (hap : x.apart y = true) (h : wpo P s x fun s1 => wpo P s1 y K) : wpo P s y fun s2 => wpo P s2 x K := by
  have h1 : ∀ d, x.dst = some d → d ∉ y.reads := fun d hd => by simp [AO.apart, hd] at hap; exact hap.1.1
  have h2 : ∀ d, x.dst = some d → y.dst ≠ some d := fun d hd => by simp [AO.apart, hd] at hap; exact hap.1.2
  have h3 : ∀ d, y.dst = some d → d ∉ x.reads := fun d hd => by simp [AO.apart, hd] at hap; exact hap.2
  obtain ⟨v, h, hv⟩ := wpo_dt hx h
  obtain ⟨u, h, hu⟩ := wpo_dt hy h
  refine hu s (put_bx _ _).symm (Agree.put' h1) _ ?_
  refine hv _ (put_bx _ _) (Agree.put h3) _ ?_
  rw [St.put_comm (fun k hk he => h2 k he hk)]
  exact h
end Go.Ab
namespace Go.Ab
variable [Tabs]
variable {P : Program} {nt : Nat} {ds : List Deferred} {s s' : St} {Γ : Cx} {a : Act} {w : World} [YCtx]
theorem step_guard {ro : Option Nat} {ops : Array Oper} {o : Oper} {i : Nat} {Q : Exit → Act → World → Prop} {K : Act → World → Prop} (hi : ops[i]? = some o) (h1 : Region.wanted o (yielded ops a.tmps) = true → o.wpIn (FW ro) 0 P a w K Q) (h2 : Region.wanted o (yielded ops a.tmps) = false → K (a.put o.dst undef) w) : wpOpIn (FW ro) 0 P ops Q i K a w := by
  unfold wpOpIn
  rw [hi]
  simp only
  cases h : Region.wanted o (yielded ops a.tmps) with
  | true => simp only [if_true]; exact h1 h
  | false => simp only [Bool.false_eq_true, if_false]; exact ⟨fun _ _ => trivial, h2 h⟩
theorem trBuiltin_notcall {b : Builtin} {xs : List Operand} {ts : List TypeId} {f : AX} {l : List AX} (h : trBuiltin P b xs ts = some (.call f l)) : False := by
  unfold trBuiltin at h
  split at h
  all_goals (repeat' (split at h))
  all_goals first | (simp at h; done) | contradiction
theorem trBuiltin_notcallq {b : Builtin} {xs : List Operand} {ts : List TypeId} {f : AX} {l : List AX} (h : trBuiltin P b xs ts = some (.callq f l)) : False := by
  unfold trBuiltin at h
  split at h
  all_goals (repeat' (split at h))
  all_goals first | (simp at h; done) | contradiction
theorem trK_notcallq {own : Bool} {op : Op} {f : AX} {l : List AX} (h : trK P own op = some (.callq f l)) : False := by
  unfold trK at h
  split at h
  all_goals first | (exact trBuiltin_notcallq h) | skip
  all_goals (repeat' (split at h))
  all_goals first | (simp at h; done) | contradiction
theorem RepV.slz {z z' : Nat} {v : Value} (h : RepV Γ (.sl z [] true) v) : RepV Γ (.sl z' [] true) v := by
  simp only [RepV] at h ⊢
  cases h with
  | sl _ _ _ ad rcap h1 h2 h3 h4 h5 h6 =>
    have := RepL.sl (Γ := Γ) z' [] true ad rcap .nil (by simp) h3 h4 (fun h => absurd rfl h) .nil
    exact this
theorem ev_fix {o : Oper} {k : AK} {own draw : Bool} {ty : TypeId} {K : PV → Prop} (hk : trK P own o.op = some k) (hs : Sim nt ds s Γ a) (hw : w.heap = Γ.heap) (he : ev true s (fixK P draw ty k) K) :
    ∃ p v, K p ∧ (execOp a.eval o).run P w = .ok (.value v) w ∧ RepV Γ p v := by
  unfold fixK at he
  split at he
  · split at he <;> simp [ev] at he
  · split at he
    · rename_i e _
      obtain ⟨p, v, rfl, hrun, hr⟩ := ev_sound (K := fun p => p = .sl 0 [] true) hk hs hw rfl (by simp [ev, vg, vx])
      simp only [ev, vg, vx] at he
      exact ⟨_, v, he, hrun, hr.slz⟩
    · exact ev_sound hk hs hw rfl he
  · exact ev_sound hk hs hw rfl he
theorem isEx_fix {draw : Bool} {ty : TypeId} {k : AK} : isEx (fixK P draw ty k) = isEx k := by
  unfold fixK
  split
  · split <;> rfl
  · split <;> rfl
  · rfl
theorem fix_ex {draw : Bool} {ty : TypeId} {k : AK} (h : isEx k = true) : fixK P draw ty k = k := by
  unfold fixK
  split
  · simp [isEx] at h
  · simp [isEx] at h
  · rfl
theorem do1_sound {ro : Option Nat} {o : Oper} {ao : AO} {ops : Array Oper} {own sp : List Nat} {draw : Bool} {K : St → Prop} {Kr : Act → World → Prop} {Q : Exit → Act → World → Prop} (ht : trOper P nt ops own sp draw o = some ao) (hs : Sim nt ds s Γ a) (hw : w.heap = Γ.heap)
    (hY : YOk P Γ) (h : do1 P s ao K) (hk : Nxt P nt ds Γ w K Kr) : o.wpIn (FW ro) 0 P a w Kr Q := by
  unfold trOper at ht
  generalize (draw && !ownD own o.dst) = dr at ht
  split at ht
  case h_2 => simp at ht
  rename_i k g hk1 hg
  split at ht
  case isFalse => simp at ht
  rename_i hd
  simp only [Option.some.injEq] at ht
  by_cases hc : ∃ f args, k = .call f args
  · obtain ⟨f, args, rfl⟩ := hc
    have h' : callW P s o.dst f args K := by
      rw [← ht] at h
      cases dr with
      | true => simp only [fixK, if_true, do1] at h; exact callW_of_callQ h
      | false => simp only [fixK, Bool.false_eq_true, if_false, do1] at h; exact h
    have hd' : ∀ j, o.dst = some j → j < nt := by
      intro j hj; rw [hj] at hd; simpa [dstOk] using hd
    -- the operation is a call
    obtain ⟨f0, args0, tys0, ho, hf0, ha0⟩ : ∃ f0 args0 tys0, o.op = .call { callee := .value f0, args := args0, argTypes := tys0 } ∧ trX f0 = some f ∧ trXs args0.toList = some args := by
      cases hop : o.op with
      | call c =>
        obtain ⟨callee, args0, tys⟩ := c
        rw [hop] at hk1
        cases callee with
        | value f0 =>
          simp only [trK] at hk1
          split at hk1 <;> simp only [Option.some.injEq, reduceCtorEq, AK.call.injEq] at hk1
          rename_i g0 l0 e1 e2
          exact ⟨f0, args0, tys, rfl, by rw [e1, hk1.1], by rw [e2, hk1.2]⟩
        | invoke r m => simp [trK] at hk1
        | builtin b =>
          exfalso
          simp only [trK] at hk1
          exact trBuiltin_notcall hk1
      | binOp op t x y yt =>
        exfalso
        rw [hop] at hk1; simp only [trK] at hk1
        repeat (split at hk1 <;> (try contradiction))
        all_goals first | (simp at hk1; done) | (split at hk1 <;> first | (simp at hk1; done) | (split at hk1 <;> first | (simp at hk1; done) | (split at hk1 <;> first | (simp at hk1; done) | (split at hk1 <;> simp at hk1))))
      | _ =>
        exfalso
        rw [hop] at hk1
        first
        | (simp only [trK, reduceCtorEq] at hk1; done)
        | (simp only [trK] at hk1
           repeat (split at hk1 <;> (try contradiction))
           all_goals first | (simp at hk1; done) | (split at hk1 <;> first | (simp at hk1; done) | (split at hk1 <;> first | (simp at hk1; done) | (split at hk1 <;> simp at hk1))))
    exact callW_sound ho hf0 ha0 hs hw hd' hY h' hk
  · by_cases hx : isEx k = true
    · have e : do1 P s ao K = ex s o.dst k K := by
        rw [← ht]
        unfold do1
        rw [fix_ex hx]
        split
        · rename_i heq; exact absurd ⟨_, _, heq⟩ hc
        · rename_i heq; simp only at heq; rw [heq] at hx; simp [isEx] at hx
        · rw [if_pos hx]
      rw [e] at h
      exact Oper.wp_of_stepd hk1 (stepd_ex hk1 hs hw hd h) hk
    · have e : do1 P s ao K → ev true s (fixK P dr o.type k) fun p => K (s.put o.dst p) := by
        rw [← ht]
        unfold do1
        intro h
        simp only at h
        split at h
        · rename_i heq
          exfalso
          unfold fixK at heq
          split at heq
          · exact absurd ⟨_, _, rfl⟩ hc
          · split at heq <;> simp at heq
          · exact absurd ⟨_, _, heq⟩ hc
        · rename_i heq
          exfalso
          unfold fixK at heq
          split at heq
          · exact absurd ⟨_, _, rfl⟩ hc
          · split at heq <;> simp at heq
          · rw [heq] at hk1
            exact trK_notcallq hk1
        · rw [if_neg (by rw [isEx_fix]; exact hx)] at h
          exact h
      have he := e h
      obtain ⟨p, v, hK, hrun, hr⟩ := ev_fix hk1 hs hw he
      refine Oper.wp_of_stepd hk1 (step_quiet hs (fun j hj => ?_) (Le.refl Γ) hs.mem rfl hrun hw (WF.refl w) hr hK) hk
      rw [hj] at hd
      unfold dstOk at hd
      split at hd
      · rename_i heq; simp [isEx] at hx
      · rename_i heq _; simp at heq; subst heq; simpa using hd
      · rename_i heq; simp at heq
theorem repV_undef_un : RepV Γ .un undef := by simp [RepV]
theorem trGuard_some {ops : Array Oper} {j sl : Nat} {want want' : Bool} (h : trGuard ops (some (j, want)) = some (some (sl, want'))) : (ops[j]?).bind (·.dst) = some sl ∧ want' = want := by
  unfold trGuard at h
  simp only at h
  split at h <;> simp at h
  rename_i d hd
  obtain ⟨rfl, rfl⟩ := h
  exact ⟨hd, rfl⟩
theorem wpo_sound {ro : Option Nat} {ops : Array Oper} {i : Nat} {o : Oper} {ao : AO} {own sp : List Nat} {draw : Bool} {K : St → Prop} {Kr : Act → World → Prop} {Q : Exit → Act → World → Prop} (hi : ops[i]? = some o) (ht : trOper P nt ops own sp draw o = some ao) (hs : Sim nt ds s Γ a) (hw : w.heap = Γ.heap)
    (hY : YOk P Γ) (h : wpo P s ao K) (hk : Nxt P nt ds Γ w K Kr) : wpOpIn (FW ro) 0 P ops Q i Kr a w := by
  have ht0 := ht
  unfold trOper at ht
  generalize (draw && !ownD own o.dst) = dr at ht
  split at ht
  case h_2 => simp at ht
  rename_i k g hk1 hg
  split at ht
  case isFalse => simp at ht
  rename_i hd
  simp only [Option.some.injEq] at ht
  have hkd : ao.k = fixK P dr o.type k := by rw [← ht]
  have hdd : ao.dst = o.dst := by rw [← ht]
  have hgd : ao.guard = g := by rw [← ht]
  have hmg : ao.mg = true → mergeable k = true := by
    rw [← ht]; intro hm
    simp only [Bool.and_eq_true] at hm
    exact hm.1
  have hput : ∀ {p : PV} {v : Value}, (∀ x y z, k ≠ .store x y z) → RepV Γ p v → K (s.put o.dst p) → Kr (a.put o.dst v) w := by
    intro p v hne hr hK
    refine hk _ _ _ _ (hs.put (fun j hj => ?_) hr) hw (Le.refl Γ) (WF.refl w) hK
    rw [hj] at hd
    unfold dstOk at hd
    split at hd
    · exact absurd rfl (hne _ _ _)
    · rename_i heq _; simp at heq; subst heq; simpa using hd
    · rename_i heq; simp at heq
  have hundef : K (s.put o.dst .un) → Kr (a.put o.dst undef) w := by
    intro hK
    refine hk _ _ _ _ (hs.put (fun j hj => ?_) repV_undef_un) hw (Le.refl Γ) (WF.refl w) hK
    rw [hj] at hd
    unfold dstOk at hd
    split at hd
    · simp at hd
    · rename_i heq _; simp at heq; subst heq; simpa using hd
    · rename_i heq; simp at heq
  unfold wpo at h
  cases hog : o.guard with
  | none =>
    rw [hog] at hg; simp only [trGuard, Option.some.injEq] at hg
    rw [hgd, ← hg] at h
    refine step_guard hi (fun _ => do1_sound ht0 hs hw hY h hk) (fun hn => ?_)
    simp [Region.wanted, hog] at hn
  | some jw =>
    obtain ⟨j, want0⟩ := jw
    rw [hog] at hg
    obtain ⟨sl, want, rfl⟩ : ∃ sl want, g = some (sl, want) := by
      unfold trGuard at hg; simp only at hg; split at hg <;> simp at hg
      exact ⟨_, _, hg.symm⟩
    obtain ⟨hdst, rfl⟩ := trGuard_some hg
    have hwant : Region.wanted o (yielded ops a.tmps) = (yielded ops a.tmps j == some want) := by unfold Region.wanted; rw [hog]
    have hy : ∀ v, a.tmps.getD sl undef = v → yielded ops a.tmps j = (match v with | .bool b => some b | _ => none) := by
      intro v hv
      unfold yielded
      rw [hdst]
      simp only [Option.bind_some]
      rw [Array.getD_eq_getD_getElem?] at hv
      cases ho : a.tmps[sl]? with
      | none => rw [ho] at hv; subst hv; rfl
      | some u => rw [ho] at hv; subst hv; cases u <;> rfl
    rw [hgd] at h
    simp only at h
    have hev : ∀ {gg : Bool}, ao.mg = true → ev gg s ao.k (fun p => K (s.put ao.dst (.gd gg p))) → (Region.wanted o (yielded ops a.tmps) = gg) → wpOpIn (FW ro) 0 P ops Q i Kr a w := by
      intro gg hm he hwg
      have hmm : mergeable k = true := hmg hm
      have hne : ∀ x y z, k ≠ .store x y z := by rintro x y z rfl; simp [mergeable] at hmm
      rw [hkd, hdd] at he
      refine step_guard hi (fun h1 => ?_) (fun h1 => ?_)
      · rw [hwg] at h1; subst h1
        obtain ⟨p, v, hK, hrun, hr⟩ := ev_fix hk1 hs hw he
        refine ⟨fun _ _ => trivial, ?_⟩
        rw [Oper.semAt_eq _ _ _ (trK_nodefer hk1), hrun]
        exact hput hne (p := .gd true p) (by rw [RepV]; exact ⟨fun _ => hr, by simp⟩) hK
      · rw [hwg] at h1; subst h1
        obtain ⟨p, hK, _⟩ := dt_ev _ _ _ _ he
        exact hput hne (p := .gd false p) (by rw [RepV]; exact ⟨by simp, fun _ => rfl⟩) hK
    split at h
    · rename_i b hb
      have hbv : a.tmps.getD sl undef = .bool b := by
        cases hgs : get s.env sl with
        | none => rw [hgs] at hb; simp at hb
        | some q =>
          rw [hgs] at hb; simp only [Option.getD_some] at hb; subst hb
          have := hs.env sl _ hgs
          simp only [RepV] at this
          generalize a.tmps.getD sl undef = v at this
          cases this; rfl
      have hyb : yielded ops a.tmps j = some b := by rw [hy _ hbv]
      split at h
      · rename_i hm
        exact hev hm h (by rw [hwant, hyb]; rfl)
      · refine step_guard hi (fun h1 => ?_) (fun h1 => ?_)
        · rw [hwant, hyb] at h1
          exact do1_sound ht0 hs hw hY (h.1 (by simpa using h1)) hk
        · rw [hwant, hyb] at h1
          exact hundef (by rw [← hdd]; exact h.2 (by simpa using h1))
    · rename_i gg b hb
      have hbv : (gg = true → a.tmps.getD sl undef = .bool b) ∧ (gg = false → a.tmps.getD sl undef = undef) := by
        cases hgs : get s.env sl with
        | none => rw [hgs] at hb; simp at hb
        | some q =>
          rw [hgs] at hb; simp only [Option.getD_some] at hb; subst hb
          have := hs.env sl _ hgs
          rw [RepV] at this
          refine ⟨fun hg => ?_, this.2⟩
          have := this.1 hg
          simp only [RepV] at this
          generalize a.tmps.getD sl undef = v at this
          cases this; rfl
      have hwg : Region.wanted o (yielded ops a.tmps) = (gg && b == want) := by
        rw [hwant]
        cases gg with
        | true => rw [hy _ (hbv.1 rfl)]; rfl
        | false => rw [hy _ (hbv.2 rfl)]; simp [undef]
      split at h
      · rename_i hm
        exact hev hm h hwg
      · refine step_guard hi (fun h1 => ?_) (fun h1 => ?_)
        · rw [hwg] at h1
          simp only [Bool.and_eq_true, beq_iff_eq] at h1
          exact do1_sound ht0 hs hw hY (h.1 h1.1 h1.2) hk
        · rw [hwg] at h1
          have h2 := h.2 (fun hg hbw => by rw [hg, hbw] at h1; simp at h1)
          exact hundef (by rw [← hdd]; exact h2)
    · exact h.elim
end Go.Ab
namespace Go.Ab
variable [Tabs]
variable {P : Program} {nt : Nat} {ds : List Deferred} {s s' : St} [YCtx]
def AK.free : AK → Bool
  | .mv _ | .pick .. | .build .. | .un .. | .convI .. | .mkFunc .. | .field .. | .index .. | .indexS .. | .extract .. | .lenS _ | .lenC _ | .mm .. => true
  | _ => false
def AO.free (o : AO) : Bool := o.k.free
def AO.isStore (o : AO) : Bool := o.dst.isNone && (match o.k with | .store .. => true | _ => false)
theorem ev_free {g : Bool} {k : AK} {K : PV → Prop} (hf : k.free = true) (h : Agree s s' k.reads) (he : ev g s k K) : ev g s' k K := by
  cases k with
  | mv x => simp only [ev] at he ⊢; rw [vg_agree h]; exact he
  | pick c a b => simp only [ev] at he ⊢; rw [vg_agree h.left.left, vx_agree h.left.right, vx_agree h.right]; exact he
  | build z parts => simp only [ev] at he ⊢; rw [vgp_agree h]; exact he
  | un op x => simp only [ev] at he ⊢; rw [vg_agree h]; exact he
  | convI k x => simp only [ev] at he ⊢; rw [vg_agree h]; exact he
  | mkFunc f a b => simp only [ev] at he ⊢; rw [vgs_agree h.left]; simp only [vgs_agree h.right]; exact he
  | field i off agg w x => simp only [ev] at he ⊢; rw [vg_agree h]; exact he
  | index agg n w x i => simp only [ev] at he ⊢; rw [vg_agree h.left, vg_agree h.right]; exact he
  | indexS x i => simp only [ev] at he ⊢; rw [vg_agree h.left, vg_agree h.right]; exact he
  | extract i x => simp only [ev] at he ⊢; rw [vx_agree h]; exact he
  | lenS x => simp only [ev] at he ⊢; rw [vg_agree h]; exact he
  | lenC n => simp only [ev] at he ⊢; exact he
  | mm mx xs => simp only [ev] at he ⊢; rw [vgs_agree h]; exact he
  | _ => simp [AK.free] at hf
theorem free_quiet {o : AO} (h : o.free = true) : o.quiet = true := by
  obtain ⟨d, g, m, k⟩ := o
  cases k <;> simp [AO.free, AK.free] at h <;> rfl
theorem do1_free {o : AO} {K : St → Prop} (hf : o.free = true) (h : do1 P s o K) :
    ∃ v, K (s.put o.dst v) ∧ ∀ s', Agree s s' o.k.reads → ∀ K' : St → Prop, K' (s'.put o.dst v) → do1 P s' o K' := by
  obtain ⟨dst, guard, mg, k⟩ := o
  have e : ∀ (s : St) K, do1 P s ⟨dst, guard, mg, k⟩ K = ev true s k fun p => K (s.put dst p) := by
    intro s K
    cases k <;> first | rfl | (simp [AO.free, AK.free] at hf; done)
  rw [e] at h
  obtain ⟨v, hK, hv⟩ := dt_ev _ _ _ _ h
  refine ⟨v, hK, fun s' ha K' hK' => ?_⟩
  rw [e]
  exact ev_free hf ha (hv _ hK')
def Qf (P : Program) (r : St) (o : AO) (v : PV) : Prop := ∀ s' : St, Agree r s' o.reads → ∀ K' : St → Prop, K' (s'.put o.dst v) → wpo P s' o K'
theorem wpo_free {o : AO} {K : St → Prop} (hq : o.free = true) (h : wpo P s o K) : ∃ v, K (s.put o.dst v) ∧ Qf P s o v := by
  unfold wpo at h
  cases hg : o.guard with
  | none =>
    rw [hg] at h
    obtain ⟨v, hK, hv⟩ := do1_free hq h
    refine ⟨v, hK, fun s' ha K' hK' => ?_⟩
    unfold wpo; rw [hg]
    exact hv s' ha.right K' hK'
  | some gw =>
    obtain ⟨sl, want⟩ := gw
    rw [hg] at h
    simp only at h
    have hget : ∀ {s' : St}, Agree s s' o.reads → get s'.env sl = get s.env sl := fun ha => ha sl (by simp [AO.reads, hg])
    split at h
    · rename_i b hb
      split at h
      · rename_i hm
        obtain ⟨v, hK, hv⟩ := dt_ev _ _ _ _ h
        refine ⟨_, hK, fun s' ha K' hK' => ?_⟩
        unfold wpo; rw [hg]; simp only [hget ha, hb, hm, if_true]
        exact ev_free hq ha.right (hv _ hK')
      · rename_i hm
        by_cases hbw : b = want
        · obtain ⟨v, hK, hv⟩ := do1_free hq (h.1 hbw)
          refine ⟨v, hK, fun s' ha K' hK' => ?_⟩
          unfold wpo; rw [hg]; simp only [hget ha, hb, hm]
          exact ⟨fun _ => hv s' ha.right K' hK', fun hn => absurd hbw hn⟩
        · refine ⟨.un, h.2 hbw, fun s' ha K' hK' => ?_⟩
          unfold wpo; rw [hg]; simp only [hget ha, hb, hm]
          exact ⟨fun hn => absurd hn hbw, fun _ => hK'⟩
    · rename_i g b hb
      split at h
      · rename_i hm
        obtain ⟨v, hK, hv⟩ := dt_ev _ _ _ _ h
        refine ⟨_, hK, fun s' ha K' hK' => ?_⟩
        unfold wpo; rw [hg]; simp only [hget ha, hb, hm, if_true]
        exact ev_free hq ha.right (hv _ hK')
      · rename_i hm
        by_cases hbw : g = true ∧ b = want
        · obtain ⟨v, hK, hv⟩ := do1_free hq (h.1 hbw.1 hbw.2)
          refine ⟨v, hK, fun s' ha K' hK' => ?_⟩
          unfold wpo; rw [hg]; simp only [hget ha, hb, hm]
          exact ⟨fun _ _ => hv s' ha.right K' hK', fun hn => absurd hbw.2 (hn hbw.1)⟩
        · refine ⟨.un, h.2 (fun h1 h2 => hbw ⟨h1, h2⟩), fun s' ha K' hK' => ?_⟩
          unfold wpo; rw [hg]; simp only [hget ha, hb, hm]
          exact ⟨fun h1 h2 => absurd ⟨h1, h2⟩ hbw, fun _ => hK'⟩
    · exact h.elim
theorem do1_sto {o : AO} {K : St → Prop} (hq : o.isStore = true) (h : do1 P s o K) :
    ∃ b, K { s with bx := b } ∧ ∀ s', s'.bx = s.bx → Agree s s' o.k.reads → ∀ K' : St → Prop, K' { s' with bx := b } → do1 P s' o K' := by
  obtain ⟨dst, guard, mg, k⟩ := o
  simp only [AO.isStore, Bool.and_eq_true] at hq
  cases k <;> simp at hq
  rename_i n x y
  simp only [do1, isEx, if_true, ex] at h ⊢
  obtain ⟨p, h, h1⟩ := dt_vg _ _ _ _ h
  obtain ⟨v, h, h2⟩ := dt_vg _ _ _ _ h
  cases p <;> simp only at h
  case pt k pth tot =>
    split at h
    case h_2 => exact h.elim
    rename_i blk hb
    split at h
    case h_2 => exact h.elim
    rename_i blk' hb'
    obtain ⟨hc, hK⟩ := h
    refine ⟨_, hK, fun s' hbx ha K' hK' => ?_⟩
    rw [vg_agree ha.left]
    refine h1 _ ?_
    rw [vg_agree ha.right]
    refine h2 _ ?_
    simp only [hbx, hb, hb']
    exact ⟨hc, hK'⟩
theorem wpo_store {o : AO} {K : St → Prop} (hq : o.isStore = true) (h : wpo P s o K) :
    ∃ b, K { s with bx := b } ∧ ∀ s', s'.bx = s.bx → Agree s s' o.reads → ∀ K' : St → Prop, K' { s' with bx := b } → wpo P s' o K' := by
  have hd : o.dst = none := by simp [AO.isStore] at hq; exact hq.1
  have hput : ∀ (s : St) p, s.put o.dst p = s := by intro s p; rw [hd]; rfl
  have hnev : ∀ (g : Bool) (s : St) K, ev g s o.k K → False := by
    intro g s K h
    obtain ⟨dst, guard, mg, k⟩ := o
    cases k <;> simp [AO.isStore] at hq
    simp [ev] at h
  unfold wpo at h
  cases hg : o.guard with
  | none =>
    rw [hg] at h
    obtain ⟨b, hK, hv⟩ := do1_sto hq h
    refine ⟨b, hK, fun s' hb ha K' hK' => ?_⟩
    unfold wpo; rw [hg]
    exact hv s' hb ha.right K' hK'
  | some gw =>
    obtain ⟨sl, want⟩ := gw
    rw [hg] at h
    simp only at h
    have hget : ∀ {s' : St}, Agree s s' o.reads → get s'.env sl = get s.env sl := fun ha => ha sl (by simp [AO.reads, hg])
    split at h
    · rename_i b hb
      split at h
      · exact (hnev _ _ _ h).elim
      · rename_i hm
        by_cases hbw : b = want
        · obtain ⟨v, hK, hv⟩ := do1_sto hq (h.1 hbw)
          refine ⟨v, hK, fun s' hbx ha K' hK' => ?_⟩
          unfold wpo; rw [hg]; simp only [hget ha, hb, hm]
          exact ⟨fun _ => hv s' hbx ha.right K' hK', fun hn => absurd hbw hn⟩
        · refine ⟨s.bx, by have := h.2 hbw; rw [hput] at this; exact this, fun s' hbx ha K' hK' => ?_⟩
          unfold wpo; rw [hg]; simp only [hget ha, hb, hm]
          exact ⟨fun hn => absurd hn hbw, fun _ => by rw [hput]; rw [← hbx] at hK'; exact hK'⟩
    · rename_i g b hb
      split at h
      · exact (hnev _ _ _ h).elim
      · rename_i hm
        by_cases hbw : g = true ∧ b = want
        · obtain ⟨v, hK, hv⟩ := do1_sto hq (h.1 hbw.1 hbw.2)
          refine ⟨v, hK, fun s' hbx ha K' hK' => ?_⟩
          unfold wpo; rw [hg]; simp only [hget ha, hb, hm]
          exact ⟨fun _ _ => hv s' hbx ha.right K' hK', fun hn => absurd hbw.2 (hn hbw.1)⟩
        · refine ⟨s.bx, by have := h.2 (fun h1 h2 => hbw ⟨h1, h2⟩); rw [hput] at this; exact this, fun s' hbx ha K' hK' => ?_⟩
          unfold wpo; rw [hg]; simp only [hget ha, hb, hm]
          exact ⟨fun h1 h2 => absurd ⟨h1, h2⟩ hbw, fun _ => by rw [hput]; rw [← hbx] at hK'; exact hK'⟩
    · exact h.elim
theorem put_with {d : Option Nat} {v : PV} {b : List (Nat × Blk)} : ({ s with bx := b } : St).put d v = { s.put d v with bx := b } := by cases d <;> rfl
theorem Agree.bx {l : List Nat} {b : List (Nat × Blk)} : Agree s { s with bx := b } l := fun _ _ => rfl
theorem Agree.bx' {l : List Nat} {b : List (Nat × Blk)} : Agree { s with bx := b } s l := fun _ _ => rfl
def AO.comm (y x : AO) : Bool := y.apart x && (y.quiet && x.quiet || y.free && x.isStore || y.isStore && x.free)
theorem wpo_comm {y x : AO} {K : St → Prop} (h : y.comm x = true) (hh : wpo P s y fun s1 => wpo P s1 x K) : wpo P s x fun s2 => wpo P s2 y K := by
  simp only [AO.comm, Bool.and_eq_true, Bool.or_eq_true] at h
  obtain ⟨hap, h⟩ := h
  have h1 : ∀ d, y.dst = some d → d ∉ x.reads := fun d hd => by simp [AO.apart, hd] at hap; exact hap.1.1
  have h3 : ∀ d, x.dst = some d → d ∉ y.reads := fun d hd => by simp [AO.apart, hd] at hap; exact hap.2
  rcases h with (h | h) | h
  · exact wpo_swap h.1 h.2 hap hh
  · obtain ⟨v, hh, hv⟩ := wpo_free h.1 hh
    obtain ⟨b, hh, hb⟩ := wpo_store h.2 hh
    refine hb s (put_bx _ _).symm (Agree.put' h1) _ ?_
    refine hv _ Agree.bx _ ?_
    rw [put_with]; exact hh
  · obtain ⟨b, hh, hb⟩ := wpo_store h.1 hh
    obtain ⟨v, hh, hv⟩ := wpo_free h.2 hh
    refine hv s Agree.bx' _ ?_
    refine hb _ (put_bx _ _) (Agree.put h3) _ ?_
    rw [put_with] at hh; exact hh
theorem wpo_under {y x : AO} {K K' : St → Prop} (h : y.comm x = true) (hk : ∀ s, K s → K' s) (hh : wpo P s y K) : wpo P s y K' := by
  simp only [AO.comm, Bool.and_eq_true, Bool.or_eq_true] at h
  obtain ⟨_, h⟩ := h
  have hq : y.quiet = true ∨ y.isStore = true := by
    rcases h with (h | h) | h
    · exact .inl h.1
    · exact .inl (free_quiet h.1)
    · exact .inr h.1
  rcases hq with hq | hq
  · obtain ⟨v, h1, h2⟩ := wpo_dt hq hh
    exact h2 s rfl (fun _ _ => rfl) _ (hk _ h1)
  · obtain ⟨b, h1, h2⟩ := wpo_store hq hh
    exact h2 s rfl (fun _ _ => rfl) _ (hk _ h1)
end Go.Ab
namespace Go.Ab
variable [Tabs]
variable {P : Program} {nt : Nat} {ds : List Deferred} {s s' : St} {Γ : Cx} {a : Act} {w : World} {Q : Exit → Act → World → Prop} [YCtx]
def wpl (P : Program) (s : St) : List AO → (St → Prop) → Prop
  | [], K => K s
  | o :: r, K => wpo P s o fun s' => wpl P s' r K
def wpx (P : Program) (aos : List AO) (s : St) : List Nat → (St → Prop) → Prop
  | [], K => K s
  | i :: r, K => match aos[i]? with
    | some o => wpo P s o fun s' => wpx P aos s' r K
    | none => False
theorem wpl_eq_wpx {aos : List AO} {K : St → Prop} : ∀ (n i : Nat) (s : St), i + n = aos.length → (wpl P s (aos.drop i) K ↔ wpx P aos s (List.range' i n) K)
  | 0, i, s, h => by simp only [List.range'_zero, wpx]; rw [List.drop_of_length_le (by omega)]; rfl
  | n + 1, i, s, h => by
    have hlt : i < aos.length := by omega
    rw [List.range'_succ, List.drop_eq_getElem_cons hlt]
    simp only [wpl, wpx, List.getElem?_eq_getElem hlt]
    have : (fun s' => wpl P s' (aos.drop (i + 1)) K) = fun s' => wpx P aos s' (List.range' (i + 1) n) K := funext fun s' => propext (wpl_eq_wpx n (i + 1) s' (by omega))
    rw [this]
noncomputable def trOpers (P : Program) (nt : Nat) (ops : Array Oper) (own sp : List Nat) (draw : Bool) : List Oper → Option (List AO)
  | [] => some []
  | o :: r => match trOper P nt ops own sp draw o, trOpers P nt ops own sp draw r with | some x, some l => some (x :: l) | _, _ => none
theorem trOpers_at {ops : Array Oper} {own sp : List Nat} {draw : Bool} : ∀ {os : List Oper} {aos : List AO}, trOpers P nt ops own sp draw os = some aos → aos.length = os.length ∧ ∀ (i : Nat) o, os[i]? = some o → ∃ ao, aos[i]? = some ao ∧ trOper P nt ops own sp draw o = some ao
  | [], aos, h => by simp [trOpers] at h; subst h; simp
  | o :: r, aos, h => by
    simp only [trOpers] at h
    split at h
    · rename_i x l hx hl
      simp only [Option.some.injEq] at h; subst h
      obtain ⟨h1, h2⟩ := trOpers_at hl
      refine ⟨by simp [h1], fun i o' hi => ?_⟩
      cases i with
      | zero => simp at hi; subst hi; exact ⟨x, rfl, hx⟩
      | succ i => simp at hi; simpa using h2 i o' hi
    · simp at h
theorem Nxt.trans {Γ1 : Cx} {w1 : World} {K : St → Prop} {Kr : Act → World → Prop} (h1 : Le Γ Γ1) (h2 : WF w w1) (h : Nxt P nt ds Γ w K Kr) : Nxt P nt ds Γ1 w1 K Kr :=
  fun s' Γ' a' w' a1 a2 a3 a4 a5 => h s' Γ' a' w' a1 a2 (h1.trans a3) (h2.trans a4) a5
theorem wpx_sound {ro : Option Nat} {ops : Array Oper} {aos : List AO} {own sp : List Nat} {draw : Bool} (hop : ∀ (i : Nat) o, ops[i]? = some o → ∃ ao, aos[i]? = some ao ∧ trOper P nt ops own sp draw o = some ao) (hlen : aos.length = ops.size) {K : St → Prop} :
    ∀ (l : List Nat) {s : St} {Γ : Cx} {a : Act} {w : World}, Sim nt ds s Γ a → w.heap = Γ.heap → YOk P Γ → wpx P aos s l K → Nxt P nt ds Γ w K (Q .normal) → wpOpsIn (FW ro) 0 P ops Q l a w
  | [], s, Γ, a, w, hs, hw, _, h, hk => hk _ _ _ _ hs hw (Le.refl Γ) (WF.refl w) h
  | i :: r, s, Γ, a, w, hs, hw, hY, h, hk => by
    rw [wpOpsIn_cons]
    simp only [wpx] at h
    split at h
    case h_2 => exact h.elim
    rename_i ao hao
    have hi : i < ops.size := by rw [← hlen]; exact (List.getElem?_eq_some_iff.1 hao).1
    obtain ⟨ao', h1, h2⟩ := hop i ops[i] (Array.getElem?_eq_getElem hi)
    rw [hao] at h1; cases h1
    refine wpo_sound (Array.getElem?_eq_getElem hi) h2 hs hw hY h ?_
    intro s' Γ' a' w' b1 b2 b3 b4 b5
    exact wpx_sound hop hlen r b1 b2 (hY.le b3) b5 (hk.trans b3 b4)
theorem region_sound {ro : Option Nat} {ops : Array Oper} {aos : List AO} {own sp : List Nat} {id : Nat} (ht : trOpers P nt ops own sp false ops.toList = some aos) {K : St → Prop} (hs : Sim nt ds s Γ a) (hw : w.heap = Γ.heap) (hY : YOk P Γ) (h : wpl P s aos K) (hk : Nxt P nt ds Γ w K (Q .normal)) :
    (Code.region id ops false).wpIn (FW ro) 0 P Q a w := by
  obtain ⟨h1, h2⟩ := trOpers_at ht
  refine wpIn_region (wpx_sound (fun i o hi => h2 i o (by simpa using hi)) (by simpa using h1) _ hs hw hY ?_ hk)
  rw [List.range_eq_range']
  exact (wpl_eq_wpx (P := P) ops.size 0 s (by simpa using h1.symm)).1 (by simpa using h)
inductive Bef (ops : Array Oper) : Nat → Nat → Prop
  | dir {i : Nat} {o : Oper} {e : Edge} : ops[i]? = some o → e ∈ o.after → Region.binds .any e = true → Bef ops i e.on
  | tr {i j : Nat} {o : Oper} {e : Edge} : ops[i]? = some o → e ∈ o.after → Region.binds .any e = true → Bef ops e.on j → Bef ops i j
def maskOf (ms : List Nat) : List Edge → Nat → Nat
  | [], m => m
  | e :: r, m => maskOf ms r (if Region.binds .any e = true then m ||| 2 ^ e.on ||| ms.getD e.on 0 else m)
def masks : List Oper → List Nat → List Nat
  | [], ms => ms
  | o :: r, ms => masks r (ms ++ [maskOf ms o.after.toList 0])
theorem maskOf_spec {ms : List Nat} {B : Nat → Prop} : ∀ (l : List Edge) (m : Nat), (∀ e ∈ l, Region.binds .any e = true → B e.on ∧ ∀ j, (ms.getD e.on 0).testBit j = true → B j) → (∀ j, m.testBit j = true → B j) →
    ∀ j, (maskOf ms l m).testBit j = true → B j
  | [], m, _, hm, j, h => hm j h
  | e :: r, m, hl, hm, j, h => by
    simp only [maskOf] at h
    refine maskOf_spec r _ (fun e he => hl e (by simp [he])) ?_ j h
    intro j hj
    split at hj
    · rename_i hb
      obtain ⟨h1, h2⟩ := hl e (by simp) hb
      rw [Nat.testBit_or, Nat.testBit_or, Bool.or_eq_true, Bool.or_eq_true, Nat.testBit_two_pow] at hj
      rcases hj with (hj | hj) | hj
      · exact hm j hj
      · simp only [decide_eq_true_eq] at hj; subst hj; exact h1
      · exact h2 j hj
    · exact hm j hj
theorem masks_spec {ops : Array Oper} : ∀ (l done : List Oper) (ms : List Nat), ops.toList = done ++ l → ms.length = done.length → (∀ (i : Nat) m, ms[i]? = some m → ∀ j, m.testBit j = true → Bef ops i j) →
    ∀ (i : Nat) m, (masks l ms)[i]? = some m → ∀ j, m.testBit j = true → Bef ops i j
  | [], _, ms, _, _, h => h
  | o :: r, done, ms, hd, hl, h => by
    refine masks_spec r (done ++ [o]) _ (by simp [hd]) (by simp [hl]) ?_
    intro i m hi j hj
    rw [List.getElem?_append] at hi
    split at hi
    · exact h i m hi j hj
    · rename_i hge
      have hi0 : i = ms.length := by
        have := (List.getElem?_eq_some_iff.1 hi).1
        simp at this; omega
      subst hi0
      simp at hi
      subst hi
      have ho : ops[ms.length]? = some o := by
        rw [← Array.getElem?_toList, hd, hl]; simp
      refine maskOf_spec (B := fun j => Bef ops ms.length j) _ 0 (fun e he hb => ⟨.dir ho (by simpa using he) hb, fun j hj => .tr ho (by simpa using he) hb ?_⟩) (by simp) j hj
      cases hx : ms[e.on]? with
      | none => rw [List.getD_eq_getElem?_getD, hx] at hj; simp at hj
      | some m => rw [List.getD_eq_getElem?_getD, hx] at hj; exact h _ m hx j hj
def bef (ms : List Nat) (i j : Nat) : Bool := (ms.getD i 0).testBit j
theorem bef_spec {ops : Array Oper} {i j : Nat} (h : bef (masks ops.toList []) i j = true) : Bef ops i j := by
  unfold bef at h
  cases hx : (masks ops.toList [])[i]? with
  | none => rw [List.getD_eq_getElem?_getD, hx] at h; simp at h
  | some m =>
    rw [List.getD_eq_getElem?_getD, hx] at h
    exact masks_spec ops.toList [] [] (by simp) rfl (by simp) i m hx j h
def okDrawM (ops : Array Oper) (aos : List AO) (ms : List Nat) : Bool :=
  (List.range ops.size).all fun i => match ops[i]?, aos[i]? with
    | some o, some x => (o.after.all fun e => !Region.binds .any e || decide (e.on < i)) &&
        (List.range i).all fun j => bef ms i j || (match aos[j]? with | some y => y.comm x | none => false)
    | _, _ => false
def okDraw (ops : Array Oper) (aos : List AO) : Bool := okDrawM ops aos (masks ops.toList [])
def Closed (ops : Array Oper) (listed : Array Bool) : Prop :=
  ∀ (k : Nat) o, ops[k]? = some o → listed.getD k true = true → ∀ e ∈ o.after, Region.binds .any e = true → listed.getD e.on false = true
theorem bef_listed {ops : Array Oper} {listed : Array Bool} (hc : Closed ops listed) {i j : Nat} (h : Bef ops i j) : listed.getD i false = true → listed.getD j false = true := by
  have up : ∀ i : Nat, listed.getD i false = true → listed.getD i true = true := by
    intro i hl
    have hi : i < listed.size := by
      rcases Nat.lt_or_ge i listed.size with h' | h'
      · exact h'
      · simp [Array.getElem?_eq_none h'] at hl
    simpa [Array.getD_eq_getD_getElem?, Array.getElem?_eq_getElem hi] using hl
  induction h with
  | dir ho he hb => intro hl; exact hc _ _ ho (up _ hl) _ he hb
  | tr ho he hb _ ih => intro hl; exact ih (hc _ _ ho (up _ hl) _ he hb)
theorem bef_ready {ops : Array Oper} {listed : Array Bool} (hc : Closed ops listed) {i j : Nat} (h : Bef ops i j) (hr : i ∈ Region.ready .any ops listed) : listed.getD j false = true := by
  obtain ⟨_, o, ho, hall⟩ := mem_ready.1 hr
  cases h with
  | dir ho' he hb => rw [ho] at ho'; cases ho'; exact hall _ he hb
  | tr ho' he hb h2 => rw [ho] at ho'; cases ho'; exact bef_listed hc h2 (hall _ he hb)
theorem wpx_front {aos : List AO} {K : St → Prop} {i : Nat} {x : AO} (hi : aos[i]? = some x) (l2 : List Nat) : ∀ (l1 : List Nat) (s : St),
    (∀ j ∈ l1, ∃ y, aos[j]? = some y ∧ y.comm x = true) → wpx P aos s (l1 ++ i :: l2) K → wpo P s x fun s' => wpx P aos s' (l1 ++ l2) K
  | [], s, _, h => by simpa [wpx, hi] using h
  | j :: l1, s, hall, h => by
    obtain ⟨y, hy, hap⟩ := hall j (by simp)
    simp only [List.cons_append, wpx, hy] at h ⊢
    exact wpo_comm hap (wpo_under hap (fun s' h' => wpx_front hi l2 l1 s' (fun k hk => hall k (by simp [hk])) h') h)
theorem anyA {ro : Option Nat} {ops : Array Oper} {aos : List AO} {own sp : List Nat} (hop : ∀ (i : Nat) o, ops[i]? = some o → ∃ ao, aos[i]? = some ao ∧ trOper P nt ops own sp true o = some ao) (hlen : aos.length = ops.size) (hok : okDraw ops aos = true) {K : St → Prop} :
    ∀ (n : Nat) (listed : Array Bool) {s : St} {Γ : Cx} {a : Act} {w : World}, listed.size = ops.size → Closed ops listed → ((List.range ops.size).filter fun i => !listed.getD i true).length = n →
      Sim nt ds s Γ a → w.heap = Γ.heap → YOk P Γ → wpx P aos s ((List.range ops.size).filter fun i => !listed.getD i true) K → Nxt P nt ds Γ w K (Q .normal) → wpAnyIn (FW ro) 0 P .any ops Q n listed a w := by
  simp only [okDraw, okDrawM, Bool.and_eq_true, List.all_eq_true, List.mem_range] at hok
  have hoi := hok
  -- what is first is ready
  have hfirst : ∀ listed : Array Bool, listed.size = ops.size → Region.ready .any ops listed = [] → ((List.range ops.size).filter fun i => !listed.getD i true) = [] := by
    intro listed hsz hr
    cases hl : (List.range ops.size).filter fun i => !listed.getD i true with
    | nil => rfl
    | cons i l =>
      exfalso
      have hm : ∀ j, j ∈ i :: l ↔ j < ops.size ∧ listed.getD j true = false := by intro j; rw [← hl]; simp
      have hsort : (i :: l).Pairwise (· < ·) := by rw [← hl]; exact (List.pairwise_lt_range).filter _
      obtain ⟨hi, hun⟩ := (hm i).1 (by simp)
      have hoi' := hoi i hi
      obtain ⟨ao, hao, _⟩ := hop i ops[i] (Array.getElem?_eq_getElem hi)
      rw [Array.getElem?_eq_getElem hi, hao] at hoi'
      simp only [Bool.and_eq_true, Array.all_eq_true_iff_forall_mem, Bool.or_eq_true, Bool.not_eq_true', decide_eq_true_eq] at hoi'
      have : i ∈ Region.ready .any ops listed := by
        rw [mem_ready]
        refine ⟨hun, ops[i], Array.getElem?_eq_getElem hi, fun e he hb => ?_⟩
        have hlt := (hoi'.1 e he).resolve_left (by simp [hb])
        cases hx : listed.getD e.on false with
        | true => rfl
        | false =>
          have hlt2 : e.on < listed.size := by omega
          have hu : listed.getD e.on true = false := by
            simpa [Array.getD_eq_getD_getElem?, Array.getElem?_eq_getElem hlt2] using hx
          have hmem := (hm e.on).2 ⟨by omega, hu⟩
          rcases List.mem_cons.1 hmem with h | h
          · omega
          · have := List.rel_of_pairwise_cons hsort h; omega
      rw [hr] at this; simp at this
  intro n
  induction n with
  | zero =>
    intro listed s Γ a w hsz hc hn hs hw hY h hk
    have hl := List.length_eq_zero_iff.1 hn
    rw [hl] at h
    refine ⟨?_, hk _ _ _ _ hs hw (Le.refl Γ) (WF.refl w) h⟩
    rw [List.eq_nil_iff_forall_not_mem]
    intro i hi
    have h0 := (mem_ready.1 hi)
    obtain ⟨h1, o, ho, _⟩ := h0
    have : i ∈ (List.range ops.size).filter fun i => !listed.getD i true := by
      rw [List.mem_filter, List.mem_range]; exact ⟨(Array.getElem?_eq_some_iff.1 ho).1, by rw [h1]; rfl⟩
    rw [hl] at this; simp at this
  | succ n ih =>
    intro listed s Γ a w hsz hc hn hs hw hY h hk
    refine ⟨fun hr => ?_, fun i hi => ?_⟩
    · rw [hfirst listed hsz hr] at hn; simp at hn
    · obtain ⟨hun, o, ho, hall⟩ := mem_ready.1 hi
      have hlt := (Array.getElem?_eq_some_iff.1 ho).1
      obtain ⟨ao, hao, htr⟩ := hop i o ho
      have hmem : i ∈ (List.range ops.size).filter fun i => !listed.getD i true := by
        rw [List.mem_filter, List.mem_range]; exact ⟨hlt, by rw [hun]; rfl⟩
      obtain ⟨l1, l2, hl⟩ := List.append_of_mem hmem
      have hsort : (l1 ++ i :: l2).Pairwise (· < ·) := by rw [← hl]; exact (List.pairwise_lt_range).filter _
      have hnd : (l1 ++ i :: l2).Nodup := hsort.imp (fun h => Nat.ne_of_lt h)
      have hrest : (List.range ops.size).filter (fun j => !(listed.setIfInBounds i true).getD j true) = l1 ++ l2 := by
        have e : (fun j => !(listed.setIfInBounds i true).getD j true) = fun j => (decide (j ≠ i)) && !listed.getD j true := by
          funext j
          by_cases hji : i = j
          · subst hji; simp [Array.getD_eq_getD_getElem?, Array.getElem?_setIfInBounds_self_of_lt (by omega : i < listed.size)]
          · rw [getD_set_ne true hji]; simp [Ne.symm hji]
        rw [e, ← List.filter_filter, hl, List.filter_append, List.filter_cons]
        simp only [ne_eq, not_true, decide_false, Bool.false_eq_true, if_false]
        have hn1 := List.nodup_append.1 hnd
        rw [List.filter_eq_self.2, List.filter_eq_self.2]
        · intro x hx; simp; rintro rfl; exact (List.nodup_cons.1 hn1.2.1).1 hx
        · intro x hx; simp; rintro rfl; exact hn1.2.2 x hx x (by simp) rfl
      rw [hl] at h hn
      have hlt1 : ∀ j ∈ l1, j < i := fun j hj => by
        have := (List.pairwise_append.1 hsort).2.2 j hj i (by simp); exact this
      have hunl : ∀ j ∈ l1, listed.getD j true = false := fun j hj => by
        have : j ∈ (List.range ops.size).filter fun i => !listed.getD i true := by rw [hl]; simp [hj]
        simpa using (List.mem_filter.1 this).2
      have hoi' := hoi i hlt
      rw [ho, hao] at hoi'
      simp only [Bool.and_eq_true, List.all_eq_true, List.mem_range, Bool.or_eq_true] at hoi'
      have hf := wpx_front (P := P) (K := K) hao l2 l1 s (fun j hj => by
        have hj2 := hoi'.2 j (hlt1 j hj)
        rcases hj2 with hb | hb
        · have := bef_ready hc (bef_spec hb) hi
          have hx := hunl j hj
          have hjl : j < listed.size := by have := hlt1 j hj; omega
          simp [Array.getD_eq_getD_getElem?, Array.getElem?_eq_getElem hjl] at this hx
          rw [this] at hx; simp at hx
        · split at hb
          · rename_i y hy; exact ⟨y, hy, hb⟩
          · simp at hb) h
      refine wpo_sound ho htr hs hw hY hf ?_
      intro s' Γ' a' w' b1 b2 b3 b4 b5
      refine ih (listed.setIfInBounds i true) (by simp [hsz]) ?_ (by rw [hrest]; simp at hn ⊢; omega) b1 b2 (hY.le b3) (by rw [hrest]; exact b5) (hk.trans b3 b4)
      intro k ok hok2 hkl e he hb
      by_cases hki : i = k
      · subst hki; rw [ho] at hok2; cases hok2; exact getD_set_true (hall e he hb)
      · rw [getD_set_ne true hki] at hkl; exact getD_set_true (hc k ok hok2 hkl e he hb)
theorem region_draw_sound {ro : Option Nat} {ops : Array Oper} {aos : List AO} {own sp : List Nat} {id : Nat} (hm : P.follows .mixedOrders = true) (ht : trOpers P nt ops own sp true ops.toList = some aos) (hok : okDraw ops aos = true) {K : St → Prop} (hs : Sim nt ds s Γ a) (hw : w.heap = Γ.heap) (hY : YOk P Γ) (h : wpl P s aos K) (hk : Nxt P nt ds Γ w K (Q .normal)) :
    (Code.region id ops true).wpIn (FW ro) 0 P Q a w := by
  obtain ⟨h1, h2⟩ := trOpers_at ht
  have e : ((List.range ops.size).filter fun i => !(Array.replicate ops.size false).getD i true) = List.range ops.size := by
    rw [List.filter_eq_self]
    intro i hi
    rw [List.mem_range] at hi
    simp [Array.getD_eq_getD_getElem?, hi]
  refine wpIn_region_any hm (anyA (s := s) (Γ := Γ) (K := K) (fun i o hi => h2 i o (by simpa using hi)) (by simpa using h1) hok _ _ (by simp) ?_ (by rw [e]; simp) hs hw hY ?_ ?_)
  · intro k o hko hl
    have := (Array.getElem?_eq_some_iff.1 hko).1
    simp [Array.getD_eq_getD_getElem?, this] at hl
  · rw [e, List.range_eq_range']
    exact (wpl_eq_wpx (P := P) ops.size 0 s (by simpa using h1.symm)).1 (by simpa using h)
  · intro s' Γ' a' w' b1 b2 b3 b4 b5
    exact hk s' Γ' a' w' b1 b2 b3 ⟨b4.os, b4.tape, b4.output⟩ b5
end Go.Ab
namespace Go.Ab
variable [Tabs]
variable {P : Program} {nt : Nat} {ds : List Deferred} {s s' : St} {Γ : Cx} {a : Act} {w : World} {Q : Exit → Act → World → Prop} [YCtx]
def Sub (b c : List (Nat × Blk)) : Prop := ∀ k blk, get b k = some blk → get c k = some blk
theorem content_sub (hb : Sub s.bx s'.bx) {p : PV} {K : Nat → List PV → Prop} (h : content s p K) : content s' p K := by
  cases p <;> simp only [content] at h ⊢ <;> first | exact h | skip
  rename_i k p off len tot sz c
  cases hg : get s.bx k with
  | none => rw [hg] at h; exact h.elim
  | some b => rw [hg] at h; rw [hb k b hg]; exact h
theorem binV_sub (hb : Sub s.bx s'.bx) {op : BinOp} {e : ET} {p q : PV} {K : PV → Prop} (h : binV s op e p q K) : binV s' op e p q K := by
  cases e <;> simp only [binV] at h ⊢ <;> first | exact h | skip
  cases p <;> cases q <;> simp only at h ⊢ <;> first | exact h | skip
  rename_i k _ _
  cases hg : get s.bx k with
  | none => rw [hg] at h; exact h.elim
  | some b => rw [hg] at h; rw [hb k b hg]; exact h
theorem vg_mono' {g : Bool} {x : AX} {K K' : PV → Prop} (hk : vg g s x K) (h : ∀ p, K p → K' p) : vg g s x K' := by
  obtain ⟨p, h1, h2⟩ := dt_vg g s x K hk; exact h2 K' (h p h1)
theorem intK_mono' {p : PV} {K K' : Int → Prop} (hk : intK p K) (h : ∀ n, K n → K' n) : intK p K' := by
  obtain ⟨n, h1, h2⟩ := dt_intK p K hk; exact h2 K' (h n h1)
theorem ev_sub {g : Bool} {k : AK} {K : PV → Prop} (hb : Sub s.bx s'.bx) (h : Agree s s' k.reads) (he : ev g s k K) : ev g s' k K := by
  cases k with
  | mv x => simp only [ev] at he ⊢; rw [vg_agree h]; exact he
  | pick c a b => simp only [ev] at he ⊢; rw [vg_agree h.left.left, vx_agree h.left.right, vx_agree h.right]; exact he
  | build z parts => simp only [ev] at he ⊢; rw [vgp_agree h]; exact he
  | load agg w x =>
    simp only [ev] at he ⊢; rw [vg_agree h]
    refine vg_mono' he fun p hp => ?_
    cases p <;> simp only at hp ⊢ <;> first | exact hp | skip
    rename_i k _ _
    cases hg : get s.bx k with
    | none => rw [hg] at hp; exact hp.elim
    | some b => rw [hg] at hp; rw [hb k b hg]; exact hp
  | nilCheck x =>
    simp only [ev] at he ⊢; rw [vg_agree h]
    refine vg_mono' he fun p hp => ?_
    cases p <;> first | exact hp | (rename_i f _ _; cases f <;> exact hp) | skip
    rename_i k _ _
    simp only at hp ⊢
    cases hg : get s.bx k with
    | none => rw [hg] at hp; exact hp.elim
    | some b => rw [hg] at hp; rw [hb k b hg]; exact hp
  | bin op e x y => simp only [ev] at he ⊢; rw [vg_agree h.left]; refine vg_mono' he fun p hp => ?_; rw [vg_agree h.right]; exact vg_mono' hp fun q hq => binV_sub hb hq
  | un op x => simp only [ev] at he ⊢; rw [vg_agree h]; exact he
  | convI k x => simp only [ev] at he ⊢; rw [vg_agree h]; exact he
  | convS x => simp only [ev] at he ⊢; rw [vg_agree h]; exact vg_mono' he fun p hp => content_sub hb hp
  | mkFunc f a b => simp only [ev] at he ⊢; rw [vgs_agree h.left]; simp only [vgs_agree h.right]; exact he
  | slice k x lo hi mx =>
    have hx := vg_agree (g := g) h.left
    have hl := fun n c => lohi_agree (g := g) h.right.left h.right.right.left n c
    have hm := h.right.right.right
    cases k with
    | str => simp only [ev, hx, hl] at he ⊢; exact he
    | sl sz =>
      simp only [ev, hx, hl] at he ⊢
      refine vg_mono' he fun p hp => ?_
      cases p <;> simp only at hp ⊢ <;> first | exact hp | skip
      · cases mx with
        | none => exact hp
        | some m => simp only at hp ⊢; rw [vg_agree (x := m) hm]; exact hp
      · rename_i k _ _ _ _ _ _
        cases hg : get s.bx k with
        | none => rw [hg] at hp; exact hp.elim
        | some b =>
          rw [hg] at hp; rw [hb k b hg]
          cases mx with
          | none => exact hp
          | some m => simp only at hp ⊢; rw [vg_agree (x := m) hm]; exact hp
    | ar n sz =>
      simp only [ev, hx, hl] at he ⊢
      refine vg_mono' he fun p hp => ?_
      cases p <;> simp only at hp ⊢ <;> first | exact hp | skip
      rename_i k _ _
      cases hg : get s.bx k with
      | none => rw [hg] at hp; exact hp.elim
      | some b => rw [hg] at hp; rw [hb k b hg]; exact hp
  | fieldA i off x =>
    simp only [ev] at he ⊢; rw [vg_agree h]
    refine vg_mono' he fun p hp => ?_
    cases p <;> simp only at hp ⊢ <;> first | exact hp | skip
    rename_i k _ _
    cases hg : get s.bx k with
    | none => rw [hg] at hp; exact hp.elim
    | some b => rw [hg] at hp; rw [hb k b hg]; exact hp
  | s2a n sz x =>
    simp only [ev] at he ⊢; rw [vg_agree h]
    refine vg_mono' he fun p hp => ?_
    cases p <;> simp only at hp ⊢ <;> first | exact hp | skip
    rename_i k _ _ _ _ _ _
    cases hg : get s.bx k with
    | none => rw [hg] at hp; exact hp.elim
    | some b => rw [hg] at hp; rw [hb k b hg]; exact hp
  | field i off agg w x => simp only [ev] at he ⊢; rw [vg_agree h]; exact he
  | indexA k x i =>
    have hx := vg_agree (g := g) h.left
    have hi := vg_agree (g := g) h.right
    cases k with
    | str => simp only [ev] at he
    | sl sz =>
      simp only [ev, hx, hi] at he ⊢
      refine vg_mono' he fun p hp => vg_mono' hp fun q hq => intK_mono' hq fun j hj => ?_
      cases p <;> simp only at hj ⊢ <;> first | exact hj | skip
      rename_i k _ _ _ _ _ _
      cases hg : get s.bx k with
      | none => rw [hg] at hj; exact hj.elim
      | some b => rw [hg] at hj; rw [hb k b hg]; exact hj
    | ar n sz =>
      simp only [ev, hx, hi] at he ⊢
      refine vg_mono' he fun p hp => vg_mono' hp fun q hq => intK_mono' hq fun j hj => ⟨hj.1, ?_⟩
      have hj := hj.2
      cases p <;> simp only at hj ⊢ <;> first | exact hj | skip
      rename_i k _ _ _
      cases hg : get s.bx k with
      | none => rw [hg] at hj; exact hj.elim
      | some b => rw [hg] at hj; rw [hb k b hg]; exact hj
  | index agg n w x i => simp only [ev] at he ⊢; rw [vg_agree h.left, vg_agree h.right]; exact he
  | indexS x i => simp only [ev] at he ⊢; rw [vg_agree h.left, vg_agree h.right]; exact he
  | extract i x => simp only [ev] at he ⊢; rw [vx_agree h]; exact he
  | len x =>
    simp only [ev] at he ⊢; rw [vg_agree h]
    refine vg_mono' he fun p hp => ?_
    cases p <;> simp only at hp ⊢ <;> first | exact hp | skip
    rename_i k _ _ _ _ _ _
    cases hg : get s.bx k with
    | none => rw [hg] at hp; exact hp.elim
    | some b => rw [hg] at hp; rw [hb k b hg]; exact hp
  | lenS x => simp only [ev] at he ⊢; rw [vg_agree h]; exact he
  | lenC n => simp only [ev] at he ⊢; exact he
  | mm mx xs => simp only [ev] at he ⊢; rw [vgs_agree h]; exact he
  | _ => simp only [ev] at he
def Qv (P : Program) (r : St) (o : AO) (v : PV) : Prop := ∀ s' : St, Sub r.bx s'.bx → Agree r s' o.reads → ∀ K' : St → Prop, K' (s'.put o.dst v) → wpo P s' o K'
theorem do1_dts {o : AO} {K : St → Prop} (hq : o.quiet = true) (h : do1 P s o K) :
    ∃ v, K (s.put o.dst v) ∧ ∀ s', Sub s.bx s'.bx → Agree s s' o.k.reads → ∀ K' : St → Prop, K' (s'.put o.dst v) → do1 P s' o K' := by
  obtain ⟨dst, guard, mg, k⟩ := o
  cases k with
  | call f args => simp [AO.quiet] at hq
  | callq f args =>
    simp only [do1] at h ⊢
    unfold callQ at h
    obtain ⟨pf, h, h1⟩ := dt_vg _ _ _ _ h
    obtain ⟨ps, h, h2⟩ := dt_vgs _ _ _ _ h
    split at h
    case h_2 => exact h.elim
    rename_i fid first cap
    obtain ⟨v, hc1, hc2, hK⟩ := h
    refine ⟨v, hK, fun s' hb ha K' hK' => ?_⟩
    unfold callQ
    rw [vg_agree ha.left]
    refine h1 _ ?_
    rw [vgs_agree ha.right]
    exact h2 _ ⟨v, hc1, hc2, hK'⟩
  | buildSlice own sz z n parts =>
    simp only [AO.quiet, Bool.not_eq_true'] at hq
    subst hq
    simp only [do1, isEx, if_true] at h ⊢
    simp only [ex] at h
    obtain ⟨ps, h, h1⟩ := dt_vgp _ _ _ _ h
    split at h
    case h_2 => exact h.elim
    rename_i l hl
    simp only [Bool.false_eq_true, if_false] at h
    refine ⟨_, h, fun s' hb ha K' hK' => ?_⟩
    simp only [ex]
    rw [vgp_agree ha]
    refine h1 _ ?_
    simp only [hl, Bool.false_eq_true, if_false]
    exact hK'
  | _ =>
    first
    | (simp [AO.quiet, isEx] at hq; done)
    | (simp only [do1, isEx, Bool.false_eq_true, if_false] at h ⊢
       obtain ⟨v, hK, hv⟩ := dt_ev _ _ _ _ h
       refine ⟨v, hK, fun s' hb ha K' hK' => ?_⟩
       exact ev_sub hb ha (hv _ hK'))
theorem wpo_dts {o : AO} {K : St → Prop} (hq : o.quiet = true) (h : wpo P s o K) : ∃ v, K (s.put o.dst v) ∧ Qv P s o v := by
  unfold wpo at h
  cases hg : o.guard with
  | none =>
    rw [hg] at h
    obtain ⟨v, hK, hv⟩ := do1_dts hq h
    refine ⟨v, hK, fun s' hb ha K' hK' => ?_⟩
    unfold wpo; rw [hg]
    exact hv s' hb ha.right K' hK'
  | some gw =>
    obtain ⟨sl, want⟩ := gw
    rw [hg] at h
    simp only at h
    have hget : ∀ {s' : St}, Agree s s' o.reads → get s'.env sl = get s.env sl := fun ha => ha sl (by simp [AO.reads, hg])
    split at h
    · rename_i b hb
      split at h
      · rename_i hm
        obtain ⟨v, hK, hv⟩ := dt_ev _ _ _ _ h
        refine ⟨_, hK, fun s' hbx ha K' hK' => ?_⟩
        unfold wpo; rw [hg]; simp only [hget ha, hb, hm, if_true]
        exact ev_sub hbx ha.right (hv _ hK')
      · rename_i hm
        by_cases hbw : b = want
        · obtain ⟨v, hK, hv⟩ := do1_dts hq (h.1 hbw)
          refine ⟨v, hK, fun s' hbx ha K' hK' => ?_⟩
          unfold wpo; rw [hg]; simp only [hget ha, hb, hm]
          exact ⟨fun _ => hv s' hbx ha.right K' hK', fun hn => absurd hbw hn⟩
        · refine ⟨.un, h.2 hbw, fun s' hbx ha K' hK' => ?_⟩
          unfold wpo; rw [hg]; simp only [hget ha, hb, hm]
          exact ⟨fun hn => absurd hn hbw, fun _ => hK'⟩
    · rename_i g b hb
      split at h
      · rename_i hm
        obtain ⟨v, hK, hv⟩ := dt_ev _ _ _ _ h
        refine ⟨_, hK, fun s' hbx ha K' hK' => ?_⟩
        unfold wpo; rw [hg]; simp only [hget ha, hb, hm, if_true]
        exact ev_sub hbx ha.right (hv _ hK')
      · rename_i hm
        by_cases hbw : g = true ∧ b = want
        · obtain ⟨v, hK, hv⟩ := do1_dts hq (h.1 hbw.1 hbw.2)
          refine ⟨v, hK, fun s' hbx ha K' hK' => ?_⟩
          unfold wpo; rw [hg]; simp only [hget ha, hb, hm]
          exact ⟨fun _ _ => hv s' hbx ha.right K' hK', fun hn => absurd hbw.2 (hn hbw.1)⟩
        · refine ⟨.un, h.2 (fun h1 h2 => hbw ⟨h1, h2⟩), fun s' hbx ha K' hK' => ?_⟩
          unfold wpo; rw [hg]; simp only [hget ha, hb, hm]
          exact ⟨fun h1 h2 => absurd ⟨h1, h2⟩ hbw, fun _ => hK'⟩
    · exact h.elim
end Go.Ab
namespace Go.Ab
variable [Tabs]
variable {P : Program} {nt : Nat} {ds : List Deferred} {s s' : St} [YCtx]
def Keeps (d : Option Nat) (s t : St) : Prop := ∀ n, d ≠ some n → get t.env n = get s.env n
theorem keeps_put {k : Nat} {v : PV} {b : List (Nat × Blk)} : Keeps (some k) s { env := put s.env k v, bx := b } := by
  intro n hn
  rw [get_put_ne]
  intro e; exact hn (by rw [e])
theorem keeps_St {d : Option Nat} {v : PV} {b : List (Nat × Blk)} : Keeps d s ({ s with bx := b }.put d v) := by
  cases d with
  | none => intro n _; rfl
  | some k => exact keeps_put
theorem keeps_bx {d : Option Nat} {b : List (Nat × Blk)} : Keeps d s { s with bx := b } := fun _ _ => rfl
theorem put_env {e k : Nat} {u v : PV} {b : List (Nat × Blk)} (h : k ≠ e) : ({ env := put (put s.env e u) k v, bx := b } : St) = St.put { env := put s.env k v, bx := b } (some e) u := by
  simp only [St.put]; rw [Ab.put_comm (Ne.symm h)]
theorem put_st {e : Nat} {d : Option Nat} {u v : PV} {b : List (Nat × Blk)} (h : d ≠ some e) : St.put { s.put (some e) u with bx := b } d v = St.put (St.put { s with bx := b } d v) (some e) u := by
  cases d with
  | none => rfl
  | some k =>
    have : k ≠ e := fun h' => h (by rw [h'])
    simp only [St.put]; rw [Ab.put_comm (Ne.symm this)]
theorem content_put {e : Nat} {u : PV} {p : PV} : content (s.put (some e) u) p = content s p := content_agree rfl p
theorem src_put {e : Nat} {u : PV} {str : Bool} {sz : Nat} {q : PV} {K : List PV → Prop} : src (s.put (some e) u) str sz q K = src s str sz q K := by
  unfold src; simp only [content_put]
theorem append_frame {e : Nat} {u : PV} {d : Option Nat} {sz bytes : Nat} {p : PV} {ys : List PV} {K : St → Prop} (hd : d ≠ some e) (h : exAppend (s.put (some e) u) d sz bytes p ys K) :
    exAppend s d sz bytes p ys fun t => K (t.put (some e) u) ∧ Keeps d s t := by
  cases d with
  | none => exact h.elim
  | some k =>
    have hk : k ≠ e := fun h' => hd (by rw [h'])
    unfold exAppend at h ⊢
    simp only at h ⊢
    split at h
    · refine ⟨h.1, ?_, keeps_put⟩
      rw [← put_env hk]; exact h.2
    · have hbx : (s.put (some e) u).bx = s.bx := rfl
      rw [hbx] at h
      split at h
      · refine ⟨h.1, ?_, keeps_put⟩
        rw [← put_env hk]; exact h.2
      · exact h.elim
    · rw [content_put] at h
      obtain ⟨sz', l, h, h2⟩ : ∃ sz' l, _ ∧ _ := by
        have := h
        exact dt_content _ _ _ this
      exact h2 _ ⟨h.1, by rw [← put_env hk]; exact h.2, keeps_put⟩
    · exact h.elim
theorem copy_frame {e : Nat} {u : PV} {d : Option Nat} {sz : Nat} {p : PV} {ys : List PV} {K : St → Prop} (hd : d ≠ some e) (h : exCopy (s.put (some e) u) d sz p ys K) :
    exCopy s d sz p ys fun t => K (t.put (some e) u) ∧ Keeps d s t := by
  have hbx : (s.put (some e) u).bx = s.bx := rfl
  cases p <;> simp only [exCopy] at h ⊢ <;> first | exact h | skip
  rename_i k pth off len tot sz' c
  rw [hbx] at h
  split at h
  · refine ⟨h.1, ?_, keeps_St⟩
    rw [← put_st hd]; exact h.2
  · rename_i v hv
    split at h
    · rename_i sz'' n l hg
      split at h
      · rename_i v' hs
        refine ⟨h.1, ?_, keeps_St⟩
        rw [← put_st hd]; exact h.2
      · exact h.elim
    · exact h.elim
  · exact h.elim
theorem ex_frame {e : Nat} {u : PV} {d : Option Nat} {k : AK} {K : St → Prop} (hd : d ≠ some e) (hr : e ∉ k.reads) (h : ex (s.put (some e) u) d k K) :
    ex s d k fun t => K (t.put (some e) u) ∧ Keeps d s t := by
  have ag : Agree s (s.put (some e) u) k.reads := Agree.put (fun j hj => by cases hj; exact hr)
  have hbx : (s.put (some e) u).bx = s.bx := rfl
  cases k with
  | alloc z =>
    cases d with
    | none => exact h.elim
    | some k =>
      have hk : k ≠ e := fun h' => hd (by rw [h'])
      simp only [ex] at h ⊢
      refine ⟨h.1, ?_, keeps_put⟩
      rw [← put_env hk]; exact h.2
  | box x =>
    cases d with
    | none => exact h.elim
    | some k =>
      have hk : k ≠ e := fun h' => hd (by rw [h'])
      simp only [ex] at h ⊢
      rw [vg_agree ag] at h
      refine vg_mono' h fun p hp => ⟨hp.1, ?_, keeps_put⟩
      rw [← put_env hk]; exact hp.2
  | buildSlice own sz z n parts =>
    simp only [ex] at h ⊢
    rw [vgp_agree ag] at h
    obtain ⟨ps, h, h1⟩ := dt_vgp _ _ _ _ h
    refine h1 _ ?_
    split at h
    · split at h
      · cases d with
        | none => exact h.elim
        | some k =>
          have hk : k ≠ e := fun h' => hd (by rw [h'])
          rename_i l hl ho
          simp only [hl, ho, if_true]
          refine ⟨h.1, ?_, keeps_put⟩
          rw [← put_env hk]; exact h.2
      · rename_i l hl ho
        simp only [hl, if_neg ho]
        refine ⟨?_, keeps_St (b := s.bx)⟩
        have := put_st (s := s) (b := s.bx) (u := u) (v := .sl sz l true) hd
        exact this ▸ h
    · exact h.elim
  | makeSlice sz bytes z len cap =>
    cases d with
    | none =>
      simp only [ex] at h
      obtain ⟨p, h, _⟩ := dt_vg _ _ _ _ h
      obtain ⟨l, h, _⟩ := dt_intK _ _ h
      obtain ⟨q, h, _⟩ := dt_vg _ _ _ _ h
      obtain ⟨c, h, _⟩ := dt_intK _ _ h
      exact h.elim
    | some k =>
      have hk : k ≠ e := fun h' => hd (by rw [h'])
      simp only [ex] at h ⊢
      rw [vg_agree ag.left] at h
      refine vg_mono' h fun p hp => intK_mono' hp fun l hl => ?_
      rw [vg_agree ag.right] at hl
      refine vg_mono' hl fun q hq => intK_mono' hq fun c hc => ⟨hc.1, ?_, keeps_put⟩
      rw [← put_env hk]; exact hc.2
  | store n x y =>
    simp only [ex] at h ⊢
    rw [vg_agree ag.left] at h
    refine vg_mono' h fun p hp => ?_
    rw [vg_agree ag.right] at hp
    refine vg_mono' hp fun v hv => ?_
    cases p <;> simp only at hv ⊢
    rename_i k pth tot
    rw [hbx] at hv
    split at hv
    · split at hv
      · exact ⟨hv.1, hv.2, keeps_bx⟩
      · exact hv.elim
    · exact hv.elim
  | isNil ng x =>
    simp only [ex] at h ⊢
    rw [vg_agree ag] at h
    refine vg_mono' h fun p hp => ?_
    cases p <;> simp only at hp ⊢
    · intro b hb
      refine ⟨?_, keeps_St (b := s.bx)⟩
      have := put_st (s := s) (b := s.bx) (u := u) (v := .bl (b != ng)) hd
      exact this ▸ hp b hb
    · rename_i k _ _ _ _ _ _
      rw [hbx] at hp
      split at hp
      · refine ⟨hp.1, fun b hb => ⟨?_, keeps_St (b := s.bx)⟩⟩
        have := put_st (s := s) (b := s.bx) (u := u) (v := .bl (b != ng)) hd
        exact this ▸ hp.2 b hb
      · exact hp.elim
  | append sz bytes str x y =>
    simp only [ex] at h ⊢
    rw [vg_agree ag.left] at h
    refine vg_mono' h fun p hp => ?_
    rw [vg_agree ag.right] at hp
    refine vg_mono' hp fun q hq => ?_
    rw [src_put] at hq
    unfold src at hq ⊢
    split at hq
    · rename_i hs
      simp only [hs, if_true]
      cases q <;> simp only at hq ⊢
      exact ⟨hq.1, append_frame hd hq.2⟩
    · rename_i hs
      simp only [hs]
      obtain ⟨z, l, hq, h2⟩ := dt_content _ _ _ hq
      exact h2 _ ⟨hq.1, append_frame hd hq.2⟩
  | copy sz x y =>
    simp only [ex] at h ⊢
    rw [vg_agree ag.left] at h
    refine vg_mono' h fun p hp => ?_
    rw [vg_agree ag.right] at hp
    refine vg_mono' hp fun q hq => ?_
    have hsrc : ∀ str, src (s.put (some e) u) str sz q (fun ys => exCopy (s.put (some e) u) d sz p ys K) → src s str sz q (fun ys => exCopy s d sz p ys fun t => K (t.put (some e) u) ∧ Keeps d s t) := by
      intro str hq
      rw [src_put] at hq
      unfold src at hq ⊢
      split at hq
      · rename_i hs
        simp only [hs, if_true]
        cases q <;> simp only at hq ⊢
        exact ⟨hq.1, copy_frame hd hq.2⟩
      · rename_i hs
        simp only [hs]
        obtain ⟨z, l, hq, h2⟩ := dt_content _ _ _ hq
        exact h2 _ ⟨hq.1, copy_frame hd hq.2⟩
    cases q <;> exact hsrc _ hq
  | fill sz z x =>
    simp only [ex] at h ⊢
    rw [vg_agree ag] at h
    refine vg_mono' h fun p hp => ?_
    obtain ⟨h1, h2⟩ := hp
    subst h1
    refine ⟨rfl, ?_⟩
    cases p <;> simp only at h2 ⊢ <;> first | exact h2.elim | skip
    exact copy_frame hd h2
  | mkMap ks vs =>
    cases d with
    | none => exact h.elim
    | some k =>
      have hk : k ≠ e := fun h' => hd (by rw [h'])
      simp only [ex] at h ⊢
      refine ⟨h.1, fun b => ⟨?_, keeps_put⟩⟩
      rw [← put_env hk]; exact h.2 b
  | mapGet ks vs z ok m x =>
    simp only [ex] at h ⊢
    rw [vg_agree ag.left] at h
    refine vg_mono' h fun pm hp => ?_
    rw [vg_agree ag.right] at hp
    refine vg_mono' hp fun p hq => ?_
    cases pm <;> simp only at hq ⊢ <;> first | exact hq.elim | skip
    rw [hbx] at hq
    split at hq
    · rename_i b' ks' vs' l hg
      refine ⟨hq.1, ?_, keeps_St (b := s.bx)⟩
      have := put_st (s := s) (b := s.bx) (u := u) (v := if ok = true then .tup [(lkp p l).getD z, .bl (lkp p l).isSome] else (lkp p l).getD z) hd
      exact this ▸ hq.2
    · exact hq.elim
  | mapSet ks vs m x y =>
    simp only [ex] at h ⊢
    rw [vg_agree ag.left] at h
    refine vg_mono' h fun pm hp => ?_
    rw [vg_agree ag.right.left] at hp
    refine vg_mono' hp fun p hq => ?_
    rw [vg_agree ag.right.right] at hq
    refine vg_mono' hq fun v hv => ?_
    cases pm <;> simp only at hv ⊢ <;> first | exact hv.elim | skip
    rw [hbx] at hv
    split at hv
    · exact ⟨hv.1, hv.2, keeps_bx⟩
    · exact hv.elim
  | convB x =>
    simp only [ex] at h ⊢
    rw [vg_agree ag] at h
    refine vg_mono' h fun p hp => ?_
    cases p <;> simp only at hp ⊢ <;> first | exact hp.elim | skip
    rename_i bs
    refine ⟨?_, keeps_St (b := s.bx)⟩
    have := put_st (s := s) (b := s.bx) (u := u) (v := .sl 1 (bs.map u8) false) hd
    exact this ▸ hp
  | _ => exact h.elim
theorem callW_frame {e : Nat} {u : PV} {d : Option Nat} {f : AX} {args : List AX} {K : St → Prop} (hd : d ≠ some e) (hr : e ∉ (AK.call f args).reads) (h : callW P (s.put (some e) u) d f args K) :
    callW P s d f args fun t => K (t.put (some e) u) ∧ Keeps d s t := by
  have ag : Agree s (s.put (some e) u) (AK.call f args).reads := Agree.put (fun j hj => by cases hj; exact hr)
  unfold callW at h ⊢
  rw [vg_agree ag.left] at h
  refine vg_mono' h fun pf hpf => ?_
  rw [vgs_agree ag.right] at hpf
  obtain ⟨ps, hp, h2⟩ := dt_vgs _ _ _ _ hpf
  refine h2 _ ?_
  split at hp
  · obtain ⟨ks, os, blks, R, a1, a2, a3, a4, a5, a6, a7⟩ := hp
    refine ⟨ks, os, blks, R, a1, a2, a3, a4, a5, a6, fun r fp hR => ⟨(a7 r fp hR).1, ?_, keeps_St⟩⟩
    rw [← put_st hd]
    exact (a7 r fp hR).2
  · obtain ⟨blks, R, a1, a2, a3, a4, a5⟩ := hp
    refine ⟨blks, R, a1, a2, a3, a4, fun fp hR => ⟨(a5 fp hR).1, ?_, keeps_St⟩⟩
    rw [← put_st hd]
    exact (a5 fp hR).2
  · exact hp.elim
end Go.Ab
namespace Go.Ab
variable [Tabs]
variable {P : Program} {s : St} [YCtx]
theorem ev_mono {g : Bool} {k : AK} {K K' : PV → Prop} (h : ∀ p, K p → K' p) (hk : ev g s k K) : ev g s k K' := by
  obtain ⟨p, h1, h2⟩ := dt_ev g s k K hk; exact h2 K' (h p h1)
theorem vg_mono {g : Bool} {x : AX} {K K' : PV → Prop} (h : ∀ p, K p → K' p) (hk : vg g s x K) : vg g s x K' := by
  obtain ⟨p, h1, h2⟩ := dt_vg g s x K hk; exact h2 K' (h p h1)
theorem vgs_mono {g : Bool} {xs : List AX} {K K' : List PV → Prop} (h : ∀ p, K p → K' p) (hk : vgs g s xs K) : vgs g s xs K' := by
  obtain ⟨p, h1, h2⟩ := dt_vgs g s xs K hk; exact h2 K' (h p h1)
theorem vgp_mono {g : Bool} {xs : List (Nat × AX)} {K K' : List (Nat × PV) → Prop} (h : ∀ p, K p → K' p) (hk : vgp g s xs K) : vgp g s xs K' := by
  obtain ⟨p, h1, h2⟩ := dt_vgp g s xs K hk; exact h2 K' (h p h1)
theorem intK_mono {p : PV} {K K' : Int → Prop} (h : ∀ p, K p → K' p) (hk : intK p K) : intK p K' := by
  obtain ⟨p, h1, h2⟩ := dt_intK p K hk; exact h2 K' (h p h1)
theorem content_mono {p : PV} {K K' : Nat → List PV → Prop} (h : ∀ a b, K a b → K' a b) (hk : content s p K) : content s p K' := by
  obtain ⟨a, b, h1, h2⟩ := dt_content s p K hk; exact h2 K' (h a b h1)
theorem src_mono {str : Bool} {sz : Nat} {q : PV} {K K' : List PV → Prop} (h : ∀ p, K p → K' p) (hk : src s str sz q K) : src s str sz q K' := by
  unfold src at hk ⊢
  split at hk
  · rename_i hs; rw [if_pos hs]
    split at hk
    · exact ⟨hk.1, h _ hk.2⟩
    · exact hk.elim
  · rename_i hs; rw [if_neg hs]
    exact content_mono (fun a b hab => ⟨hab.1, h _ hab.2⟩) hk
theorem exAppend_mono {d : Option Nat} {sz b : Nat} {p : PV} {ys : List PV} {K K' : St → Prop} (h : ∀ p, K p → K' p) (hk : exAppend s d sz b p ys K) : exAppend s d sz b p ys K' := by
  unfold exAppend at hk ⊢
  split at hk
  · exact hk.elim
  · split at hk
    · exact ⟨hk.1, h _ hk.2⟩
    · split at hk
      · exact ⟨hk.1, h _ hk.2⟩
      · exact hk.elim
    · exact content_mono (fun a b hab => ⟨hab.1, h _ hab.2⟩) hk
    · exact hk.elim
theorem exCopy_mono {d : Option Nat} {sz : Nat} {p : PV} {ys : List PV} {K K' : St → Prop} (h : ∀ p, K p → K' p) (hk : exCopy s d sz p ys K) : exCopy s d sz p ys K' := by
  unfold exCopy at hk ⊢
  split at hk
  · split at hk
    · exact ⟨hk.1, h _ hk.2⟩
    · split at hk
      · split at hk
        · exact ⟨hk.1, h _ hk.2⟩
        · exact hk.elim
      · exact hk.elim
    · exact hk.elim
  · exact hk.elim
theorem ex_mono {d : Option Nat} {k : AK} {K K' : St → Prop} (h : ∀ p, K p → K' p) (hk : ex s d k K) : ex s d k K' := by
  cases k with
  | alloc z => simp only [ex] at hk ⊢; split at hk; exact ⟨hk.1, h _ hk.2⟩; exact hk.elim
  | box x => simp only [ex] at hk ⊢; split at hk; exact vg_mono (fun p hp => ⟨hp.1, h _ hp.2⟩) hk; exact hk.elim
  | buildSlice own sz z n parts =>
    simp only [ex] at hk ⊢
    refine vgp_mono (fun ps hp => ?_) hk
    split at hp
    · split at hp
      · rename_i ho; rw [if_pos ho]
        split at hp
        · exact ⟨hp.1, h _ hp.2⟩
        · exact hp.elim
      · rename_i ho; rw [if_neg ho]; exact h _ hp
    · exact hp.elim
  | makeSlice sz b z l c =>
    simp only [ex] at hk ⊢
    refine vg_mono (fun p hp => intK_mono (fun n hn => vg_mono (fun q hq => intK_mono (fun m hm => ?_) hq) hn) hp) hk
    split at hm
    · exact ⟨hm.1, h _ hm.2⟩
    · exact hm.elim
  | store n x y =>
    simp only [ex] at hk ⊢
    refine vg_mono (fun p hp => vg_mono (fun v hv => ?_) hp) hk
    split at hv
    · split at hv
      · split at hv
        · exact ⟨hv.1, h _ hv.2⟩
        · exact hv.elim
      · exact hv.elim
    · exact hv.elim
  | isNil ng x =>
    simp only [ex] at hk ⊢
    refine vg_mono (fun p hp => ?_) hk
    split at hp
    · exact fun b hb => h _ (hp b hb)
    · split at hp
      · exact ⟨hp.1, fun b hb => h _ (hp.2 b hb)⟩
      · exact hp.elim
    · exact hp.elim
  | append sz b str x y =>
    simp only [ex] at hk ⊢
    exact vg_mono (fun p hp => vg_mono (fun q hq => src_mono (fun ys hy => exAppend_mono h hy) hq) hp) hk
  | copy sz x y =>
    simp only [ex] at hk ⊢
    refine vg_mono (fun p hp => vg_mono (fun q hq => ?_) hp) hk
    split at hq
    · exact src_mono (fun ys hy => exCopy_mono h hy) hq
    · exact src_mono (fun ys hy => exCopy_mono h hy) hq
  | fill sz z x =>
    simp only [ex] at hk ⊢
    refine vg_mono (fun p hp => ?_) hk
    obtain ⟨h1, h2⟩ := hp
    refine ⟨h1, ?_⟩
    cases p <;> simp only at h2 ⊢ <;> first | exact h2.elim | exact exCopy_mono h h2
  | mkMap ks vs => simp only [ex] at hk ⊢; split at hk; exact ⟨hk.1, fun b => h _ (hk.2 b)⟩; exact hk.elim
  | mapGet ks vs z ok m x =>
    simp only [ex] at hk ⊢
    refine vg_mono (fun pm hp => vg_mono (fun p hq => ?_) hp) hk
    cases pm <;> simp only at hq ⊢ <;> first | exact hq.elim | skip
    split at hq
    · exact ⟨hq.1, h _ hq.2⟩
    · exact hq.elim
  | mapSet ks vs m x y =>
    simp only [ex] at hk ⊢
    refine vg_mono (fun pm hp => vg_mono (fun p hq => vg_mono (fun v hv => ?_) hq) hp) hk
    cases pm <;> simp only at hv ⊢ <;> first | exact hv.elim | skip
    split at hv
    · exact ⟨hv.1, h _ hv.2⟩
    · exact hv.elim
  | convB x =>
    simp only [ex] at hk ⊢
    refine vg_mono (fun p hp => ?_) hk
    cases p <;> simp only at hp ⊢ <;> first | exact hp.elim | exact h _ hp
  | _ => simp only [ex] at hk
theorem CallK_mono {d : Option Nat} {f : FuncId} {l : List PV} {ks os : List Nat} {K K' : St → Prop} (h : ∀ p, K p → K' p) (hk : CallK P s d f l ks os K) : CallK P s d f l ks os K' := by
  obtain ⟨b, R, h1, h2, h3, h4, h5, h6, h7⟩ := hk
  exact ⟨b, R, h1, h2, h3, h4, h5, h6, fun r fp hr => ⟨(h7 r fp hr).1, h _ (h7 r fp hr).2⟩⟩
theorem callW_mono {d : Option Nat} {f : AX} {l : List AX} {K K' : St → Prop} (h : ∀ p, K p → K' p) (hk : callW P s d f l K) : callW P s d f l K' := by
  unfold callW at hk ⊢
  refine vg_mono (fun pf hf => vgs_mono (fun ps hp => ?_) hf) hk
  split at hp
  · obtain ⟨ks, os, hc⟩ := hp; exact ⟨ks, os, CallK_mono h hc⟩
  · obtain ⟨blks, R, a1, a2, a3, a4, a5⟩ := hp
    exact ⟨blks, R, a1, a2, a3, a4, fun fp hR => ⟨(a5 fp hR).1, h _ (a5 fp hR).2⟩⟩
  · exact hp.elim
theorem callQ_mono {d : Option Nat} {f : AX} {l : List AX} {K K' : St → Prop} (h : ∀ p, K p → K' p) (hk : callQ P s d f l K) : callQ P s d f l K' := by
  unfold callQ at hk ⊢
  refine vg_mono (fun pf hf => vgs_mono (fun ps hp => ?_) hf) hk
  split at hp
  · obtain ⟨v, h1, h2, h3⟩ := hp; exact ⟨v, h1, h2, h _ h3⟩
  · exact hp.elim
theorem do1_mono {o : AO} {K K' : St → Prop} (h : ∀ p, K p → K' p) (hk : do1 P s o K) : do1 P s o K' := by
  unfold do1 at hk ⊢
  split at hk
  · exact callW_mono h hk
  · exact callQ_mono h hk
  · split at hk
    · rename_i he; rw [if_pos he]; exact ex_mono h hk
    · rename_i he; rw [if_neg he]; exact ev_mono (fun p hp => h _ hp) hk
theorem wpo_mono {o : AO} {K K' : St → Prop} (h : ∀ p, K p → K' p) (hk : wpo P s o K) : wpo P s o K' := by
  unfold wpo at hk ⊢
  split at hk
  · exact do1_mono h hk
  · split at hk
    · split at hk
      · rename_i hm; rw [if_pos hm]; exact ev_mono (fun p hp => h _ hp) hk
      · rename_i hm; rw [if_neg hm]; exact ⟨fun e => do1_mono h (hk.1 e), fun e => h _ (hk.2 e)⟩
    · split at hk
      · rename_i hm; rw [if_pos hm]; exact ev_mono (fun p hp => h _ hp) hk
      · rename_i hm; rw [if_neg hm]; exact ⟨fun e e' => do1_mono h (hk.1 e e'), fun e => h _ (hk.2 e)⟩
    · exact hk.elim
end Go.Ab
namespace Go.Ab
variable [Tabs]
variable {P : Program} {nt : Nat} {ds : List Deferred} {s s' : St} [YCtx]
def AO.isAl : AO → Option Nat
  | ⟨some k, none, _, .alloc _⟩ => some k
  | _ => none
def AO.alq (y : AO) : Bool := y.guard.isNone && (match y.k with | .call .. | .alloc _ => true | _ => false)
def alS (k : Nat) (z : PV) (s : St) : St := { env := put s.env k (.pt k [] 0), bx := put s.bx k (.box z) }
theorem agree_al {k : Nat} {z : PV} {l : List Nat} (h : k ∉ l) : Agree s (alS k z s) l := by
  intro n hn
  simp only [alS]
  rw [get_put_ne]
  rintro rfl; exact h hn
theorem getAll_al {k : Nat} {b : Blk} : ∀ {ks : List Nat} {bx : List (Nat × Blk)} {l : List Blk}, get bx k = none → getAll bx ks = some l → getAll (put bx k b) ks = some l
  | [], bx, l, _, h => h
  | x :: ks, bx, l, hn, h => by
    simp only [getAll] at h ⊢
    split at h
    · rename_i u v hu hv
      have hne : k ≠ x := by rintro rfl; rw [hn] at hu; simp at hu
      rw [get_put_ne _ _ _ _ hne, hu, getAll_al hn hv]
      exact h
    · simp at h
theorem putAll_al {k : Nat} {b : Blk} : ∀ {ks : List Nat} {bx : List (Nat × Blk)} {l : List Blk}, k ∉ ks → putAll (put bx k b) ks l = put (putAll bx ks l) k b
  | [], bx, l, _ => by cases l <;> rfl
  | x :: ks, bx, [], _ => rfl
  | x :: ks, bx, y :: l, h => by
    simp only [putAll]
    rw [Ab.put_comm (n := k) (m := x) (by rintro rfl; simp at h), putAll_al (fun h' => h (by simp [h']))]
theorem getAll_notin {k : Nat} : ∀ {ks : List Nat} {bx : List (Nat × Blk)} {l : List Blk}, get bx k = none → getAll bx ks = some l → k ∉ ks
  | [], _, _, _, _ => by simp
  | x :: ks, bx, l, hn, h => by
    simp only [getAll] at h
    split at h
    · rename_i u v hu hv
      intro hm
      rcases List.mem_cons.1 hm with rfl | hm
      · rw [hn] at hu; simp at hu
      · exact getAll_notin hn hv hm
    · simp at h
theorem st_al {k : Nat} {z : PV} {d : Option Nat} {v : PV} {b : List (Nat × Blk)} (hd : d ≠ some k) : St.put { env := put s.env k (.pt k [] 0), bx := put b k (.box z) } d v = alS k z (St.put { s with bx := b } d v) := by
  cases d with
  | none => rfl
  | some j =>
    have : j ≠ k := fun h => hd (by rw [h])
    simp only [St.put, alS]
    rw [Ab.put_comm (Ne.symm this)]
theorem CallK_al {d : Option Nat} {f : FuncId} {args : List PV} {ks os : List Nat} {k : Nat} {z : PV} {K : St → Prop} (hd : d ≠ some k) (hn : get s.bx k = none) (h : CallK P s d f args ks os fun t => get t.bx k = none ∧ K (alS k z t)) : ∃ os', CallK P (alS k z s) d f args ks os' K := by
  obtain ⟨blks, R, a1, a2, a3, a4, a5, a6, a7⟩ := h
  have hk := getAll_notin hn a1
  by_cases hR : ∃ r fp, R r fp
  · obtain ⟨r0, fp0, hR0⟩ := hR
    have hko : k ∉ os := by
      intro hm
      obtain ⟨⟨b1, _, _⟩, b2, _⟩ := a7 r0 fp0 hR0
      have e : ({ s with bx := putAll s.bx (ks ++ os) (fp0.map (renB (ren2 (ks ++ os)))) }.put d (ren (ren2 (ks ++ os)) r0)).bx = putAll s.bx (ks ++ os) (fp0.map (renB (ren2 (ks ++ os)))) := by cases d <;> rfl
      rw [e, get_putAll k a2 (by simpa using b1)] at b2
      cases hi : idx (ks ++ os) k with
      | none => exact idx_none hi (by simp [hm])
      | some i =>
        rw [hi] at b2
        have := (List.getElem?_eq_some_iff.1 (idx_get hi)).1
        simp at b2
        omega
    refine ⟨os, blks, R, getAll_al hn a1, a2, fun o ho => ?_, a4, a5, a6, fun r fp hr => ⟨(a7 r fp hr).1, ?_⟩⟩
    · simp only [alS]
      rw [get_put_ne]
      · exact a3 o ho
      · rintro rfl; exact hko ho
    · have := (a7 r fp hr).2.2
      simp only [alS] at this ⊢
      rw [putAll_al (by simp [hk, hko]), st_al hd]
      exact this
  · exact ⟨[], blks, R, getAll_al hn a1, by simpa using (List.nodup_append.1 a2).1, by simp, a4, a5, a6, fun r fp hr => absurd ⟨r, fp, hr⟩ hR⟩
theorem callW_al {d : Option Nat} {f : AX} {args : List AX} {k : Nat} {z : PV} {K : St → Prop} (hd : d ≠ some k) (hn : get s.bx k = none) (hr : k ∉ (AK.call f args).reads) (h : callW P s d f args fun t => get t.bx k = none ∧ K (alS k z t)) : callW P (alS k z s) d f args K := by
  have ag : Agree s (alS k z s) (AK.call f args).reads := agree_al hr
  unfold callW at h ⊢
  rw [vg_agree ag.left]
  refine vg_mono' h fun pf hpf => ?_
  rw [vgs_agree ag.right]
  obtain ⟨ps, hp, h2⟩ := dt_vgs _ _ _ _ hpf
  refine h2 _ ?_
  split at hp
  · obtain ⟨ks, os, hc⟩ := hp
    obtain ⟨os', hc'⟩ := CallK_al hd hn hc
    exact ⟨ks, os', hc'⟩
  · obtain ⟨blks, R, a1, a2, a3, a4, a5⟩ := hp
    have hk := getAll_notin hn a1
    refine ⟨blks, R, getAll_al hn a1, a2, a3, a4, fun fp hR => ⟨(a5 fp hR).1, ?_⟩⟩
    have := (a5 fp hR).2.2
    simp only [alS] at this ⊢
    rw [putAll_al hk, st_al hd]
    exact this
  · exact hp.elim
theorem wpo_isAl {x : AO} {k : Nat} (hx : x.isAl = some k) : ∃ z, x.dst = some k ∧ ∀ (s : St) (K : St → Prop), wpo P s x K ↔ (get s.bx k = none ∧ K (alS k z s)) := by
  unfold AO.isAl at hx
  split at hx
  · rename_i k' mg z
    simp only [Option.some.injEq] at hx; subst hx
    exact ⟨z, rfl, fun s K => Iff.rfl⟩
  · simp at hx
theorem wpo_al {y : AO} {k : Nat} {z : PV} {K : St → Prop} (hy : y.alq = true) (hd : y.dst ≠ some k) (hr : k ∉ y.reads) (hn : get s.bx k = none) (h : wpo P s y fun t => get t.bx k = none ∧ K (alS k z t)) : wpo P (alS k z s) y K := by
  obtain ⟨dst, guard, mg, ak⟩ := y
  unfold AO.alq at hy
  simp only [Bool.and_eq_true] at hy
  cases guard with
  | some g => simp at hy
  | none =>
    cases ak with
    | call f args => exact callW_al hd hn (fun h => hr (by simp [AO.reads, h])) h
    | alloc z' =>
      cases dst with
      | none => exact h.elim
      | some j =>
        have hjk : j ≠ k := fun h => hd (by rw [h])
        have h : get s.bx j = none ∧ get (alS j z' s).bx k = none ∧ K (alS k z (alS j z' s)) := h
        show get (alS k z s).bx j = none ∧ K (alS j z' (alS k z s))
        refine ⟨by simp only [alS]; rw [get_put_ne _ _ _ _ (Ne.symm hjk)]; exact h.1, ?_⟩
        have e : alS j z' (alS k z s) = alS k z (alS j z' s) := by
          simp only [alS]; rw [Ab.put_comm (Ne.symm hjk), Ab.put_comm (Ne.symm hjk)]
        rw [e]; exact h.2.2
    | _ => simp at hy
end Go.Ab
namespace Go.Ab
variable [Tabs]
variable {P : Program} {nt : Nat} {ds : List Deferred} {s s' : St} [YCtx]
def St.less (s : St) (W : List Nat) : St := { s with bx := s.bx.filter fun p => !W.contains p.1 }
def Fr (W : List Nat) (s t : St) : Prop := ∀ k b, W.contains k = false → get s.bx k = some b → get t.bx k = some b
theorem get_filter {W : List Nat} (k : Nat) : ∀ l : List (Nat × Blk), get (l.filter fun p => !W.contains p.1) k = if W.contains k = true then none else get l k
  | [] => by simp [get]
  | (n, v) :: r => by
    have ih := get_filter (W := W) k r
    by_cases hn : W.contains n = true
    · rw [List.filter_cons_of_neg (by simpa using hn), ih]
      by_cases hk : n = k
      · subst hk; rw [if_pos hn, if_pos hn]
      · simp only [get, if_neg hk]
    · rw [List.filter_cons_of_pos (by simpa using hn)]
      simp only [get, ih]
      by_cases hk : n = k
      · subst hk; rw [if_pos rfl, if_neg hn, if_pos rfl]
      · rw [if_neg hk, if_neg hk]
theorem less_sub (W : List Nat) : Sub (s.less W).bx s.bx := by
  intro k b h
  simp only [St.less, get_filter] at h
  split at h
  · simp at h
  · exact h
theorem less_fr {W : List Nat} (h : Fr W s s') : Sub (s.less W).bx (s'.less W).bx := by
  intro k b hk
  simp only [St.less, get_filter] at hk ⊢
  split at hk
  · simp at hk
  · rename_i hw
    rw [if_neg hw]
    exact h k b (by simpa using hw) hk
theorem less_put {W : List Nat} {d : Option Nat} {v : PV} : (s.put d v).less W = (s.less W).put d v := by cases d <;> rfl
theorem less_back {W : List Nat} {d : Option Nat} {v : PV} : ({ ((s.less W).put d v) with bx := s.bx } : St) = s.put d v := by cases d <;> rfl
def stepc (P : Program) (W : List Nat) (f : Bool) (s : St) (o : AO) (K : St → Prop) : Prop :=
  if o.quiet = true then (if f = true then wpo P (s.less W) o (fun t => K { t with bx := s.bx }) else wpo P s o K) else wpo P s o (fun t => (f = true → Fr W s t) ∧ K t)
def freeB (aos : List AO) (s : St) (l : List Nat) : Bool := l.all fun i => match aos[i]? with | some o => (match o.isAl with | some k => (get s.bx k).isNone | none => true) | none => true
def wpcx (P : Program) (aos : List AO) (fl : Nat → Bool) (W : List Nat) (s : St) : List Nat → (St → Prop) → Prop
  | [], K => K s
  | i :: r, K => match aos[i]? with
    | some o => freeB aos s (i :: r) = true ∧ stepc P W (fl i) s o fun t => wpcx P aos fl W t r K
    | none => False
theorem wpcx_free {aos : List AO} {fl : Nat → Bool} {W : List Nat} {K : St → Prop} : ∀ {l : List Nat} {s : St}, wpcx P aos fl W s l K → freeB aos s l = true
  | [], s, _ => rfl
  | i :: r, s, h => by
    simp only [wpcx] at h
    split at h
    · exact h.1
    · exact h.elim
theorem freeB_bx {aos : List AO} {s s' : St} (h : s'.bx = s.bx) (l : List Nat) : freeB aos s' l = freeB aos s l := by unfold freeB; rw [h]
theorem freeB_cons {aos : List AO} {s : St} {i : Nat} {l : List Nat} : freeB aos s (i :: l) = (freeB aos s [i] && freeB aos s l) := by simp [freeB]
theorem freeB_app {aos : List AO} {s : St} {l m : List Nat} : freeB aos s (l ++ m) = (freeB aos s l && freeB aos s m) := by simp [freeB]
theorem free3 {aos : List AO} {s : St} {i j : Nat} {l m : List Nat} (h : freeB aos s (j :: (l ++ i :: m)) = true) : freeB aos s [j] = true ∧ freeB aos s l = true ∧ freeB aos s [i] = true ∧ freeB aos s m = true := by
  rw [freeB_cons (l := l ++ i :: m), freeB_app, freeB_cons (l := m)] at h
  simpa only [Bool.and_eq_true] using h
theorem free2 {aos : List AO} {s : St} {j : Nat} {l m : List Nat} (h1 : freeB aos s [j] = true) (h2 : freeB aos s l = true) (h3 : freeB aos s m = true) : freeB aos s (j :: (l ++ m)) = true := by
  rw [freeB_cons (l := l ++ m), freeB_app, h1, h2, h3]; rfl
theorem freeB_one {aos : List AO} {s : St} {i : Nat} {x : AO} {k : Nat} (hi : aos[i]? = some x) (hx : x.isAl = some k) : freeB aos s [i] = true ↔ get s.bx k = none := by simp [freeB, hi, hx]
theorem freeB_not {aos : List AO} {s : St} {i : Nat} {x : AO} (hi : aos[i]? = some x) (hx : x.isAl = none) : freeB aos s [i] = true := by simp [freeB, hi, hx]
theorem isAl_quiet {x : AO} (hx : x.quiet = true) : x.isAl = none := by
  obtain ⟨d, g, mg, k⟩ := x
  unfold AO.isAl
  split
  · simp_all [AO.quiet, isEx]
  · rfl
def srcW (W : List Nat) (f : Bool) (s : St) : St := if f = true then s.less W else s
theorem stepc_q {W : List Nat} {f : Bool} {o : AO} {K : St → Prop} (hq : o.quiet = true) (h : stepc P W f s o K) : ∃ v, K (s.put o.dst v) ∧ Qv P (srcW W f s) o v := by
  unfold stepc at h
  rw [if_pos hq] at h
  cases f with
  | true =>
    simp only [if_true] at h
    obtain ⟨v, h1, h2⟩ := wpo_dts hq h
    rw [less_back] at h1
    exact ⟨v, h1, h2⟩
  | false =>
    simp only [Bool.false_eq_true, if_false] at h
    obtain ⟨v, h1, h2⟩ := wpo_dts hq h
    exact ⟨v, h1, h2⟩
theorem stepc_of {W : List Nat} {f : Bool} {o : AO} {v : PV} {r : St} {K : St → Prop} (hq : o.quiet = true) (h : Qv P r o v) (hs : Sub r.bx (srcW W f s).bx) (ha : Agree r s o.reads) (hk : K (s.put o.dst v)) : stepc P W f s o K := by
  unfold stepc
  rw [if_pos hq]
  cases f with
  | true =>
    simp only [if_true]
    refine h _ hs ha _ ?_
    show K { ((s.less W).put o.dst v) with bx := s.bx }
    rw [less_back]; exact hk
  | false =>
    simp only [Bool.false_eq_true, if_false]
    exact h _ hs ha _ hk
theorem srcW_sub {W : List Nat} {f : Bool} : Sub (srcW W f s).bx s.bx := by
  unfold srcW; split
  · exact less_sub W
  · exact fun _ _ h => h
theorem srcW_put {W : List Nat} {f : Bool} {d : Option Nat} {v : PV} : (srcW W f (s.put d v)).bx = (srcW W f s).bx := by
  unfold srcW; split
  · rw [less_put, put_bx]
  · rw [put_bx]
theorem srcW_env {W : List Nat} {f : Bool} : (srcW W f s).env = s.env := by unfold srcW; split <;> rfl
theorem agree_src {W : List Nat} {f : Bool} {l : List Nat} (h : Agree s s' l) : Agree (srcW W f s) s' l := by
  intro n hn; rw [srcW_env]; exact h n hn
def AK.slotOnly : AK → Bool
  | .mv _ | .extract _ _ | .mm _ _ | .un _ _ | .convI _ _ | .field _ _ _ _ _ | .build _ _ => true
  | .bin _ e _ _ => match e with | .ptr => false | _ => true
  | _ => false
def AO.slotOnly (o : AO) : Bool := o.guard.isNone && o.k.slotOnly
theorem vx_env {b : List (Nat × Blk)} (x : AX) : vx { s with bx := b } x = vx s x := by cases x <;> rfl
theorem vg_env {b : List (Nat × Blk)} {g : Bool} (x : AX) : vg g { s with bx := b } x = vg g s x := by
  funext K; unfold vg; rw [vx_env]
theorem vgs_env {b : List (Nat × Blk)} {g : Bool} : ∀ (l : List AX), vgs g { s with bx := b } l = vgs g s l
  | [] => rfl
  | x :: l => by funext K; simp only [vgs, vg_env, vgs_env l]
theorem vgp_env {b : List (Nat × Blk)} {g : Bool} : ∀ (l : List (Nat × AX)), vgp g { s with bx := b } l = vgp g s l
  | [] => rfl
  | (n, x) :: l => by funext K; simp only [vgp, vg_env, vgp_env l]
theorem binV_env {b : List (Nat × Blk)} {o : BinOp} {e : ET} (he : (match e with | .ptr => false | _ => true) = true) (p q : PV) : binV { s with bx := b } o e p q = binV s o e p q := by
  funext K; cases e <;> first | rfl | simp at he
theorem ev_env {b : List (Nat × Blk)} {g : Bool} {k : AK} (hk : k.slotOnly = true) (K : PV → Prop) : ev g { s with bx := b } k K = ev g s k K := by
  cases k <;> first | (simp [AK.slotOnly] at hk; done) | skip
  case bin o e x y =>
    simp only [ev, vg_env]
    simp only [AK.slotOnly] at hk
    have := fun p q => binV_env (s := s) (b := b) (o := o) hk p q
    simp only [this]
  all_goals simp only [ev, vg_env, vgs_env, vgp_env, vx_env]
theorem slotOnly_ex {k : AK} (h : k.slotOnly = true) : isEx k = false := by
  cases k <;> first | rfl | simp [AK.slotOnly] at h
theorem slotOnly_qv {r : St} {o : AO} {v : PV} (hf : o.slotOnly = true) (hv : Qv P r o v) (s' : St) (ha : Agree r s' o.reads) (K' : St → Prop) (hk : K' (s'.put o.dst v)) : wpo P s' o K' := by
  have h := hv { s' with bx := r.bx } (fun _ _ h => h) ha (fun t => K' { t with bx := s'.bx }) (by
    have e : ({ (({ s' with bx := r.bx } : St).put o.dst v) with bx := s'.bx } : St) = s'.put o.dst v := by cases o.dst <;> rfl
    show K' _
    rw [e]; exact hk)
  obtain ⟨dst, guard, mg, k⟩ := o
  have e : ∀ p, ({ (({ s' with bx := r.bx } : St).put dst p) with bx := s'.bx } : St) = s'.put dst p := by intro p; cases dst <;> rfl
  simp only [AO.slotOnly, Bool.and_eq_true, Option.isNone_iff_eq_none] at hf
  obtain ⟨hg, hk'⟩ := hf
  subst hg
  have hx := slotOnly_ex hk'
  cases k <;> first | (simp [AK.slotOnly] at hk'; done) | skip
  all_goals
    simp only [wpo, do1, hx, Bool.false_eq_true, if_false, ev_env hk', e] at h ⊢
    exact h
theorem stepc_ofS {W : List Nat} {f : Bool} {o : AO} {v : PV} {r : St} {K : St → Prop} (hq : o.quiet = true) (hf : o.slotOnly = true) (h : Qv P r o v) (ha : Agree r s o.reads) (hk : K (s.put o.dst v)) : stepc P W f s o K := by
  unfold stepc
  rw [if_pos hq]
  cases f with
  | true =>
    simp only [if_true]
    refine slotOnly_qv hf h (s.less W) (fun n hn => ha n hn) _ ?_
    show K { ((s.less W).put o.dst v) with bx := s.bx }
    rw [less_back]; exact hk
  | false =>
    simp only [Bool.false_eq_true, if_false]
    exact slotOnly_qv hf h _ ha _ hk
def pairOk (aos : List AO) (fl : Nat → Bool) (j i : Nat) : Bool := match aos[j]?, aos[i]? with
  | some y, some x => y.quiet && y.dst.isSome && y.apart x && (x.quiet || y.slotOnly || fl j && fl i) || !y.quiet && y.alq && (match x.isAl with | some k => y.dst != some k && !y.reads.contains k | none => false)
  | _, _ => false
def alNe (aos : List AO) (j i : Nat) : Bool := match aos[j]?, aos[i]? with
  | some y, some x => (match y.isAl, x.isAl with | some a, some b => a != b | _, _ => true)
  | _, _ => true
theorem frontQ {aos : List AO} {fl : Nat → Bool} {W : List Nat} {K : St → Prop} {i : Nat} {x : AO} (hi : aos[i]? = some x) (hx : x.quiet = true) (l2 : List Nat) : ∀ (l1 : List Nat) (s : St),
    (∀ j ∈ l1, pairOk aos fl j i = true) → wpcx P aos fl W s (l1 ++ i :: l2) K → ∃ v, wpcx P aos fl W (s.put x.dst v) (l1 ++ l2) K ∧ Qv P s x v
  | [], s, _, h => by
    simp only [List.nil_append, wpcx, hi] at h
    obtain ⟨v, h1, h2⟩ := stepc_q hx h.2
    exact ⟨v, h1, fun s' hb ha K' hk => h2 s' (fun k b hk => hb k b (srcW_sub k b hk)) (agree_src ha) K' hk⟩
  | j :: l1, s, hall, h => by
    have hp := hall j (by simp)
    unfold pairOk at hp
    cases hy : aos[j]? with
    | none => rw [hy] at hp; simp at hp
    | some y =>
      rw [hy, hi] at hp
      simp only [isAl_quiet hx, Bool.and_false, Bool.or_false, Bool.and_eq_true] at hp
      obtain ⟨⟨⟨hyq, _⟩, hap⟩, _⟩ := hp
      have h1 : ∀ d, y.dst = some d → d ∉ x.reads := fun d hd => by simp [AO.apart, hd] at hap; exact hap.1.1
      have h2 : ∀ d, y.dst = some d → x.dst ≠ some d := fun d hd => by simp [AO.apart, hd] at hap; exact hap.1.2
      have h3 : ∀ d, x.dst = some d → d ∉ y.reads := fun d hd => by simp [AO.apart, hd] at hap; exact hap.2
      simp only [List.cons_append, wpcx, hy] at h ⊢
      obtain ⟨hfr, h⟩ := h
      obtain ⟨v, h, hv⟩ := stepc_q hyq h
      obtain ⟨u, h, hu⟩ := frontQ hi hx l2 l1 _ (fun k hk => hall k (by simp [hk])) h
      refine ⟨u, ⟨?_, stepc_of hyq hv (by rw [srcW_put]; exact fun _ _ h => h) (agree_src (Agree.put h3)) ?_⟩, ?_⟩
      · have hfr := free3 hfr
        rw [freeB_bx (put_bx _ _)]
        exact free2 hfr.1 hfr.2.1 hfr.2.2.2
      · rw [St.put_comm (fun k hk he => h2 k he hk)]; exact h
      · intro s' hb ha K' hk
        refine hu s' (by rw [put_bx]; exact hb) (fun n hn => ?_) K' hk
        rw [ha n hn]
        exact ((Agree.put h1) n hn).symm
theorem do1_frame {o : AO} {e : Nat} {u : PV} {K : St → Prop} (hq : o.quiet = false) (hd : o.dst ≠ some e) (hr : e ∉ o.k.reads) (h : do1 P (s.put (some e) u) o K) : do1 P s o fun t => K (t.put (some e) u) ∧ Keeps o.dst s t := by
  obtain ⟨dst, guard, mg, k⟩ := o
  cases k with
  | call f args => exact callW_frame hd hr h
  | callq f args => simp [AO.quiet] at hq
  | _ =>
    first
    | (simp [AO.quiet, isEx] at hq; done)
    | (simp only [do1, isEx, if_true] at h ⊢; exact ex_frame hd hr h)
theorem wpo_frame {o : AO} {e : Nat} {u : PV} {K : St → Prop} (hq : o.quiet = false) (hd : o.dst ≠ some e) (hr : e ∉ o.reads) (h : wpo P (s.put (some e) u) o K) : wpo P s o fun t => K (t.put (some e) u) ∧ Keeps o.dst s t := by
  have hrk : e ∉ o.k.reads := fun h => hr (by simp [AO.reads, h])
  have hun : K ((s.put (some e) u).put o.dst .un) → K ((s.put o.dst .un).put (some e) u) ∧ Keeps o.dst s (s.put o.dst .un) := by
    intro hk
    refine ⟨?_, keeps_St (b := s.bx)⟩
    have := put_st (s := s) (b := s.bx) (u := u) (v := .un) hd
    exact this ▸ hk
  have hnev : ∀ (g : Bool) (s : St) K, ev g s o.k K → False := by
    intro g s K h
    obtain ⟨dst, guard, mg, k⟩ := o
    cases k <;> first | (simp [AO.quiet, isEx] at hq; done) | (simp [ev] at h; done)
  unfold wpo at h ⊢
  cases hg : o.guard with
  | none =>
    rw [hg] at h
    exact do1_frame hq hd hrk h
  | some gw =>
    obtain ⟨sl, want⟩ := gw
    rw [hg] at h
    have hsl : get (s.put (some e) u).env sl = get s.env sl := by
      simp only [St.put]
      rw [get_put_ne]
      rintro rfl; exact hr (by simp [AO.reads, hg])
    simp only [hsl] at h ⊢
    split at h
    · split at h
      · exact (hnev _ _ _ h).elim
      · rename_i hm
        rw [if_neg hm]
        exact ⟨fun e1 => do1_frame hq hd hrk (h.1 e1), fun e1 => hun (h.2 e1)⟩
    · split at h
      · exact (hnev _ _ _ h).elim
      · rename_i hm
        rw [if_neg hm]
        exact ⟨fun e1 e2 => do1_frame hq hd hrk (h.1 e1 e2), fun e1 => hun (h.2 e1)⟩
    · exact h.elim
theorem alS_free {aos : List AO} {k : Nat} {z : PV} {i : Nat} {x : AO} (hi : aos[i]? = some x) (hx : x.isAl = some k) {l : List Nat} (hne : ∀ j ∈ l, alNe aos j i = true) (h : freeB aos s l = true) : freeB aos (alS k z s) l = true := by
  simp only [freeB, List.all_eq_true] at h ⊢
  intro j hj
  have h1 := h j hj
  have h2 := hne j hj
  unfold alNe at h2
  rw [hi] at h2
  split
  · rename_i y hy
    rw [hy] at h1 h2
    simp only at h1 h2 ⊢
    split
    · rename_i b hb
      rw [hb] at h1 h2
      rw [hx] at h2
      simp only [bne_iff_ne, ne_eq] at h1 h2 ⊢
      simp only [alS]
      rw [get_put_ne _ _ _ _ (fun h => h2 h.symm)]
      exact h1
    · rfl
  · rfl
theorem fr_al {W : List Nat} {k : Nat} {z : PV} (hn : get s.bx k = none) : Fr W s (alS k z s) := by
  intro j b _ hb
  simp only [alS]
  rw [get_put_ne]
  · exact hb
  · rintro rfl; rw [hn] at hb; simp at hb
theorem fr_al2 {W : List Nat} {k : Nat} {z : PV} {t : St} (h : Fr W s t) : Fr W (alS k z s) (alS k z t) := by
  intro j b hw hb
  simp only [alS, get_put] at hb ⊢
  split
  · rename_i e; rw [if_pos e] at hb; exact hb
  · rename_i e; rw [if_neg e] at hb; exact h j b hw hb
theorem frontA {aos : List AO} {fl : Nat → Bool} {W : List Nat} {K : St → Prop} {i : Nat} {x : AO} (hi : aos[i]? = some x) (hx : x.quiet = false) (l2 : List Nat) : ∀ (l1 : List Nat) (s : St),
    (∀ j ∈ l1, pairOk aos fl j i = true) → (∀ j ∈ l1 ++ l2, alNe aos j i = true) → wpcx P aos fl W s (l1 ++ i :: l2) K → wpo P s x fun t => (fl i = true → Fr W s t) ∧ wpcx P aos fl W t (l1 ++ l2) K
  | [], s, _, _, h => by
    simp only [List.nil_append, wpcx, hi] at h
    have h := h.2
    unfold stepc at h
    rw [if_neg (by rw [hx]; simp)] at h
    exact h
  | j :: l1, s, hall, hne, h => by
    have hp := hall j (by simp)
    unfold pairOk at hp
    cases hy : aos[j]? with
    | none => rw [hy] at hp; simp at hp
    | some y =>
      rw [hy, hi] at hp
      simp only [List.cons_append, wpcx, hy] at h ⊢
      obtain ⟨hfr, h⟩ := h
      have hfr := free3 hfr
      rcases Bool.or_eq_true_iff.1 hp with hp | hp
      · simp only [Bool.and_eq_true, hx, Bool.false_or] at hp
        obtain ⟨⟨⟨hyq, hys⟩, hap⟩, hff⟩ := hp
        obtain ⟨e, he⟩ := Option.isSome_iff_exists.1 hys
        have h1 : e ∉ x.reads := by simp [AO.apart, he] at hap; exact hap.1.1
        have h2 : x.dst ≠ some e := by simp [AO.apart, he] at hap; exact hap.1.2
        have h3 : ∀ d, x.dst = some d → d ∉ y.reads := fun d hd => by simp [AO.apart, hd] at hap; exact hap.2
        rcases Bool.or_eq_true_iff.1 hff with hso | hff
        · obtain ⟨v, h, hv⟩ := stepc_q hyq h
          have ih := frontA hi hx l2 l1 _ (fun k hk => hall k (by simp [hk])) (fun k hk => hne k (by simp only [List.cons_append, List.mem_cons]; exact .inr hk)) h
          rw [he] at ih
          refine wpo_mono (fun t ht => ?_) (wpo_frame hx h2 h1 ih)
          obtain ⟨⟨hf, hk⟩, hkeep⟩ := ht
          refine ⟨fun hfi => fun k b hw hb => hf hfi k b hw hb, ?_, stepc_ofS (r := srcW W (fl j) s) hyq hso hv (fun n hn => ?_) (by rw [he]; exact hk)⟩
          · rw [freeB_cons, freeB_not hy (isAl_quiet hyq), Bool.true_and]
            have := wpcx_free hk
            rwa [freeB_bx (put_bx _ _)] at this
          · rw [srcW_env]; exact hkeep n (fun hd => h3 n hd hn)
        · obtain ⟨hfl, hfi⟩ := Bool.and_eq_true_iff.1 hff
          rw [hfl] at h ⊢
          obtain ⟨v, h, hv⟩ := stepc_q hyq h
          have ih := frontA hi hx l2 l1 _ (fun k hk => hall k (by simp [hk])) (fun k hk => hne k (by simp only [List.cons_append, List.mem_cons]; exact .inr hk)) h
          rw [he] at ih
          refine wpo_mono (fun t ht => ?_) (wpo_frame hx h2 h1 ih)
          obtain ⟨⟨hf, hk⟩, hkeep⟩ := ht
          have hf' : Fr W s t := fun k b hw hb => hf hfi k b hw hb
          refine ⟨fun _ => hf', ?_, stepc_of (r := s.less W) hyq (by simpa [srcW] using hv) (by simpa [srcW] using less_fr hf') (fun n hn => ?_) (by rw [he]; exact hk)⟩
          · rw [freeB_cons, freeB_not hy (isAl_quiet hyq), Bool.true_and]
            have := wpcx_free hk
            rwa [freeB_bx (put_bx _ _)] at this
          · exact hkeep n (fun hd => h3 n hd hn)
      · simp only [Bool.and_eq_true, Bool.not_eq_true'] at hp
        obtain ⟨⟨hyq, hya⟩, hp⟩ := hp
        split at hp
        case h_2 => simp at hp
        rename_i k hk
        simp only [Bool.and_eq_true, bne_iff_ne, ne_eq, Bool.not_eq_true', List.contains_eq_mem, decide_eq_false_iff_not] at hp
        obtain ⟨z, hdst, hal⟩ := wpo_isAl (P := P) hk
        have hn : get s.bx k = none := (freeB_one hi hk).1 hfr.2.2.1
        unfold stepc at h
        rw [if_neg (by rw [hyq]; simp)] at h
        have h' : wpo P s y fun t => get t.bx k = none ∧ (fun t' => (fl j = true → Fr W (alS k z s) t') ∧ wpcx P aos fl W t' (l1 ++ l2) K) (alS k z t) := by
          refine wpo_mono (fun t ht => ?_) h
          obtain ⟨hf, ht⟩ := ht
          have ih := frontA hi hx l2 l1 _ (fun k hk => hall k (by simp [hk])) (fun k hk => hne k (by simp only [List.cons_append, List.mem_cons]; exact .inr hk)) ht
          obtain ⟨i1, _, i3⟩ := (hal t _).1 ih
          exact ⟨i1, fun e => fr_al2 (hf e), i3⟩
        refine (hal s _).2 ⟨hn, fun _ => fr_al hn, ?_, ?_⟩
        · refine alS_free hi hk (fun m hm => hne m (by simpa using hm)) ?_
          exact free2 hfr.1 hfr.2.1 hfr.2.2.2
        · unfold stepc
          rw [if_neg (by rw [hyq]; simp)]
          exact wpo_al hya hp.1 hp.2 hn h'
end Go.Ab
namespace Go.Ab
variable [Tabs]
variable {P : Program} {nt : Nat} {ds : List Deferred} {s s' : St} {Γ : Cx} {a : Act} {w : World} {Q : Exit → Act → World → Prop} [YCtx]
def edgesOk (ops : Array Oper) : List Nat → List Nat → Bool
  | _, [] => true
  | done, i :: r => (match ops[i]? with | some o => (o.after.all fun e => !Region.binds .any e || done.contains e.on) | none => false) && edgesOk ops (i :: done) r
def pairsOk (ms : List Nat) (aos : List AO) (fl : Nat → Bool) : List Nat → Bool
  | [] => true
  | j :: r => (r.all fun i => j != i && alNe aos j i && (bef ms i j || pairOk aos fl j i)) && pairsOk ms aos fl r
def okDrawW (ops : Array Oper) (aos : List AO) (ord us : List Nat) : Bool :=
  edgesOk ops [] ord && pairsOk (masks ops.toList []) aos us.contains ord && ord.length == ops.size && (ord.all fun i => decide (i < ops.size)) && (List.range ops.size).all fun i => ord.contains i
theorem edgesOk_spec {ops : Array Oper} : ∀ (p : List Nat) (done : List Nat) {i : Nat} {q : List Nat}, edgesOk ops done (p ++ i :: q) = true → ∀ o, ops[i]? = some o → ∀ e ∈ o.after, Region.binds .any e = true → e.on ∈ done ∨ e.on ∈ p
  | [], done, i, q, h, o, ho, e, he, hb => by
    simp only [List.nil_append, edgesOk, ho, Bool.and_eq_true, Array.all_eq_true_iff_forall_mem] at h
    have := h.1 e he
    simp [hb] at this
    exact .inl this
  | x :: p, done, i, q, h, o, ho, e, he, hb => by
    simp only [List.cons_append, edgesOk, Bool.and_eq_true] at h
    rcases edgesOk_spec p (x :: done) h.2 o ho e he hb with h1 | h1
    · rcases List.mem_cons.1 h1 with h2 | h2
      · exact .inr (by simp [h2])
      · exact .inl h2
    · exact .inr (by simp [h1])
theorem pairsOk_spec {ms : List Nat} {aos : List AO} {fl : Nat → Bool} : ∀ {l : List Nat}, pairsOk ms aos fl l = true → l.Pairwise fun j i => (j ≠ i ∧ alNe aos j i = true) ∧ (bef ms i j = true ∨ pairOk aos fl j i = true)
  | [], _ => .nil
  | j :: r, h => by
    simp only [pairsOk, Bool.and_eq_true, List.all_eq_true] at h
    refine .cons (fun i hi => ?_) (pairsOk_spec h.2)
    have := h.1 i hi
    simpa using this
theorem alNe_symm {aos : List AO} {i j : Nat} (h : alNe aos i j = true) : alNe aos j i = true := by
  unfold alNe at *
  cases h1 : aos[i]? <;> cases h2 : aos[j]? <;> simp only [h1, h2] at h ⊢
  rename_i x y
  cases h3 : x.isAl <;> cases h4 : y.isAl <;> simp only [h3, h4, bne_iff_ne] at h ⊢
  exact fun e => h e.symm
theorem anyW {ro : Option Nat} {ops : Array Oper} {aos : List AO} {own sp : List Nat} {ord us : List Nat} {W : List Nat} (hop : ∀ (i : Nat) o, ops[i]? = some o → ∃ ao, aos[i]? = some ao ∧ trOper P nt ops own sp true o = some ao) (hok : okDrawW ops aos ord us = true) {K : St → Prop} :
    ∀ (n : Nat) (listed : Array Bool) {s : St} {Γ : Cx} {a : Act} {w : World}, listed.size = ops.size → Closed ops listed → (ord.filter fun i => !listed.getD i true).length = n →
      Sim nt ds s Γ a → w.heap = Γ.heap → YOk P Γ → wpcx P aos us.contains W s (ord.filter fun i => !listed.getD i true) K → Nxt P nt ds Γ w K (Q .normal) → wpAnyIn (FW ro) 0 P .any ops Q n listed a w := by
  simp only [okDrawW, Bool.and_eq_true, List.all_eq_true, decide_eq_true_eq, List.mem_range] at hok
  obtain ⟨⟨⟨⟨hE, hP⟩, _⟩, hlt⟩, hall⟩ := hok
  have hPw := pairsOk_spec hP
  have hfirst : ∀ listed : Array Bool, listed.size = ops.size → Region.ready .any ops listed = [] → (ord.filter fun i => !listed.getD i true) = [] := by
    intro listed hsz hr
    cases hl : ord.filter fun i => !listed.getD i true with
    | nil => rfl
    | cons i l =>
      exfalso
      obtain ⟨p, q, hord, hp, hi, _⟩ := List.filter_eq_cons_iff.1 hl
      have hio : i < ops.size := hlt i (by rw [hord]; simp)
      have : i ∈ Region.ready .any ops listed := by
        rw [mem_ready]
        refine ⟨by simpa using hi, ops[i], Array.getElem?_eq_getElem hio, fun e he hb => ?_⟩
        rw [hord] at hE
        rcases edgesOk_spec p [] hE _ (Array.getElem?_eq_getElem hio) e he hb with h1 | h1
        · simp at h1
        · have h2 := hp _ h1
          have h3 : e.on < listed.size := by rw [hsz]; exact hlt _ (by rw [hord]; simp [h1])
          simp [Array.getD_eq_getD_getElem?, Array.getElem?_eq_getElem h3] at h2 ⊢
          exact h2
      rw [hr] at this; simp at this
  intro n
  induction n with
  | zero =>
    intro listed s Γ a w hsz hc hn hs hw hY h hk
    have hl := List.length_eq_zero_iff.1 hn
    rw [hl] at h
    refine ⟨?_, hk _ _ _ _ hs hw (Le.refl Γ) (WF.refl w) h⟩
    rw [List.eq_nil_iff_forall_not_mem]
    intro i hi
    obtain ⟨h1, o, ho, _⟩ := mem_ready.1 hi
    have : i ∈ ord.filter fun i => !listed.getD i true := by
      rw [List.mem_filter]
      exact ⟨by simpa using hall i (Array.getElem?_eq_some_iff.1 ho).1, by rw [h1]; rfl⟩
    rw [hl] at this; simp at this
  | succ n ih =>
    intro listed s Γ a w hsz hc hn hs hw hY h hk
    refine ⟨fun hr => ?_, fun i hi => ?_⟩
    · rw [hfirst listed hsz hr] at hn; simp at hn
    · obtain ⟨hun, o, ho, hallE⟩ := mem_ready.1 hi
      have hlti := (Array.getElem?_eq_some_iff.1 ho).1
      obtain ⟨ao, hao, htr⟩ := hop i o ho
      have hmem : i ∈ ord.filter fun i => !listed.getD i true := by
        rw [List.mem_filter]; exact ⟨by simpa using hall i hlti, by rw [hun]; rfl⟩
      obtain ⟨l1, l2, hl⟩ := List.append_of_mem hmem
      have hpw : (l1 ++ i :: l2).Pairwise fun j i => (j ≠ i ∧ alNe aos j i = true) ∧ (bef (masks ops.toList []) i j = true ∨ pairOk aos us.contains j i = true) := by rw [← hl]; exact hPw.filter _
      have hnd : (l1 ++ i :: l2).Nodup := hpw.imp (fun h => h.1.1)
      have hrest : ord.filter (fun j => !(listed.setIfInBounds i true).getD j true) = l1 ++ l2 := by
        have e : (fun j => !(listed.setIfInBounds i true).getD j true) = fun j => (decide (j ≠ i)) && !listed.getD j true := by
          funext j
          by_cases hji : i = j
          · subst hji; simp [Array.getD_eq_getD_getElem?, Array.getElem?_setIfInBounds_self_of_lt (by omega : i < listed.size)]
          · rw [getD_set_ne true hji]; simp [Ne.symm hji]
        rw [e, ← List.filter_filter, hl, List.filter_append, List.filter_cons]
        simp only [ne_eq, not_true, decide_false, Bool.false_eq_true, if_false]
        have hn1 := List.nodup_append.1 hnd
        rw [List.filter_eq_self.2, List.filter_eq_self.2]
        · intro x hx; simp; rintro rfl; exact (List.nodup_cons.1 hn1.2.1).1 hx
        · intro x hx; simp; rintro rfl; exact hn1.2.2 x hx x (by simp) rfl
      rw [hl] at h hn
      have hpair : ∀ j ∈ l1, pairOk aos us.contains j i = true := by
        intro j hj
        have h1 := (List.pairwise_append.1 hpw).2.2 j hj i (by simp)
        rcases h1.2 with hb | hb
        · exfalso
          have hjm : j ∈ ord.filter fun i => !listed.getD i true := by rw [hl]; simp [hj]
          obtain ⟨hjo, hju⟩ := List.mem_filter.1 hjm
          have := bef_ready hc (bef_spec hb) hi
          have hjl : j < listed.size := by rw [hsz]; exact hlt j hjo
          simp [Array.getD_eq_getD_getElem?, Array.getElem?_eq_getElem hjl] at this hju
          rw [this] at hju; simp at hju
        · exact hb
      have hne : ∀ j ∈ l1 ++ l2, alNe aos j i = true := by
        intro j hj
        rcases List.mem_append.1 hj with hj | hj
        · exact ((List.pairwise_append.1 hpw).2.2 j hj i (by simp)).1.2
        · have h1 := (List.rel_of_pairwise_cons (List.pairwise_append.1 hpw).2.1 hj).1.2
          exact alNe_symm h1
      have hf : wpo P s ao fun t => wpcx P aos us.contains W t (l1 ++ l2) K := by
        cases hx : ao.quiet with
        | true =>
          obtain ⟨v, h1, h2⟩ := frontQ hao hx l2 l1 s hpair h
          exact h2 s (fun _ _ h => h) (fun _ _ => rfl) _ h1
        | false => exact wpo_mono (fun t ht => ht.2) (frontA hao hx l2 l1 s hpair hne h)
      refine wpo_sound ho htr hs hw hY hf ?_
      intro s' Γ' a' w' b1 b2 b3 b4 b5
      refine ih (listed.setIfInBounds i true) (by simp [hsz]) ?_ (by rw [hrest]; simp at hn ⊢; omega) b1 b2 (hY.le b3) (by rw [hrest]; exact b5) (hk.trans b3 b4)
      intro k ok hok2 hkl e he hb
      by_cases hki : i = k
      · subst hki; rw [ho] at hok2; cases hok2; exact getD_set_true (hallE e he hb)
      · rw [getD_set_ne true hki] at hkl; exact getD_set_true (hc k ok hok2 hkl e he hb)
theorem region_drawW_sound {ro : Option Nat} {ops : Array Oper} {aos : List AO} {own sp : List Nat} {ord us : List Nat} {id : Nat} (hm : P.follows .mixedOrders = true) (ht : trOpers P nt ops own sp true ops.toList = some aos) (hok : okDrawW ops aos ord us = true) {K : St → Prop} (hs : Sim nt ds s Γ a) (hw : w.heap = Γ.heap)
    (hY : YOk P Γ) (h : ∃ W, wpcx P aos us.contains W s ord K) (hk : Nxt P nt ds Γ w K (Q .normal)) : (Code.region id ops true).wpIn (FW ro) 0 P Q a w := by
  obtain ⟨W, h⟩ := h
  obtain ⟨h1, h2⟩ := trOpers_at ht
  have hok' := hok
  simp only [okDrawW, Bool.and_eq_true, List.all_eq_true, decide_eq_true_eq, List.mem_range, beq_iff_eq] at hok'
  have e : (ord.filter fun i => !(Array.replicate ops.size false).getD i true) = ord := by
    rw [List.filter_eq_self]
    intro i hi
    have := hok'.1.2 i hi
    simp [Array.getD_eq_getD_getElem?, this]
  refine wpIn_region_any hm (anyW (s := s) (Γ := Γ) (K := K) (W := W) (fun i o hi => h2 i o (by simpa using hi)) hok _ _ (by simp) ?_ (by rw [e]; exact hok'.1.1.2) hs hw hY (by rw [e]; exact h) ?_)
  · intro k o hko hl
    have := (Array.getElem?_eq_some_iff.1 hko).1
    simp [Array.getD_eq_getD_getElem?, this] at hl
  · intro s' Γ' a' w' b1 b2 b3 b4 b5
    exact hk s' Γ' a' w' b1 b2 b3 ⟨b4.os, b4.tape, b4.output⟩ b5
def readyB (ops : Array Oper) (done : List Nat) (i : Nat) : Bool := !done.contains i && match ops[i]? with | some o => o.after.all fun e => !Region.binds .any e || done.contains e.on | none => false
def quietB (aos : List AO) (i : Nat) : Bool := match aos[i]? with | some x => x.quiet | none => false
def plan (ops : Array Oper) (aos : List AO) : Nat → List Nat → List Nat
  | 0, done => done.reverse
  | n + 1, done => match (List.range ops.size).find? (fun i => readyB ops done i && quietB aos i) with
    | some i => plan ops aos n (i :: done)
    | none => match (List.range ops.size).find? (readyB ops done) with
      | some i => plan ops aos n (i :: done)
      | none => done.reverse
def soB (aos : List AO) (i : Nat) : Bool := match aos[i]? with | some x => x.slotOnly | none => false
def early (ms : List Nat) (aos : List AO) : List Nat → List Nat
  | [] => []
  | j :: r => if (quietB aos j && !soB aos j && r.any fun i => !quietB aos i && !bef ms i j) = true then j :: early ms aos r else early ms aos r
def planOf (ops : Array Oper) (aos : List AO) : List Nat := plan ops aos ops.size []
def actOf (ms : List Nat) (aos : List AO) : List Nat → List Nat → List Nat
  | _, [] => []
  | done, i :: r => if (!quietB aos i && done.any fun j => quietB aos j && !soB aos j && !bef ms i j) = true then i :: actOf ms aos (i :: done) r else actOf ms aos (i :: done) r
def earlyOf (ops : Array Oper) (aos : List AO) : List Nat := early (masks ops.toList []) aos (planOf ops aos) ++ actOf (masks ops.toList []) aos [] (planOf ops aos)
end Go.Ab
namespace Go.Ab
variable [Tabs]
variable {P : Program} {nt : Nat} {ds : List Deferred} {s : St} {Γ Δ : Cx} {a : Act} {w : World}
mutual
def frz (k sz : Nat) (l0 : List PV) : PV → PV
  | .rs k' p off len tot sz' c => if k' = k then (if tot = l0.length ∧ p = [] ∧ sz' = sz ∧ off + len ≤ l0.length then .sl sz ((l0.drop off).take len) (decide (c = .clip)) else .un) else .rs k' p off len tot sz' c
  | .pt k' p tot => if k' = k then (if tot = l0.length then .fp sz l0 p else .un) else .pt k' p tot
  | .st w l => .st w (frzL k sz l0 l)
  | .ar z n l => .ar z n (frzL k sz l0 l)
  | .tup l => .tup (frzL k sz l0 l)
  | .sl z l c => .sl z (frzL k sz l0 l) c
  | .fp z l p => .fp z (frzL k sz l0 l) p
  | .fn f x y => .fn f (frzL k sz l0 x) (frzL k sz l0 y)
  | .gd b p => .gd b (frz k sz l0 p)
  | .ifc t p => .ifc t (frz k sz l0 p)
  | p => p
def frzL (k sz : Nat) (l0 : List PV) : List PV → List PV
  | [] => []
  | p :: l => frz k sz l0 p :: frzL k sz l0 l
end
def frzB (k sz : Nat) (l0 : List PV) : Blk → Blk
  | .box v => .box (frz k sz l0 v)
  | .arr z l => .arr z (frzL k sz l0 l)
  | .map b ks vs l => .map b ks vs l
variable {k sz : Nat} {l0 : List PV}
theorem frz_width (p : PV) : (frz k sz l0 p).width = p.width := by
  cases p <;> simp only [frz] <;> (try split) <;> (try split) <;> simp [PV.width]
theorem frz_isAgg (p : PV) : (frz k sz l0 p).isAgg = p.isAgg := by
  cases p <;> simp only [frz] <;> (try split) <;> (try split) <;> simp [PV.isAgg]
theorem frzL_length (l : List PV) : (frzL k sz l0 l).length = l.length := by induction l <;> simp [frzL, *]
theorem frzL_mem {l : List PV} {q : PV} (h : q ∈ frzL k sz l0 l) : ∃ p ∈ l, q = frz k sz l0 p := by
  induction l with
  | nil => simp [frzL] at h
  | cons x l ih =>
    simp only [frzL, List.mem_cons] at h
    rcases h with h | h
    · exact ⟨x, by simp, h⟩
    · obtain ⟨p, hp, e⟩ := ih h; exact ⟨p, by simp [hp], e⟩
theorem frzB_tot (b : Blk) : (frzB k sz l0 b).tot = b.tot := by cases b <;> simp [frzB, Blk.tot, frzL_length]
mutual
theorem frz_id : ∀ p, refsOk (fun j => decide (j ≠ k)) p = true → frz k sz l0 p = p
  | .rs k' _ _ _ _ _ _, hp => by simp only [refsOk, decide_eq_true_eq] at hp; simp [frz, hp]
  | .pt k' _ _, hp => by simp only [refsOk, decide_eq_true_eq] at hp; simp [frz, hp]
  | .st _ l, hp => by simp only [refsOk] at hp; simp [frz, frzL_id l hp]
  | .ar _ _ l, hp => by simp only [refsOk] at hp; simp [frz, frzL_id l hp]
  | .tup l, hp => by simp only [refsOk] at hp; simp [frz, frzL_id l hp]
  | .sl _ l _, hp => by simp only [refsOk] at hp; simp [frz, frzL_id l hp]
  | .fp _ l _, hp => by simp only [refsOk] at hp; simp [frz, frzL_id l hp]
  | .fn _ x y, hp => by simp only [refsOk, Bool.and_eq_true] at hp; simp [frz, frzL_id x hp.1, frzL_id y hp.2]
  | .gd _ p, hp => by simp only [refsOk] at hp; simp [frz, frz_id p hp]
  | .ifc _ p, hp => by simp only [refsOk] at hp; simp [frz, frz_id p hp]
  | .un, _ => by simp [frz]
  | .bl _, _ => by simp [frz]
  | .int _ _, _ => by simp [frz]
  | .str _, _ => by simp [frz]
  | .np, _ => by simp [frz]
  | .nf, _ => by simp [frz]
  | .ni, _ => by simp [frz]
  | .mp .., _ => by simp [frz]
theorem frzL_id : ∀ l, refsOkL (fun j => decide (j ≠ k)) l = true → frzL k sz l0 l = l
  | [], _ => rfl
  | p :: l, hp => by simp only [refsOkL, Bool.and_eq_true] at hp; simp [frzL, frz_id p hp.1, frzL_id l hp.2]
end
structure Frz (Γ Δ : Cx) (k sz : Nat) (l0 : List PV) : Prop where
  heap : Δ.heap = Γ.heap
  own : ∀ b, b < Γ.heap.size → ¬ Γ.own b → ¬ Δ.own b
  ref : ∀ k' blk, k' ≠ k → get Γ.bx k' = some blk → ∃ blk', get Δ.bx k' = some blk' ∧ blk'.tot = blk.tot ∧ Δ.ι k' = Γ.ι k'
  here : ∀ blk, get Γ.bx k = some blk → blk = .arr sz l0
  wd : ∀ x ∈ l0, x.width = sz
  cells : ∀ b, Γ.ι k = some b → b < Γ.heap.size ∧ ¬ Δ.own b ∧ ∃ c e cs rest, Γ.heap[b]? = some (.cells c e (0, 0)) ∧ c.toList = cs ++ rest ∧ RepL Δ l0 cs
theorem RepL.frz (hf : Frz Γ Δ k sz l0) {l : List PV} {cs : List Value} (h : RepL Γ l cs) : RepL Δ (frzL k sz l0 l) cs := by
  induction h with
  | nil => exact .nil
  | un h hr ih => exact .un h ih
  | bl x hr ih => exact .bl x ih
  | int k n hr ih => exact .int k n ih
  | str l s h hr ih => exact .str l s h ih
  | st w l hl hw hr ihl ih => exact .st w _ ihl hw ih
  | ar z n l hl hn hw hr ihl ih =>
    refine .ar z n _ ihl (by rw [frzL_length]; exact hn) (fun x hx => ?_) ih
    obtain ⟨p, hp, rfl⟩ := frzL_mem hx
    rw [frz_width]; exact hw p hp
  | sl z l clip ad rcap hl hw hc hk hb hr ihl ih =>
    have := RepL.sl (Γ := Δ) z (frzL k sz l0 l) clip ad rcap ihl (fun x hx => by obtain ⟨p, hp, rfl⟩ := frzL_mem hx; rw [frz_width]; exact hw p hp) (by rw [frzL_length]; exact hc) (by rw [frzL_length]; exact hk)
      (fun hne => by
        obtain ⟨b, o, h1, h2, h3, h4⟩ := hb (by intro h; subst h; simp [frzL] at hne)
        exact ⟨b, o, h1, by rw [hf.heap]; exact h2, hf.own b h2 h3, by rw [hf.heap]; exact h4⟩) ih
    rw [frzL_length] at this
    exact this
  | rs k' p off len tot sz' c v blk hg h1 hv hr ih =>
    simp only [frzL, Ab.frz]
    by_cases hk : k' = k
    · rw [if_pos hk]
      subst hk
      have hblk := hf.here blk hg.1
      subst hblk
      split
      · rename_i hc
        obtain ⟨ht, hp, hsz, hle⟩ := hc
        subst hp hsz
        obtain ⟨ad, rcap, rfl, hrs⟩ := hv (by simpa [Blk.tot] using ht)
        have hlen : ((l0.drop off).take len).length = len := by simp; omega
        unfold RsOk at hrs
        cases hι : Γ.ι k' with
        | none =>
          rw [hι] at hrs
          obtain ⟨rfl, rfl⟩ := hrs
          have := RepL.sl (Γ := Δ) sz' ((l0.drop off).take 0) (decide (c = .clip)) ad 0 (cs := []) (by simpa using RepL.nil) (by simp) (by simp) (by simp) (by simp) ih
          simpa using this
        | some b =>
          rw [hι] at hrs
          obtain ⟨hlr, had, hcl, _⟩ := hrs
          obtain ⟨hb1, hb2, cc, e, cs, rest, hh, hcs, hrl⟩ := hf.cells b hι
          have hr2 := (hrl.dropU hf.wd off (by omega)).takeU (fun x hx => hf.wd x (List.mem_of_mem_drop hx)) len (by simp; omega)
          have hcl2 : cs.length = l0.length * sz' := by rw [hrl.length, widths_const hf.wd]
          have := RepL.sl (Γ := Δ) sz' ((l0.drop off).take len) (decide (c = .clip)) ad rcap hr2 (fun x hx => hf.wd x (List.mem_of_mem_drop (List.mem_of_mem_take hx))) (by rw [hlen]; exact hlr) (by rw [hlen]; simpa using hcl)
            (fun hne => by
              have hlen0 : len ≠ 0 := by rintro rfl; simp at hne
              refine ⟨b, off * sz', ?_, by rw [hf.heap]; exact hb1, hb2, fun i x hi => ?_⟩
              · rcases had with h | h
                · omega
                · simpa [poff] using h
              · rw [List.getElem?_take] at hi
                split at hi
                · rw [List.getElem?_drop] at hi
                  simp only [cell, hf.heap, hh]
                  rw [← Array.getElem?_toList, hcs]
                  have hlt := (List.getElem?_eq_some_iff.1 hi).1
                  rw [List.getElem?_append_left hlt]; exact hi
                · simp at hi) ih
          rw [hlen] at this
          exact this
      · exact .un h1 ih
    · rw [if_neg hk]
      obtain ⟨blk', g1, g2, g3⟩ := hf.ref k' blk hk hg.1
      refine .rs k' p off len tot sz' c v blk' ⟨g1, by rw [g2]; exact hg.2⟩ h1 (fun ht => ?_) ih
      obtain ⟨ad, rcap, e1, e2⟩ := hv (by rw [ht, g2])
      exact ⟨ad, rcap, e1, e2.ren g3 hf.heap⟩
  | np hr ih => exact .np ih
  | pt k' p tot v blk hg h1 hv hr ih =>
    simp only [frzL, Ab.frz]
    by_cases hk : k' = k
    · rw [if_pos hk]
      subst hk
      have hblk := hf.here blk hg.1
      subst hblk
      split
      · rename_i ht
        obtain ⟨b, hι, rfl⟩ := hv (by simpa [Blk.tot] using ht)
        obtain ⟨hb1, hb2, cc, e, cs, rest, hh, hcs, hrl⟩ := hf.cells b hι
        have := RepL.fp (Γ := Δ) sz l0 p b 0 hrl hf.wd ⟨by rw [hf.heap]; exact hb1, hb2⟩ (fun i x hi => by
          simp only [cell, hf.heap, hh]
          rw [← Array.getElem?_toList, hcs, Nat.zero_add]
          have hlt := (List.getElem?_eq_some_iff.1 hi).1
          rw [List.getElem?_append_left hlt]; exact hi) ih
        simpa using this
      · exact .un h1 ih
    · rw [if_neg hk]
      obtain ⟨blk', g1, g2, g3⟩ := hf.ref k' blk hk hg.1
      refine .pt k' p tot v blk' ⟨g1, by rw [g2]; exact hg.2⟩ h1 (fun ht => ?_) ih
      obtain ⟨b, e1, e2⟩ := hv (by rw [ht, g2])
      exact ⟨b, by rw [g3, e1], e2⟩
  | fp z l p b o hl hw hm hc hr ihl ih =>
    exact .fp z _ p b o ihl (fun x hx => by obtain ⟨p, hp, rfl⟩ := frzL_mem hx; rw [frz_width]; exact hw p hp) ⟨by rw [hf.heap]; exact hm.1, hf.own b hm.1 hm.2⟩ (by rw [hf.heap]; exact hc) ih
  | fn g first cap h1 h2 h3 h4 hr i1 i2 ih =>
    exact .fn g _ _ i1 i2 (fun x hx => by obtain ⟨p, hp, rfl⟩ := frzL_mem hx; rw [frz_isAgg]; exact h3 p hp) (fun x hx => by obtain ⟨p, hp, rfl⟩ := frzL_mem hx; rw [frz_isAgg]; exact h4 p hp) ih
  | nf hr ih => exact .nf ih
  | ifc t v h1 h2 hr i1 ih =>
    simp only [frzL] at i1
    exact .ifc t _ i1 (by rw [frz_isAgg]; exact h2) ih
  | ni hr ih => exact .ni ih
  | mp k b hr ih => exact .mp k b ih
theorem RepL.frz1 (hf : Frz Γ Δ k sz l0) {p : PV} {cs : List Value} (h : RepL Γ [p] cs) : RepL Δ [Ab.frz k sz l0 p] cs := by
  have := h.frz hf
  simpa only [frzL] using this
theorem RepL.toV1 {p : PV} {v : Value} (h : RepL Γ [p] [v]) (ha : p.isAgg = false) : RepV1 Γ p v := by
  cases p <;> simp [PV.isAgg] at ha <;> first | (simp only [RepV1]; done) | (simp only [RepV1]; exact h)
theorem RepV1.frz (hf : Frz Γ Δ k sz l0) {p : PV} {v : Value} (h : RepV1 Γ p v) : RepV1 Δ (Ab.frz k sz l0 p) v := by
  cases p
  case un => trivial
  case st w l => obtain ⟨cs, h1, h2⟩ := h; exact ⟨cs, h1, h2.frz1 hf⟩
  case ar z n l => obtain ⟨cs, h1, h2⟩ := h; exact ⟨cs, h1, h2.frz1 hf⟩
  case rs => exact (RepL.frz1 hf h).toV1 (by rw [frz_isAgg]; rfl)
  case pt => exact (RepL.frz1 hf h).toV1 (by rw [frz_isAgg]; rfl)
  all_goals exact RepL.frz1 hf h
theorem RepV.frz (hf : Frz Γ Δ k sz l0) : ∀ {p : PV} {v : Value}, RepV Γ p v → RepV Δ (Ab.frz k sz l0 p) v := by
  have h2 : ∀ {l : List PV} {vs : List Value}, AllV Γ l vs → AllV Δ (frzL k sz l0 l) vs := by
    intro l
    induction l with
    | nil => intro vs h; cases vs <;> simp_all [AllV, frzL]
    | cons p l ih =>
      intro vs h
      cases vs with
      | nil => simp [AllV] at h
      | cons v vs => simp only [AllV, frzL] at h ⊢; exact ⟨h.1.frz hf, ih h.2⟩
  intro p
  induction p using PV.rec (motive_2 := fun _ => True) with
  | gd b p ih => intro v h; simp only [Ab.frz]; rw [RepV] at h ⊢; exact ⟨fun hb => ih (h.1 hb), h.2⟩
  | tup l => intro v h; simp only [RepV, Ab.frz] at h ⊢; obtain ⟨vs, e, h⟩ := h; exact ⟨vs, e, h2 h⟩
  | un => intro v h; simp [RepV, Ab.frz]
  | st w l => intro v h; obtain ⟨cs, e, h⟩ := h; exact ⟨cs, e, h.frz1 hf⟩
  | ar z n l => intro v h; obtain ⟨cs, e, h⟩ := h; exact ⟨cs, e, h.frz1 hf⟩
  | nil => trivial
  | cons => trivial
  | rs => intro v h; exact (RepL.frz1 hf h).toV (by rw [frz_isAgg]; rfl)
  | pt => intro v h; exact (RepL.frz1 hf h).toV (by rw [frz_isAgg]; rfl)
  | _ => intro v h; exact RepL.frz1 hf h
theorem Blk.Rep.frz (hf : Frz Γ Δ k sz l0) {blk : Blk} {ob : Option Nat} (h : blk.Rep Γ ob) : (frzB k sz l0 blk).Rep Δ ob := by
  cases blk with
  | box v =>
    obtain ⟨b, c, e, h1, h2, h3⟩ := h
    exact ⟨b, c, e, h1, by rw [hf.heap]; exact h2, h3.frz1 hf⟩
  | arr z l =>
    obtain ⟨h1, h2, h3⟩ := h
    refine ⟨fun x hx => by obtain ⟨p, hp, rfl⟩ := frzL_mem hx; rw [frz_width]; exact h1 p hp, h2, ?_⟩
    cases ob with
    | none => trivial
    | some b =>
      obtain ⟨c, e, cs, rest, h4, h5, h6⟩ := h3
      exact ⟨c, e, cs, rest, by rw [hf.heap]; exact h4, h5, h6.frz hf⟩
  | map b ks vs l =>
    obtain ⟨h1, h2⟩ := h
    exact ⟨h1, by rw [hf.heap]; exact h2⟩
end Go.Ab
namespace Go.Ab
variable [Tabs]
variable {P : Program} {nt : Nat} {ds : List Deferred} {s : St} {Γ Δ Γ0 : Cx} {a : Act} {w : World} {k sz : Nat} {l0 : List PV}
def del {α : Type} : List (Nat × α) → Nat → List (Nat × α)
  | [], _ => []
  | (j, v) :: r, k => if j = k then del r k else (j, v) :: del r k
def mapV {α : Type} (f : α → α) : List (Nat × α) → List (Nat × α)
  | [] => []
  | (j, v) :: r => (j, f v) :: mapV f r
def keepL {α : Type} (sl : List Nat) : List (Nat × α) → List (Nat × α)
  | [] => []
  | (j, v) :: r => if sl.contains j = true then (j, v) :: keepL sl r else keepL sl r
theorem get_del {α : Type} (l : List (Nat × α)) (k j : Nat) : get (del l k) j = if j = k then none else get l j := by
  induction l with
  | nil => simp [del, get]
  | cons x r ih =>
    obtain ⟨i, v⟩ := x
    simp only [del]
    split
    · rename_i h; subst h; rw [ih]; simp only [get]; split
      · rfl
      · rename_i h2; rw [if_neg (fun e => h2 e.symm)]
    · simp only [get, ih]
      split
      · rename_i h h2; subst h2; rw [if_neg h]
      · rfl
theorem get_mapV {α : Type} (f : α → α) (l : List (Nat × α)) (j : Nat) : get (mapV f l) j = (get l j).map f := by
  induction l with
  | nil => rfl
  | cons x r ih => obtain ⟨i, v⟩ := x; simp only [mapV, get, ih]; split <;> rfl
theorem get_keepL {α : Type} (sl : List Nat) (l : List (Nat × α)) (j : Nat) {v : α} (h : get (keepL sl l) j = some v) : get l j = some v := by
  induction l with
  | nil => simp [keepL, get] at h
  | cons x r ih =>
    obtain ⟨i, u⟩ := x
    simp only [keepL] at h
    split at h
    · simp only [get] at h ⊢
      split
      · rename_i h2; rw [if_pos h2] at h; exact h
      · rename_i h2; rw [if_neg h2] at h; exact ih h
    · rename_i hc
      have h3 := ih h
      simp only [get]
      split
      · rename_i h2; subst h2
        exfalso
        have : ∀ r : List (Nat × α), get (keepL sl r) i = none := by
          intro r
          induction r with
          | nil => rfl
          | cons y r ih2 =>
            obtain ⟨m, q⟩ := y
            simp only [keepL]
            split
            · rename_i h4
              simp only [get]
              rw [if_neg (by rintro rfl; exact hc h4)]; exact ih2
            · exact ih2
        rw [this] at h; simp at h
      · exact h3
def HK (Γ : Cx) : Prop := ∀ k blk, get Γ.bx k = some blk → KB ≤ k
def Gives (nt : Nat) (ds : List Deferred) (Γ0 Γ : Cx) (a : Act) (K : St → Prop) : Prop := ∃ s' Γ', Sim nt ds s' Γ' a ∧ Γ'.heap = Γ.heap ∧ Le Γ0 Γ' ∧ K s'
theorem same_del (hm : Mem Γ) (f : Blk → Blk) (hft : ∀ b, (f b).tot = b.tot) : Same (fun j => decide (j ≠ k)) id Γ { Γ with bx := mapV f (del Γ.bx k) } where
  heap := rfl
  own b _ hn := by
    rintro (⟨j, blk, h1, h2⟩ | h)
    · simp only [get_mapV, get_del] at h1
      split at h1
      · simp at h1
      · obtain ⟨b0, g1, _⟩ := Option.map_eq_some_iff.1 h1
        exact hn (.inl ⟨j, b0, g1, h2⟩)
    · exact hn (.inr h)
  ref j blk hj hb := by
    simp only [decide_eq_true_eq] at hj
    exact ⟨f blk, by simp [get_mapV, get_del, hj, hb], hft _, rfl⟩
theorem renL_id' {f : Nat → Bool} {l : List PV} (h : refsOkL f l = true) : renL id l = l := renL_id (f := f) (fun _ _ => rfl) l h
theorem ren_id' {f : Nat → Bool} {p : PV} (h : refsOk f p = true) : ren id p = p := ren_id (f := f) (fun _ _ => rfl) p h
theorem le_del (hle : Le Γ0 Γ) (hk0 : HK Γ0) (hkb : k < KB) (f : Blk → Blk) (hft : ∀ b, (f b).tot = b.tot) : Le Γ0 { Γ with bx := mapV f (del Γ.bx k) } where
  heap := hle.heap
  mutb b hb h := by
    obtain ⟨j, blk, h1, h2⟩ := h
    simp only [get_mapV, get_del] at h1
    split at h1
    · simp at h1
    · obtain ⟨b0, g1, _⟩ := Option.map_eq_some_iff.1 h1
      exact hle.mutb b hb ⟨j, b0, g1, h2⟩
  prot := hle.prot
  size := hle.size
  ref j blk hj := by
    obtain ⟨blk', h1, h2, h3⟩ := hle.ref j blk hj
    have := hk0 j blk hj
    have hne : j ≠ k := by omega
    exact ⟨f blk', by simp [get_mapV, get_del, hne, h1], by rw [hft]; exact h2, fun ht => h3 (by rw [← ht, hft])⟩
theorem frz_of (hm : Mem Γ) (hg : get Γ.bx k = some (.arr sz l0)) (hr : refsOkL (fun j => decide (j ≠ k)) l0 = true) : Frz Γ { Γ with bx := mapV (frzB k sz l0) (del Γ.bx k) } k sz l0 where
  heap := rfl
  own := (same_del hm _ frzB_tot).own
  ref j blk hj hb := by
    obtain ⟨b', h1, h2, h3⟩ := (same_del (k := k) hm _ (frzB_tot (k := k) (sz := sz) (l0 := l0))).ref j blk (by simpa using hj) hb
    exact ⟨b', h1, h2, h3⟩
  here blk hb := by rw [hg] at hb; exact (Option.some.inj hb).symm
  wd := (hm.blk k _ hg).1
  cells b hb := by
    have h := hm.blk k _ hg
    obtain ⟨h1, h2, h3⟩ := h
    rw [hb] at h3
    obtain ⟨c, e, cs, rest, h4, h5, h6⟩ := h3
    refine ⟨lt_of_get h4, ?_, c, e, cs, rest, h4, h5, ?_⟩
    · rintro (⟨j, blk, g1, g2⟩ | g)
      · simp only [get_mapV, get_del] at g1
        split at g1
        · simp at g1
        · rename_i hne
          obtain ⟨b0, g3, _⟩ := Option.map_eq_some_iff.1 g1
          exact hne (hm.inj j k b (by simp [g3]) (by simp [hg]) g2 hb)
      · exact hm.apart b ⟨k, _, hg, hb⟩ g
    · have := h6.ren (same_del (k := k) hm _ (frzB_tot (k := k) (sz := sz) (l0 := l0))) hr
      rwa [renL_id' hr] at this
theorem mem_del (hm : Mem Γ) (f : Blk → Blk) (hf : ∀ j blk, j ≠ k → get Γ.bx j = some blk → (f blk).Rep { Γ with bx := mapV f (del Γ.bx k) } (Γ.ι j)) : Mem { Γ with bx := mapV f (del Γ.bx k) } where
  blk j blk hb := by
    simp only [get_mapV, get_del] at hb
    split at hb
    · simp at hb
    · rename_i hne
      obtain ⟨b0, g1, rfl⟩ := Option.map_eq_some_iff.1 hb
      exact hf j b0 hne g1
  inj i j b hi hj h1 h2 := by
    have : ∀ x, (get (mapV f (del Γ.bx k)) x).isSome = true → (get Γ.bx x).isSome = true := by
      intro x hx
      simp only [get_mapV, get_del] at hx
      split at hx
      · simp at hx
      · simpa using hx
    exact hm.inj i j b (this i hi) (this j hj) h1 h2
  prot := hm.prot
  apart b h hp := by
    refine hm.apart b ?_ hp
    obtain ⟨j, blk, h1, h2⟩ := h
    simp only [get_mapV, get_del] at h1
    split at h1
    · simp at h1
    · obtain ⟨b0, g1, _⟩ := Option.map_eq_some_iff.1 h1
      exact ⟨j, b0, g1, h2⟩
  tab b cs h := by
    obtain ⟨h1, h2⟩ := hm.tab b cs h
    refine ⟨fun hb => h1 ?_, h2⟩
    obtain ⟨j, blk, h1, h2⟩ := hb
    simp only [get_mapV, get_del] at h1
    split at h1
    · simp at h1
    · obtain ⟨b0, g1, _⟩ := Option.map_eq_some_iff.1 h1
      exact ⟨j, b0, g1, h2⟩
def fz1 (k : Nat) (s : St) (K : St → Prop) : Prop :=
  match get s.bx k with
  | some (.arr sz l) => (refsOkL (fun j => decide (j ≠ k)) l = true ∧ k < KB) ∧ K { env := mapV (frz k sz l) s.env, bx := mapV (frzB k sz l) (del s.bx k) }
  | _ => False
theorem fz1_sound {K : St → Prop} (hs : Sim nt ds s Γ a) (hle : Le Γ0 Γ) (hk0 : HK Γ0) (h : fz1 k s K) : Gives nt ds Γ0 Γ a K := by
  unfold fz1 at h
  split at h
  · rename_i sz l hg
    obtain ⟨⟨hr, hkb⟩, hK⟩ := h
    rw [← hs.bx] at hg
    have hf := frz_of hs.mem hg hr
    refine ⟨_, { Γ with bx := mapV (frzB k sz l) (del Γ.bx k) }, ⟨by simp [hs.bx], hs.size, hs.defers, fun j p hj => ?_, mem_del hs.mem _ (fun j blk hne hb => (hs.mem.blk j blk hb).frz hf)⟩, rfl, le_del hle hk0 hkb _ frzB_tot, hK⟩
    simp only [get_mapV] at hj
    obtain ⟨q, g1, rfl⟩ := Option.map_eq_some_iff.1 hj
    exact (hs.env j q g1).frz hf
  · exact h.elim
def refsEnv (f : Nat → Bool) : List (Nat × PV) → Bool
  | [] => true
  | (_, p) :: r => refsOk f p && refsEnv f r
def refsBx (f : Nat → Bool) : List (Nat × Blk) → Bool
  | [] => true
  | (_, b) :: r => refsOkB f b && refsBx f r
theorem refsEnv_get {f : Nat → Bool} : ∀ {l : List (Nat × PV)} {j : Nat} {p : PV}, refsEnv f l = true → get l j = some p → refsOk f p = true
  | [], _, _, _, h => by simp [get] at h
  | (i, q) :: r, j, p, hr, h => by
    simp only [refsEnv, Bool.and_eq_true] at hr
    simp only [get] at h
    split at h
    · cases h; exact hr.1
    · exact refsEnv_get hr.2 h
theorem refsBx_get {f : Nat → Bool} : ∀ {l : List (Nat × Blk)} {j : Nat} {p : Blk}, refsBx f l = true → get l j = some p → refsOkB f p = true
  | [], _, _, _, h => by simp [get] at h
  | (i, q) :: r, j, p, hr, h => by
    simp only [refsBx, Bool.and_eq_true] at hr
    simp only [get] at h
    split at h
    · cases h; exact hr.1
    · exact refsBx_get hr.2 h
theorem mapV_id {α : Type} : ∀ l : List (Nat × α), mapV id l = l
  | [] => rfl
  | (j, v) :: r => by simp [mapV, mapV_id r]
def dr1 (k : Nat) (s : St) (K : St → Prop) : Prop :=
  (refsEnv (fun j => decide (j ≠ k)) s.env = true ∧ refsBx (fun j => decide (j ≠ k)) (del s.bx k) = true ∧ k < KB) ∧ K { s with bx := del s.bx k }
theorem renB_id' {f : Nat → Bool} {b : Blk} (h : refsOkB f b = true) : renB id b = b := by
  cases b with
  | box v => simp only [renB, ren_id' (f := f) h]
  | arr sz l => simp only [renB, renL_id' (f := f) h]
  | map b ks vs l => rfl
theorem dr1_sound {K : St → Prop} (hs : Sim nt ds s Γ a) (hle : Le Γ0 Γ) (hk0 : HK Γ0) (h : dr1 k s K) : Gives nt ds Γ0 Γ a K := by
  obtain ⟨⟨h1, h2, h3⟩, hK⟩ := h
  have hsame := same_del (k := k) hs.mem id (fun _ => rfl)
  refine ⟨_, { Γ with bx := mapV id (del Γ.bx k) }, ⟨by simp [hs.bx, mapV_id], hs.size, hs.defers, fun j p hj => ?_, mem_del hs.mem _ (fun j blk hne hb => ?_)⟩, rfl, le_del hle hk0 h3 _ (fun _ => rfl), hK⟩
  · have hr := refsEnv_get h1 hj
    have := (hs.env j p hj).ren hsame hr
    rwa [ren_id' hr] at this
  · have hr : refsOkB (fun j => decide (j ≠ k)) blk = true := by
      refine refsBx_get (j := j) h2 ?_
      rw [get_del, if_neg hne, ← hs.bx]; exact hb
    have := (hs.mem.blk j blk hb).ren hsame hr
    rwa [renB_id' hr] at this
theorem keep_sound {K : St → Prop} {sl : List Nat} (hs : Sim nt ds s Γ a) (hle : Le Γ0 Γ) (h : K { s with env := keepL sl s.env }) : Gives nt ds Γ0 Γ a K :=
  ⟨{ s with env := keepL sl s.env }, Γ, ⟨hs.bx, hs.size, hs.defers, fun j p hj => hs.env j p (get_keepL sl _ _ hj), hs.mem⟩, rfl, hle, h⟩
def vt1 (n k sz : Nat) (s : St) (K : St → Prop) : Prop :=
  match get s.env n with
  | some (.sl _ [] true) => (get s.bx k = none ∧ 0 < sz) ∧ K { env := put s.env n (.rs k [] 0 0 0 sz .tip), bx := put s.bx k (.arr sz []) }
  | _ => False
theorem vt1_sound {n : Nat} {K : St → Prop} (hs : Sim nt ds s Γ a) (hle : Le Γ0 Γ) (h : vt1 n k sz s K) : Gives nt ds Γ0 Γ a K := by
  unfold vt1 at h
  split at h
  · rename_i z hg
    obtain ⟨⟨hfree, hsz⟩, hK⟩ := h
    rw [← hs.bx] at hfree
    have hl := le_virt Γ (.arr sz []) hfree
    have hm := mem_virt hs.mem hfree (blk := .arr sz []) ⟨by simp, hsz, trivial⟩
    refine ⟨_, Γ.virt k (.arr sz []), ⟨by simp [Cx.virt, hs.bx], hs.size, hs.defers, fun j p hj => ?_, hm⟩, rfl, hle.trans hl, hK⟩
    simp only [get_put] at hj
    split at hj
    · rename_i hnj
      subst hnj
      simp only [Option.some.injEq] at hj; subst hj
      have h0 := hs.env n _ hg
      simp only [RepV] at h0 ⊢
      generalize a.tmps.getD n undef = v at h0
      cases h0 with
      | @sl _ _ cs _ _ _ ad rcap h1 h2 h3 h4 h5 h6 =>
        have hr0 : rcap = 0 := h4 rfl
        subst hr0
        refine .rs k [] 0 0 0 sz .tip _ (.arr sz []) ⟨by simp [Cx.virt, get_put_same], by simp [Blk.tot]⟩ rfl (fun _ => ⟨ad, 0, rfl, ?_⟩) .nil
        unfold RsOk
        simp [Cx.virt]
    · exact (hs.env j p hj).mono hl
  · exact h.elim
inductive Cut
  | fz (k : Nat)
  | dr (k : Nat)
  | keep (sl : List Nat)
  | vt (n k sz : Nat)
  | wk (n : Nat)
  | wb (k : Nat)
  | vb (b : Nat) (p : List Step) (k sz : Nat)
def wk1 (n : Nat) (s : St) (K : St → Prop) : Prop :=
  match get s.env n with
  | some p => K { s with env := put s.env n (wk p) }
  | none => False
theorem wk1_sound {n : Nat} {K : St → Prop} (hs : Sim nt ds s Γ a) (hle : Le Γ0 Γ) (h : wk1 n s K) : Gives nt ds Γ0 Γ a K := by
  unfold wk1 at h
  split at h
  · rename_i p hp
    refine ⟨{ s with env := put s.env n (Ab.wk p) }, Γ, ⟨hs.bx, hs.size, hs.defers, fun j q hj => ?_, hs.mem⟩, rfl, hle, h⟩
    simp only [get_put] at hj
    split at hj
    · rename_i hnj; subst hnj; cases hj; exact (hs.env _ p hp).wk
    · exact hs.env j q hj
  · exact h.elim
def wb1 (k : Nat) (s : St) (K : St → Prop) : Prop :=
  match get s.bx k with
  | some (.box v) => K { s with bx := put s.bx k (.box (wk v)) }
  | _ => False
theorem wb1_sound {K : St → Prop} (hs : Sim nt ds s Γ a) (hle : Le Γ0 Γ) (h : wb1 k s K) : Gives nt ds Γ0 Γ a K := by
  unfold wb1 at h
  split at h
  · rename_i v hg
    rw [← hs.bx] at hg
    have hget : ∀ j, get (put Γ.bx k (.box (Ab.wk v))) j = if k = j then some (.box (Ab.wk v)) else get Γ.bx j := fun j => get_put _ _ _ _
    have hsome : ∀ j, (get (put Γ.bx k (.box (Ab.wk v))) j).isSome = true → (get Γ.bx j).isSome = true := by
      intro j hj
      rw [hget] at hj
      split at hj
      · rename_i e; subst e; simp [hg]
      · exact hj
    have hl : Le Γ { Γ with bx := put Γ.bx k (.box (Ab.wk v)) } := by
      refine ⟨fun _ _ _ => rfl, fun b hb hm => ?_, rfl, Nat.le_refl _, fun j blk hj => ?_⟩
      · obtain ⟨j, blk, h1, h2⟩ := hm
        have := hsome j (by rw [h1]; rfl)
        obtain ⟨b0, h3⟩ := Option.isSome_iff_exists.1 this
        exact ⟨j, b0, h3, h2⟩
      · by_cases e : k = j
        · subst e
          rw [hg] at hj; cases hj
          exact ⟨.box (Ab.wk v), by rw [hget, if_pos rfl], Nat.le_refl _, fun _ => ⟨rfl, fun b hb cs e hh => ⟨cs, hh, rfl⟩⟩⟩
        · exact ⟨blk, by rw [hget, if_neg e]; exact hj, Nat.le_refl _, fun _ => ⟨rfl, fun b hb cs e hh => ⟨cs, hh, rfl⟩⟩⟩
    have hm : Mem { Γ with bx := put Γ.bx k (.box (Ab.wk v)) } := by
      refine ⟨fun j blk hj => ?_, fun i j b hi hj h1 h2 => hs.mem.inj i j b (hsome i hi) (hsome j hj) h1 h2, hs.mem.prot, fun b hb hp => hs.mem.apart b ?_ hp, hs.mem.tab_le hl⟩
      · rw [hget] at hj
        split at hj
        · rename_i e; subst e; cases hj
          obtain ⟨b, c, e, h1, h2, h3⟩ := hs.mem.blk _ _ hg
          exact ⟨b, c, e, h1, h2, h3.wk.mono hl⟩
        · exact (hs.mem.blk j blk hj).mono hl (fun b hb => rfl)
      · obtain ⟨j, blk, h1, h2⟩ := hb
        have := hsome j (by rw [h1]; rfl)
        obtain ⟨b0, h3⟩ := Option.isSome_iff_exists.1 this
        exact ⟨j, b0, h3, h2⟩
    exact ⟨{ s with bx := put s.bx k (.box (Ab.wk v)) }, _, ⟨by simp [hs.bx], hs.size, hs.defers, fun j q hj => (hs.env j q hj).mono hl, hm⟩, rfl, hle.trans hl, h⟩
  · exact h.elim
def vb1 (b : Nat) (p : List Step) (k sz : Nat) (s : St) (K : St → Prop) : Prop :=
  match get s.bx b with
  | some (.box v) => (match getP v p, setP v p (.rs k [] 0 0 0 sz .tip) with
    | some (.sl _ [] true), some v' => (get s.bx k = none ∧ 0 < sz) ∧ K { s with bx := put (put s.bx k (.arr sz [])) b (.box v') }
    | _, _ => False)
  | _ => False
theorem box_swap {v v' : PV} (hm : Mem Γ) (hg : get Γ.bx k = some (.box v)) (hv : ∀ cs, RepL Γ [v] cs → RepL Γ [v'] cs) :
    Le Γ { Γ with bx := put Γ.bx k (.box v') } ∧ Mem { Γ with bx := put Γ.bx k (.box v') } := by
  have hget : ∀ j, get (put Γ.bx k (.box v')) j = if k = j then some (.box v') else get Γ.bx j := fun j => get_put _ _ _ _
  have hsome : ∀ j, (get (put Γ.bx k (.box v')) j).isSome = true → (get Γ.bx j).isSome = true := by
    intro j hj
    rw [hget] at hj
    split at hj
    · rename_i e; subst e; simp [hg]
    · exact hj
  have hl : Le Γ { Γ with bx := put Γ.bx k (.box v') } := by
    refine ⟨fun _ _ _ => rfl, fun b hb hm => ?_, rfl, Nat.le_refl _, fun j blk hj => ?_⟩
    · obtain ⟨j, blk, h1, h2⟩ := hm
      have := hsome j (by rw [h1]; rfl)
      obtain ⟨b0, h3⟩ := Option.isSome_iff_exists.1 this
      exact ⟨j, b0, h3, h2⟩
    · by_cases e : k = j
      · subst e
        rw [hg] at hj; cases hj
        exact ⟨.box v', by rw [hget, if_pos rfl], Nat.le_refl _, fun _ => ⟨rfl, fun b hb cs e hh => ⟨cs, hh, rfl⟩⟩⟩
      · exact ⟨blk, by rw [hget, if_neg e]; exact hj, Nat.le_refl _, fun _ => ⟨rfl, fun b hb cs e hh => ⟨cs, hh, rfl⟩⟩⟩
  refine ⟨hl, fun j blk hj => ?_, fun i j b hi hj h1 h2 => hm.inj i j b (hsome i hi) (hsome j hj) h1 h2, hm.prot, fun b hb hp => hm.apart b ?_ hp, hm.tab_le hl⟩
  · rw [hget] at hj
    split at hj
    · rename_i e; subst e; cases hj
      obtain ⟨b, c, e, h1, h2, h3⟩ := hm.blk _ _ hg
      exact ⟨b, c, e, h1, h2, (hv _ h3).mono hl⟩
    · exact (hm.blk j blk hj).mono hl (fun b hb => rfl)
  · obtain ⟨j, blk, h1, h2⟩ := hb
    have := hsome j (by rw [h1]; rfl)
    obtain ⟨b0, h3⟩ := Option.isSome_iff_exists.1 this
    exact ⟨j, b0, h3, h2⟩
theorem vb1_sound {b : Nat} {p : List Step} {K : St → Prop} (hs : Sim nt ds s Γ a) (hle : Le Γ0 Γ) (h : vb1 b p k sz s K) : Gives nt ds Γ0 Γ a K := by
  unfold vb1 at h
  split at h
  case h_2 => exact h.elim
  rename_i v hg
  split at h
  case h_2 => exact h.elim
  rename_i z v' hgp hsp
  obtain ⟨⟨hfree, hsz⟩, hK⟩ := h
  rw [← hs.bx] at hfree hg
  have hl := le_virt Γ (.arr sz []) hfree
  have hm := mem_virt hs.mem hfree (blk := .arr sz []) ⟨by simp, hsz, trivial⟩
  have hbk : b ≠ k := by rintro rfl; rw [hg] at hfree; simp at hfree
  have hg2 : get (Γ.virt k (.arr sz [])).bx b = some (.box v) := by
    simp only [Cx.virt]; rw [get_put_ne _ _ _ _ (fun h => hbk h.symm)]; exact hg
  obtain ⟨h1, h2⟩ := box_swap (v' := v') hm hg2 (by
    intro cs hc
    obtain ⟨hle2, hr⟩ := getP_rep p hc hgp
    have hw : (PV.sl z [] true).width = 1 := rfl
    rw [hw] at hle2 hr
    obtain ⟨x, hx⟩ : ∃ x, (cs.drop (poff p)).take 1 = [x] := by
      have hlen : ((cs.drop (poff p)).take 1).length = 1 := by rw [List.length_take, List.length_drop]; omega
      exact List.length_eq_one_iff.1 hlen
    rw [hx] at hr
    have hrs : RepL (Γ.virt k (.arr sz [])) [.rs k [] 0 0 0 sz .tip] [x] := by
      cases hr with
      | @sl _ _ cs _ _ _ ad rcap h1 h2 h3 h4 h5 h6 =>
        have hr0 : rcap = 0 := h4 rfl
        subst hr0
        refine .rs k [] 0 0 0 sz .tip _ (.arr sz []) ⟨by simp [Cx.virt, get_put_same], by simp [Blk.tot]⟩ rfl (fun _ => ⟨ad, 0, rfl, ?_⟩) .nil
        unfold RsOk
        simp [Cx.virt]
    obtain ⟨g1, g2, g3⟩ := setP_rep hrs p hc hsp
    have e : splice cs (poff p) [x] = cs := by
      unfold splice
      rw [← hx, List.length_take, List.length_drop, Nat.min_eq_left (by omega), List.append_assoc]
      rw [← List.drop_drop, List.take_append_drop, List.take_append_drop]
    rwa [e] at g3)
  refine ⟨{ s with bx := put (put s.bx k (.arr sz [])) b (.box v') }, _, ⟨by simp [Cx.virt, hs.bx], hs.size, hs.defers, fun j q hj => ((hs.env j q hj).mono hl).mono h1, h2⟩, rfl, (hle.trans hl).trans h1, hK⟩
def cut1 : Cut → St → (St → Prop) → Prop
  | .fz k, s, K => fz1 k s K
  | .dr k, s, K => dr1 k s K
  | .keep sl, s, K => K { s with env := keepL sl s.env }
  | .vt n k sz, s, K => vt1 n k sz s K
  | .wk n, s, K => wk1 n s K
  | .wb k, s, K => wb1 k s K
  | .vb b p k sz, s, K => vb1 b p k sz s K
def cuts : List Cut → St → (St → Prop) → Prop
  | [], s, K => K s
  | c :: r, s, K => cut1 c s fun s' => cuts r s' K
theorem cuts_sound {K : St → Prop} (hk0 : HK Γ0) : ∀ (c : List Cut) {s : St} {Γ : Cx}, Sim nt ds s Γ a → Le Γ0 Γ → cuts c s K → Gives nt ds Γ0 Γ a K
  | [], s, Γ, hs, hle, h => ⟨s, Γ, hs, rfl, hle, h⟩
  | c :: r, s, Γ, hs, hle, h => by
    have : Gives nt ds Γ0 Γ a fun s' => cuts r s' K := by
      cases c with
      | fz k => exact fz1_sound hs hle hk0 h
      | dr k => exact dr1_sound hs hle hk0 h
      | keep sl => exact keep_sound hs hle h
      | vt n k sz => exact vt1_sound hs hle h
      | wk n => exact wk1_sound hs hle h
      | wb k => exact wb1_sound hs hle h
      | vb b p k sz => exact vb1_sound hs hle h
    obtain ⟨s', Γ', h1, h2, h3, h4⟩ := this
    obtain ⟨s2, Γ2, g1, g2, g3, g4⟩ := cuts_sound hk0 r h1 h3 h4
    exact ⟨s2, Γ2, g1, by rw [g2, h2], g3, g4⟩
end Go.Ab
namespace Go.Ab
variable [Tabs]
variable {P : Program} {nt : Nat} {ds : List Deferred} {s : St} {Γ Γ0 : Cx} {a : Act} {w w0 : World}
def Cx.out (Γ : Cx) (ks : List Nat) (blks : List Blk) : Cx :=
  { heap := Γ.heap, ι := fun k => if KB ≤ k then (match ks[k - KB]? with | some j => Γ.ι j | none => none) else none,
    bx := fpBx 0 (blks.map (renB (ren1 ks))), prot := Γ.prot }
theorem Cx.out_mutb {ks : List Nat} {blks : List Blk} (hg : getAll Γ.bx ks = some blks) {b : Nat} : (Γ.out ks blks).mutb b ↔ ∃ (i : Nat) (k : Nat), ks[i]? = some k ∧ Γ.ι k = some b := Cx.call_mutb (Γ := Γ) hg
theorem Cx.out_same {ks : List Nat} {blks : List Blk} (hg : getAll Γ.bx ks = some blks) : Same (inKs ks) (ren1 ks) Γ (Γ.out ks blks) where
  heap := rfl
  own b hb hn := by
    rintro (h | h)
    · obtain ⟨i, k, h1, h2⟩ := (Cx.out_mutb hg).1 h
      obtain ⟨_, hget⟩ := getAll_get hg
      obtain ⟨b', g1, _⟩ := hget _ _ h1
      exact hn (.inl ⟨k, b', g1, h2⟩)
    · exact hn (.inr h)
  ref := (Cx.call_same hg).ref
theorem Cx.out_mem (hm : Mem Γ) {ks : List Nat} {blks : List Blk} (hg : getAll Γ.bx ks = some blks) (hn : ks.Nodup) (hok : blks.all (refsOkB (inKs ks)) = true) : Mem (Γ.out ks blks) where
  blk k blk hk := by
    obtain ⟨hl, hget⟩ := getAll_get hg
    simp only [Cx.out, get_fpBx] at hk
    split at hk
    · rename_i hle
      rw [List.getElem?_map, Option.map_eq_some_iff] at hk
      obtain ⟨b0, hb0, rfl⟩ := hk
      have hi := (List.getElem?_eq_some_iff.1 hb0).1
      obtain ⟨j, hj⟩ : ∃ j, ks[k - KB]? = some j := ⟨_, List.getElem?_eq_getElem (by omega)⟩
      obtain ⟨b1, g1, g2⟩ := hget _ _ hj
      simp only [Nat.sub_zero] at hb0
      rw [hb0] at g2; cases g2
      have := (hm.blk j b0 g1).ren (Cx.out_same hg) (List.all_eq_true.1 hok b0 (List.mem_of_getElem? hb0))
      have e : (Γ.out ks blks).ι k = Γ.ι j := by simp only [Cx.out]; rw [if_pos (by omega), hj]
      rw [e]; exact this
    · simp at hk
  inj := (Cx.call_mem hm hg hn hok).inj
  prot := hm.prot
  apart b h hp := by
    obtain ⟨i, k, h1, h2⟩ := (Cx.out_mutb hg).1 h
    obtain ⟨_, hget⟩ := getAll_get hg
    obtain ⟨b', g1, _⟩ := hget _ _ h1
    exact hm.apart b ⟨k, b', g1, h2⟩ hp
  tab b cs h := by
    obtain ⟨h1, h2⟩ := hm.tab b cs h
    refine ⟨fun hb => h1 ?_, h2⟩
    obtain ⟨i, k, g1, g2⟩ := (Cx.out_mutb hg).1 hb
    obtain ⟨b', g3, _⟩ := (getAll_get hg).2 i k g1
    exact ⟨k, b', g3, g2⟩
theorem Cx.out_le {ks : List Nat} {blks fp : List Blk} (hle : Le Γ0 Γ) (h0 : Γ0.bx = fpBx 0 fp) (hg : getAll Γ.bx ks = some blks) (hks : ks.take fp.length = fpKeys fp.length) : Le Γ0 (Γ.out ks blks) where
  heap := hle.heap
  mutb b hb h := by
    obtain ⟨i, k, h1, h2⟩ := (Cx.out_mutb hg).1 h
    obtain ⟨_, hget⟩ := getAll_get hg
    obtain ⟨b', g1, _⟩ := hget _ _ h1
    exact hle.mutb b hb ⟨k, b', g1, h2⟩
  prot := hle.prot
  size := hle.size
  ref k blk hk := by
    obtain ⟨blk', h1, h2, h3⟩ := hle.ref k blk hk
    rw [h0, get_fpBx] at hk
    split at hk
    · rename_i hkb
      have hi := (List.getElem?_eq_some_iff.1 hk).1
      have e : ks[k - KB]? = some k := by
        have : (ks.take fp.length)[k - KB]? = some k := by
          rw [hks, fpKeys, List.getElem?_map, List.getElem?_range (by omega)]
          simp; omega
        rw [List.getElem?_take] at this
        split at this
        · exact this
        · simp at this
      obtain ⟨hl, hget⟩ := getAll_get hg
      obtain ⟨b1, g1, g2⟩ := hget _ _ e
      rw [h1] at g1; cases g1
      refine ⟨renB (ren1 ks) blk', ?_, by rw [renB_tot]; exact h2, fun ht => ?_⟩
      · simp only [Cx.out, get_fpBx]
        rw [if_pos (by omega), List.getElem?_map, show k - KB - 0 = k - KB by omega, g2]; rfl
      · rw [renB_tot] at ht
        obtain ⟨h4, h5⟩ := h3 ht
        exact ⟨by simp only [Cx.out]; rw [if_pos (by omega), e]; exact h4, h5⟩
    · simp at hk
def thn (Q : Exit → St → Prop) (K : St → Prop) : Exit → St → Prop
  | .normal, s => K s
  | e, s => Q e s
def inb (id : Nat) (Q : Exit → St → Prop) : Exit → St → Prop
  | .exit id', s => if id' = id then Q .normal s else Q (.exit id') s
  | e, s => Q e s
def lift (nt : Nat) (Γ0 : Cx) (w0 : World) (Q : Exit → St → Prop) : Exit → Act → World → Prop :=
  fun e a w => ∃ ds s Γ, Sim nt ds s Γ a ∧ DefOk Γ0.heap.size Γ ds ∧ w.heap = Γ.heap ∧ Le Γ0 Γ ∧ WF w0 w ∧ Q e s
theorem lift_thn {Q : Exit → St → Prop} {K : St → Prop} {e : Exit} (h : lift nt Γ0 w0 (thn Q K) e a w) : Exit.then (lift nt Γ0 w0 (fun _ => K) .normal) (lift nt Γ0 w0 Q) e a w := by
  cases e <;> exact h
theorem lift_inb {Q : Exit → St → Prop} {id : Nat} {e : Exit} (h : lift nt Γ0 w0 (inb id Q) e a w) : Exit.inBlock id (lift nt Γ0 w0 Q) e a w := by
  cases e with
  | exit id' =>
    obtain ⟨ds, s, Γ, h1, hd, h2, h3, h4, h5⟩ := h
    simp only [Exit.inBlock, inb] at h5 ⊢
    split at h5
    · rename_i hid; rw [if_pos hid]; exact ⟨ds, s, Γ, h1, hd, h2, h3, h4, h5⟩
    · rename_i hid; rw [if_neg hid]; exact ⟨ds, s, Γ, h1, hd, h2, h3, h4, h5⟩
  | _ => exact h
def AIter (P : Program) (fid : FuncId) (cap : List PV) (fp : List Blk) (Y : List PV → List Blk → (List Blk → Prop) → Prop) (R : List Blk → Prop) : Prop :=
  (∀ (vs : Array Value) (w : World), (callFunc fid vs).run P w = .ok (.enter fid vs) w) ∧
  ∀ (Γ : Cx) (w : World) (vs : List Value) (l : Nat) (rec : Loop), w.heap = Γ.heap → Mem Γ → Γ.bx = fpBx 0 fp → AllR Γ cap vs → Γ.heap[l]? = some (.loop rec) →
    (∀ args fp1 R1, Y args fp1 R1 → AYield P l Γ args fp1 R1) →
    CallsIn (FW none) 0 P fid (#[.func (.yield l) #[] #[]] ++ vs.toArray) w (fun e w' => ∃ v fp' Γ', e = .returned v ∧ R fp' ∧ w'.heap = Γ'.heap ∧ Mem Γ' ∧ Γ'.bx = fpBx 0 fp' ∧ Le Γ Γ' ∧ WF w w')
def RndK (n : Nat) (R : List Blk → Prop) (s : St) : Prop :=
  ∃ c : List Cut, cuts c s fun s' => ∃ blks, getAll s'.bx (fpKeys n) = some blks ∧ blks.all (refsOkB (inFp n)) = true ∧ R blks
def roundQ (n : Nat) (R : List Blk → Prop) : Exit → St → Prop
  | .normal, s => RndK n R s
  | _, _ => False
def noQ : Exit → St → Prop := fun _ _ => False
def renEnv (ks : List Nat) : List (Nat × PV) → List (Nat × PV)
  | [] => []
  | (n, p) :: r => (n, if refsOk (inKs ks) p = true then ren (ren1 ks) p else .un) :: renEnv ks r
def putsL : List (Nat × PV) → List Nat → List PV → List (Nat × PV)
  | e, t :: ts, p :: ps => putsL (put e t p) ts ps
  | e, _, _ => e
def roundSt (ks : List Nat) (s : St) (ps : List Nat) (args : List PV) (fp : List Blk) : St := ⟨putsL (renEnv ks s.env) ps args, fpBx 0 fp⟩
def RangeK [YCtx] (P : Program) (A B : (Exit → St → Prop) → St → Prop) (s : St) (fid : FuncId) (cap : List PV) (ps : List Nat) (K : St → Prop) : Prop :=
  (∀ l a f r, ¬ YCtx.spec l a f r) ∧ ∃ ks blks Y R, (getAll s.bx ks = some blks ∧ ks.Nodup ∧ refsOkL (inKs ks) cap = true ∧ blks.all (refsOkB (inKs ks)) = true) ∧
    AIter P fid (renL (ren1 ks) cap) (blks.map (renB (ren1 ks))) Y R ∧
    (∀ args fp R1, Y args fp R1 → (args.length = ps.length ∧ fp.length = ks.length) ∧ A (thn noQ fun s' => B (roundQ ks.length R1) s') (roundSt ks s ps args fp)) ∧
    ∀ fp, R fp → (fp.length = ks.length ∧ fp.all (refsOkB (inFp fp.length)) = true) ∧ K { s with bx := putAll s.bx ks (fp.map (renB (ren2 ks))) }
theorem AllR.length : ∀ {l : List PV} {vs : List Value}, AllR Γ l vs → vs.length = l.length
  | [], [], _ => rfl
  | [], _ :: _, h => by simp [AllR] at h
  | _ :: _, [], h => by simp [AllR] at h
  | _ :: _, _ :: _, h => by simp [AllR.length h.2]
theorem AllR.mono {Γ' : Cx} (hle : Le Γ Γ') : ∀ {l : List PV} {vs : List Value}, AllR Γ l vs → AllR Γ' l vs
  | [], [], _ => trivial
  | p :: l, v :: vs, h => ⟨h.1.mono hle, h.2.mono hle⟩
  | [], _ :: _, h => h.elim
  | _ :: _, [], h => h.elim
theorem get_renEnv {ks : List Nat} {k : Nat} : ∀ {e : List (Nat × PV)} {q : PV}, get (renEnv ks e) k = some q → q = .un ∨ ∃ p, get e k = some p ∧ refsOk (inKs ks) p = true ∧ q = ren (ren1 ks) p
  | [], q, h => by simp [renEnv, get] at h
  | (n, p) :: r, q, h => by
    simp only [renEnv, get] at h ⊢
    split at h
    · rename_i hn
      simp only [Option.some.injEq] at h
      rw [if_pos hn]
      split at h
      · rename_i hr; exact .inr ⟨p, rfl, hr, h.symm⟩
      · exact .inl h.symm
    · rename_i hn
      rw [if_neg hn]
      exact get_renEnv h
theorem sim_puts : ∀ {ps : List Nat} {args : List PV} {vs : List Value} {env : List (Nat × PV)} {tmps : Array Value}, tmps.size = nt → (∀ t ∈ ps, t < nt) → AllR Γ args vs → args.length = ps.length →
    (∀ k p, get env k = some p → RepV Γ p (tmps.getD k undef)) →
    ((ps.zip vs).foldl (fun ts (x : Nat × Value) => ts.setIfInBounds x.1 x.2) tmps).size = nt ∧ ∀ k p, get (putsL env ps args) k = some p → RepV Γ p (((ps.zip vs).foldl (fun ts (x : Nat × Value) => ts.setIfInBounds x.1 x.2) tmps).getD k undef)
  | [], [], vs, env, tmps, h1, h2, h3, h4, h5 => by simp only [List.zip_nil_left, List.foldl_nil, putsL]; exact ⟨h1, h5⟩
  | [], _ :: _, _, _, _, _, _, _, h4, _ => by simp at h4
  | _ :: _, [], _, _, _, _, _, _, h4, _ => by simp at h4
  | t :: ps, p :: args, [], env, tmps, h1, h2, h3, h4, h5 => h3.elim
  | t :: ps, p :: args, v :: vs, env, tmps, h1, h2, h3, h4, h5 => by
    simp only [List.zip_cons_cons, List.foldl_cons, putsL]
    refine sim_puts (by simpa using h1) (fun x hx => h2 x (by simp [hx])) h3.2 (by simpa using h4) ?_
    intro k q hk
    rw [get_put] at hk
    split at hk
    · rename_i e; subst e
      simp only [Option.some.injEq] at hk; subst hk
      rw [Array.getD_eq_getD_getElem?, Array.getElem?_setIfInBounds_self_of_lt (by rw [h1]; exact h2 _ (by simp))]
      exact h3.1
    · rename_i hne
      rw [Array.getD_eq_getD_getElem?, Array.getElem?_setIfInBounds_ne hne, ← Array.getD_eq_getD_getElem?]
      exact h5 k q hk
theorem DefOk.obj {B l : Nat} {o : Obj} {rec : Loop} (h : DefOk B Γ ds) (hl : Γ.heap[l]? = some (.loop rec)) : DefOk B (Γ.obj l o) ds := by
  obtain ⟨Ds, h1, h2, h3⟩ := h
  refine ⟨Ds, h1, h2, fun D hD => ⟨(h3 D hD).1, ?_⟩⟩
  have h4 := (h3 D hD).2
  have hne : D ≠ l := by rintro rfl; rw [hl] at h4; simp at h4
  rw [obj_other hne]; exact h4
theorem range_sound [YCtx] {g : Operand} {ps : Array Nat} {as bo : Code} {A B : (Exit → St → Prop) → St → Prop} {fid : FuncId} {cap : List PV} {Q : Exit → St → Prop}
    (hA : ∀ {l : Nat} {Γ1 : Cx} {w1 : World} {Q : Exit → St → Prop} {s : St} {Γ : Cx} {a : Act} {w : World} {ds : List Deferred}, HK Γ1 → YOk P Γ1 → A Q s → Sim nt ds s Γ a → DefOk Γ1.heap.size Γ ds → w.heap = Γ.heap → Le Γ1 Γ → WF w1 w → as.wpIn (FW (some l)) 0 P (lift nt Γ1 w1 Q) a w)
    (hB : ∀ {l : Nat} {Γ1 : Cx} {w1 : World} {Q : Exit → St → Prop} {s : St} {Γ : Cx} {a : Act} {w : World} {ds : List Deferred}, HK Γ1 → YOk P Γ1 → B Q s → Sim nt ds s Γ a → DefOk Γ1.heap.size Γ ds → w.heap = Γ.heap → Le Γ1 Γ → WF w1 w → bo.wpIn (FW (some l)) 0 P (lift nt Γ1 w1 Q) a w)
    (hps : ∀ t ∈ ps.toList, t < nt) (hs : Sim nt ds s Γ a) (hd : DefOk Γ0.heap.size Γ ds) (hw : w.heap = Γ.heap) (hle : Le Γ0 Γ) (hwf : WF w0 w)
    (hg : RepV Γ (.fn (.func fid) [] cap) (a.eval g)) (h : RangeK P A B s fid cap ps.toList fun s' => Q .normal s') :
    (Code.rangeFunc g ps as bo).wpIn (FW none) 0 P (lift nt Γ0 w0 Q) a w := by
  obtain ⟨hno, ks, blks, Y, R, ⟨hgk, hn, hrc, hrb⟩, ⟨hc1, hc2⟩, hround, hK⟩ := h
  have hYno : ∀ Γ1, YOk P Γ1 := fun Γ1 l a f r hsp => absurd hsp (hno l a f r)
  obtain ⟨cs, hev, hcs⟩ : ∃ cs : List Value, a.eval g = .func (.func fid) #[] cs.toArray ∧ AllR Γ cap cs := by
    simp only [RepV] at hg
    generalize a.eval g = v at hg
    cases hg with
    | @fn _ _ fs cs _ _ _ h1 h2 h3 h4 _ => cases h1; exact ⟨cs, rfl, allR_of_repL h2 h4⟩
  refine wpIn_rangeFunc fun fn _ => ?_
  obtain ⟨rec, hrec⟩ : ∃ rec : Loop, rec = { state := .ready, pending := none, fn, tmps := a.tmps, params := ps, assign := as, body := bo, defers := w.heap.size } := ⟨_, rfl⟩
  have hready : rec.state = .ready := by rw [hrec]
  have hpend : rec.pending = none := by rw [hrec]
  have hlb : w.heap.size = Γ.heap.size := by rw [hw]
  obtain ⟨l, hl⟩ : ∃ l, l = w.heap.size + 1 := ⟨_, rfl⟩
  obtain ⟨w1, hw1⟩ : ∃ w1, w1 = (w.alloc (.deferred (some []))).alloc (.loop rec) := ⟨_, rfl⟩
  obtain ⟨Γ1, hΓ1⟩ : ∃ Γ1, Γ1 = (Γ.push (.deferred (some []))).push (.loop rec) := ⟨_, rfl⟩
  have hle1 : Le Γ Γ1 := by rw [hΓ1]; exact (le_push _ _).trans (le_push _ _)
  have hm1 : Mem Γ1 := by rw [hΓ1]; exact mem_push (mem_push hs.mem _) _
  have hbx1 : Γ1.bx = s.bx := by rw [hΓ1]; exact hs.bx
  have hheap1 : w1.heap = Γ1.heap := by rw [hw1, hΓ1]; simp [World.alloc, Cx.push, hw]
  have hl1 : Γ1.heap[l]? = some (.loop rec) := by
    rw [hΓ1, hl]; simp only [Cx.push]
    rw [Array.getElem?_push, if_pos (by simp [hlb])]
  have hD1 : Γ1.heap[w.heap.size]? = some (.deferred (some [])) := by
    rw [hΓ1]; simp only [Cx.push]
    rw [Array.getElem?_push, if_neg (by simp [hlb]), Array.getElem?_push, if_pos hlb]
  have hs1 : Sim nt ds s Γ1 a := ⟨by rw [hbx1], hs.size, hs.defers, fun k p hk => (hs.env k p hk).mono hle1, hm1⟩
  have hgk1 : getAll Γ1.bx ks = some blks := by rw [hbx1]; exact hgk
  have hsame := Cx.call_same (Γ := Γ1) hgk1
  have hmc := Cx.call_mem hm1 hgk1 hn hrb
  have hlc : (Γ1.call ks blks).heap[l]? = some (.loop rec) := hl1
  have hcap : AllR (Γ1.call ks blks) (renL (ren1 ks) cap) cs := by
    have : AllR Γ1 cap cs := hcs.mono hle1
    exact this.ren hsame hrc
  refine ⟨l, [{ target := .collected w.heap.size, args := #[] }], w1, { target := .fn (.func fid) cs.toArray, args := #[.func (.yield l) #[] #[]] }, w1, fid,
    #[.func (.yield l) #[] #[]] ++ cs.toArray, w1, ?_, ?_, fun _ _ => trivial, ?_, fun h => by simp [FW, Fence.wide] at h, ?_⟩
  · rw [hw1, hrec, hl]; exact run_enterLoop_outer _ _ _ _ _
  · simp only [resolve, hev]
    simp [Deferred.ofValue]
    rfl
  · simp only [invoke]
    exact hc1 _ _
  · refine (hc2 (Γ1.call ks blks) w1 cs l rec hheap1 hmc rfl hcap hlc fun args fp R1 hY => ?_).mono ?_
    · -- a round
      intro Γy wy vs hwy hmy hbxy hally hlec hly
      obtain ⟨⟨hlen, hfl⟩, hAA⟩ := hround args fp R1 hY
      have hlr : Γy.heap[l]? = some (.loop rec) := by rw [hly]; exact hlc
      have hkY : HK Γy := by
        intro k blk hk
        rw [hbxy, get_fpBx] at hk
        split at hk
        · omega
        · simp at hk
      have hvl : vs.length = ps.toList.length := by rw [hally.length, hlen]
      refine ⟨fn, (ps.toList.zip vs).foldl (fun ts (x : Nat × Value) => ts.setIfInBounds x.1 x.2) a.tmps, as, bo, ?_, roundIn_of_wpIn trivial ?_⟩
      · have := run_yield (P := P) (w := wy) (l := l) (r := rec) (args := vs.toArray) (by rw [hwy]; exact hlr) (by rw [hrec]; simpa using hvl)
        rw [this, hrec]
        congr 2
        rw [← Array.foldl_toList, Array.toList_zip]
      · have hsp := sim_puts (Γ := Γy) (env := renEnv ks s.env) hs.size hps hally hlen (fun k p hk => by
          rcases get_renEnv hk with rfl | ⟨q, h1, h2, rfl⟩
          · simp [RepV]
          · exact ((hs1.env k q h1).ren hsame h2).monoC hlec)
        have hsim : Sim nt [] (roundSt ks s ps.toList args fp) Γy { tmps := (ps.toList.zip vs).foldl (fun ts (x : Nat × Value) => ts.setIfInBounds x.1 x.2) a.tmps, defers := [] } := ⟨hbxy, hsp.1, rfl, hsp.2, hmy⟩
        refine wpIn_mono (hA (l := l) (w1 := wy) hkY (hYno _) hAA hsim .nil hwy (Le.refl _) (WF.refl _)) ?_
        rintro e a1 wa ⟨ds1, s1, Γa, hsa, hda, hwa, hlea, hwfa, hBB⟩
        cases e with
        | normal =>
          have hla : Γa.heap[l]? = some (.loop rec) := hlea.plain hmy hlr rfl
          refine ⟨_, run_beginRound (by rw [hwa]; exact hla) hready, ?_⟩
          obtain ⟨o, ho⟩ : ∃ o : Obj, o = .loop { rec with state := .busy } := ⟨_, rfl⟩
          rw [← ho]
          have hoc : isC o = false := by rw [ho]; rfl
          have hpy : Γy.plainAt l := ⟨_, hlr, rfl⟩
          have hpa : Γa.plainAt l := ⟨_, hla, rfl⟩
          have hky : HK (Γy.obj l o) := hkY
          refine wpIn_mono (hB (l := l) (Γ1 := Γy.obj l o) (w1 := wy) hky (hYno _) hBB (hsa.obj hpa) (by rw [obj_size]; exact hda.obj hla) (heap_obj hwa) (le_obj_both hlea hmy hpy hoc) (hwfa.trans (WF.obj _ _ _))) ?_
          rintro e a2 wb ⟨ds2, s2, Γb, hsb, hdb, hwb, hleb, hwfb, hq⟩
          cases e with
          | normal =>
            obtain ⟨c, hc⟩ := hq
            obtain ⟨s3, Γ3, hs3, hh3, hle3, blks3, hg3, hok3, hR3⟩ := cuts_sound hky c hsb hleb hc
            rw [← hs3.bx] at hg3
            have hl3 : Γ3.heap[l]? = some o := hle3.plain (mem_obj hmy hpy) (obj_same hpy.lt) hoc
            have hlb3 : wb.heap[l]? = some (.loop { rec with state := .busy }) := by rw [hwb, ← hh3, hl3, ho]
            have hmo := Cx.out_mem hs3.mem hg3 (fpKeys_nodup _) (by rw [inKs_fpKeys]; exact hok3)
            have hlo := Cx.out_le hle3 (fp := fp) (by exact hbxy) hg3 (by rw [hfl, List.take_of_length_le (by simp [fpKeys])])
            have hpo : (Γ3.out (fpKeys ks.length) blks3).plainAt l := ⟨o, hl3, hoc⟩
            have hend := run_endRound (P := P) (jump := none) hlb3
            refine ⟨_, _, hend, blks3, (Γ3.out (fpKeys ks.length) blks3).obj l (.loop rec), rfl, hR3, ?_, mem_obj hmo hpo, ?_, ?_, hwfb.trans (WF.obj _ _ _)⟩
            · have e1 : ({ ({ rec with state := .busy } : Loop) with state := if (none : Option Code).isNone = true then .ready else .done, pending := none } : Loop) = rec := by
                rw [hrec]; rfl
              rw [e1]
              exact heap_obj (by rw [hwb, ← hh3]; rfl)
            · show fpBx 0 (blks3.map (renB (ren1 (fpKeys ks.length)))) = _
              rw [renBs_same (fun _ => ren1_fpKeys)]
            · have := le_obj_both (o := .loop rec) hlo (mem_obj hmy hpy) (plain_obj hpy hoc) rfl
              rwa [obj_back hlr] at this
          | _ => exact hq.elim
        | _ => exact hBB.elim
    · -- behind it
      rintro e w' ⟨v, fp', Γ', rfl, hR, hw', hm', hbx', hle', hwf'⟩
      obtain ⟨⟨hlen, hfr⟩, hKK⟩ := hK fp' hR
      obtain ⟨same2, le2, mem2⟩ := back_facts hm1 hgk1 (os := []) (by simpa using hn) (by simp) hm' hbx' hle' (by simpa using hlen) hfr
      simp only [List.append_nil] at le2 mem2
      have hl' : Γ'.heap[l]? = some (.loop rec) := hle'.plain hmc hlc rfl
      have hl2 : (Γ1.back Γ' ks fp').heap[l]? = some (.loop rec) := hl'
      refine ⟨none, w'.putObj l (.loop { rec with state := .exhausted }), ?_, ?_⟩
      · have := run_endLoop (P := P) (w := w') (l := l) (r := rec) (by rw [hw']; exact hl') (by rw [hready]; simp)
        rw [this, hpend]
      · refine ⟨{ target := .collected w.heap.size, args := #[] } :: ds, _, (Γ1.back Γ' ks fp').obj l (.loop { rec with state := .exhausted }), ?_, ?_, heap_obj (by exact hw'), ?_, ?_, hKK⟩
        · have h2 := hs1.le le2 mem2 (bx' := putAll s.bx ks (fp'.map (renB (ren2 ks)))) (by simp [Cx.back, hbx1])
          have h3 := h2.obj (o := .loop { rec with state := .exhausted }) ⟨_, hl2, rfl⟩
          exact ⟨h3.bx, h3.size, by simp [h3.defers], h3.env, h3.mem⟩
        · refine DefOk.obj (rec := rec) ?_ hl2
          obtain ⟨Ds, e1, e2, e3⟩ := (hd.le hs.mem hle1).le hm1 le2
          refine ⟨w.heap.size :: Ds, by rw [e1]; rfl, List.nodup_cons.2 ⟨fun hm => ?_, e2⟩, fun D hD => ?_⟩
          · obtain ⟨Ds', f1, f2, f3⟩ := hd
            have : Ds' = Ds := by
              have := f1.symm.trans e1
              exact (List.map_inj_right (fun a b h => by simpa using h)).1 this
            subst this
            have := lt_of_get (f3 _ hm).2
            omega
          · rcases List.mem_cons.1 hD with rfl | hD
            · exact ⟨by rw [hlb]; exact hle.size, le2.plain hm1 hD1 rfl⟩
            · exact e3 D hD
        · exact le_obj_right ((hle.trans hle1).trans le2) (by have := hle.size; omega) ⟨_, hl2, rfl⟩
        · refine hwf.trans (WF.trans ?_ (hwf'.trans (WF.obj _ _ _)))
          rw [hw1]; exact (WF.alloc _ _).trans (WF.alloc _ _)
end Go.Ab
namespace Go.Ab
variable [Tabs]
variable {P : Program} {nt : Nat} {ds : List Deferred} {s : St} {Γ Δ Γ0 : Cx} {a : Act} {w w0 : World} [YCtx]
inductive ACode
  | skip
  | region (l : List AO)
  | regionD (l : List AO) (ord us : List Nat)
  | seq (x y : ACode)
  | cond (c : AX) (x y : ACode)
  | block (id : Nat) (x : ACode)
  | loop (x : ACode)
  | exit (id : Nat)
  | ret
  | seqm (x y : ACode)
  | rangeF (g : AX) (ps : List Nat) (x y : ACode)
def erase : ACode → ACode
  | .seq x y | .seqm x y => .seq (erase x) (erase y)
  | .cond c x y => .cond c (erase x) (erase y)
  | .block id x => .block id (erase x)
  | .loop x => .loop (erase x)
  | .skip => .skip
  | .region l => .region l
  | .regionD l o u => .regionD l o u
  | .exit id => .exit id
  | .ret => .ret
  | .rangeF g ps x y => .rangeF g ps (erase x) (erase y)
def noRF : ACode → Bool
  | .seq x y | .seqm x y | .cond _ x y => noRF x && noRF y
  | .block _ x | .loop x => noRF x
  | .rangeF .. => false
  | _ => true
theorem noRF_erase : ∀ c : ACode, noRF (erase c) = noRF c
  | .seq x y | .seqm x y | .cond _ x y => by simp [erase, noRF, noRF_erase x, noRF_erase y]
  | .block _ x | .loop x => by simp [erase, noRF, noRF_erase x]
  | .rangeF .. | .skip | .region _ | .regionD .. | .exit _ | .ret => by simp [erase, noRF]
noncomputable def trCode (P : Program) (nt : Nat) (own sp : List Nat) : Code → Option ACode
  | .skip => some .skip
  | .region _ ops false => match trOpers P nt ops own sp false ops.toList with | some l => some (.region l) | none => none
  | .region _ ops true => match trOpers P nt ops own sp true ops.toList with | some l => if P.follows .mixedOrders = true then (if okDraw ops l = true then some (.region l) else if okDrawW ops l (planOf ops l) (earlyOf ops l) = true then some (.regionD l (planOf ops l) (earlyOf ops l)) else none) else none | none => none
  | .seq x y => match trCode P nt own sp x, trCode P nt own sp y with | some x, some y => some (.seq x y) | _, _ => none
  | .cond c x y => match trX c, trCode P nt own sp x, trCode P nt own sp y with | some c, some x, some y => some (.cond c x y) | _, _, _ => none
  | .block id x => match trCode P nt own sp x with | some x => some (.block id x) | none => none
  | .loop x => match trCode P nt own sp x with | some x => some (.loop x) | none => none
  | .exit id => some (.exit id)
  | .ret => some .ret
  | .rangeFunc g ps x y => match trX g, trCode P nt own sp x, trCode P nt own sp y with
    | some g, some x, some y => if (ps.toList.all (fun t => decide (t < nt)) && noRF x && noRF y) = true then some (.rangeF g ps.toList x y) else none
    | _, _, _ => none
  | _ => none
theorem trCode_er (own sp : List Nat) : ∀ (c : Code) {ac : ACode}, trCode P nt own sp c = some ac → erase ac = ac := by
  intro c
  induction c with
  | seq x y ihx ihy =>
    intro ac h
    simp only [trCode] at h
    split at h <;> simp only [Option.some.injEq, reduceCtorEq] at h
    subst h
    rename_i hx hy
    simp only [erase, ihx hx, ihy hy]
  | cond c x y ihx ihy =>
    intro ac h
    simp only [trCode] at h
    split at h <;> simp only [Option.some.injEq, reduceCtorEq] at h
    subst h
    rename_i hx hy
    simp only [erase, ihx hx, ihy hy]
  | block id x ih =>
    intro ac h
    simp only [trCode] at h
    split at h <;> simp only [Option.some.injEq, reduceCtorEq] at h
    subst h
    rename_i hx
    simp only [erase, ih hx]
  | loop x ih =>
    intro ac h
    simp only [trCode] at h
    split at h <;> simp only [Option.some.injEq, reduceCtorEq] at h
    subst h
    rename_i hx
    simp only [erase, ih hx]
  | rangeFunc g ps x y ihx ihy =>
    intro ac h
    simp only [trCode] at h
    split at h
    · split at h <;> simp only [Option.some.injEq, reduceCtorEq] at h
      subst h
      rename_i hx hy _
      simp only [erase, ihx hx, ihy hy]
    · simp at h
  | region id ops d =>
    intro ac h
    cases d <;> simp only [trCode] at h <;> (repeat' split at h) <;> simp only [Option.some.injEq, reduceCtorEq] at h <;> subst h <;> rfl
  | _ => intro ac h; simp only [trCode, Option.some.injEq, reduceCtorEq] at h; try (subst h; rfl)
structure LkF where
  f : ACode → ACode
  h : ∀ c, f c = c
theorem lkF_ex : Nonempty LkF := ⟨⟨id, fun _ => rfl⟩⟩
noncomputable abbrev lk : ACode → ACode := (Classical.choice lkF_ex).f
theorem lk_e (c : ACode) : lk c = c := (Classical.choice lkF_ex).h c
def hasLp : ACode → Bool
  | .loop _ | .rangeF .. => true
  | .seq x y | .cond _ x y => hasLp x || hasLp y
  | .block _ x => hasLp x
  | _ => false
def tiny : ACode → Bool
  | .skip | .exit _ | .ret => true
  | .seq x y => tiny x && tiny y
  | _ => false
noncomputable def lkC : ACode → ACode
  | .seq x y => .seq (lkC x) (bif hasLp x && !tiny y then lk (lkC y) else lkC y)
  | .cond c x y => .cond c (lkC x) (lkC y)
  | .block id x => .block id (lkC x)
  | .loop x => .loop (lk (lkC x))
  | .rangeF g ps x y => .rangeF g ps (lkC x) (lk (lkC y))
  | .skip => .skip
  | .region l => .region l
  | .regionD l o u => .regionD l o u
  | .exit id => .exit id
  | .ret => .ret
  | .seqm x y => .seqm x y
theorem lkC_eq : ∀ c, lkC c = c
  | .seq x y => by simp only [lkC, lkC_eq x, lkC_eq y, lk_e, Bool.cond_self]
  | .cond _ x y => by simp only [lkC, lkC_eq x, lkC_eq y]
  | .block _ x => by simp only [lkC, lkC_eq x]
  | .loop x => by simp only [lkC, lkC_eq x, lk_e]
  | .rangeF _ _ x y => by simp only [lkC, lkC_eq x, lkC_eq y, lk_e]
  | .skip | .region _ | .regionD .. | .exit _ | .ret | .seqm .. => rfl
def Lp (body : (Exit → St → Prop) → St → Prop) (Q : Exit → St → Prop) (s : St) : Prop :=
  ∃ (I : Nat → St → Prop) (c : List Cut), (cuts c s fun s' => ∃ n, I n s') ∧ ∀ n s, I n s → body (thn Q fun s' => ∃ c' : List Cut, cuts c' s' fun s' => ∃ m, m < n ∧ I m s') s
def Md (x y : (Exit → St → Prop) → St → Prop) (Q : Exit → St → Prop) (s : St) : Prop :=
  ∃ M : St → Prop, x (thn Q fun s' => ∃ c : List Cut, cuts c s' M) s ∧ ∀ s', M s' → y Q s'
def aw (P : Program) : ACode → (Exit → St → Prop) → St → Prop
  | .skip, Q, s => Q .normal s
  | .region l, Q, s => wpl P s l (Q .normal)
  | .regionD l o u, Q, s => ∃ W, wpcx P l u.contains W s o (Q .normal)
  | .seq x y, Q, s => aw P x (thn Q fun s' => aw P y Q s') s
  | .cond c x y, Q, s => match vx s c with
    | .bl b => (b = true → aw P x Q s) ∧ (b = false → aw P y Q s)
    | .gd g (.bl b) => g = true ∧ (b = true → aw P x Q s) ∧ (b = false → aw P y Q s)
    | _ => False
  | .block id x, Q, s => aw P x (inb id Q) s
  | .loop x, Q, s => Lp (fun Q s => aw P x Q s) Q s
  | .exit id, Q, s => Q (.exit id) s
  | .ret, Q, s => Q .ret s
  | .seqm x y, Q, s => Md (fun Q s => aw P x Q s) (fun Q s => aw P y Q s) Q s
  | .rangeF g ps x y, Q, s => match vx s g with
    | .fn (.func fid) [] cap => RangeK P (fun Q s => aw P x Q s) (fun Q s => aw P y Q s) s fid cap ps fun s' => Q .normal s'
    | _ => False
theorem least_exists {p : Nat → Prop} (h : ∃ n, p n) : ∃ n, p n ∧ ∀ m, m < n → ¬ p m := by
  obtain ⟨n, hn⟩ := h
  induction n using Nat.strongRecOn with
  | _ n ih =>
    by_cases hex : ∃ m, m < n ∧ p m
    · obtain ⟨m, hm, hp⟩ := hex; exact ih m hm hp
    · exact ⟨n, hn, fun m hm hp => hex ⟨m, hm, hp⟩⟩
noncomputable def least (p : Nat → Prop) : Nat := by
  classical exact if h : ∃ n, p n then Classical.choose (least_exists h) else 0
theorem least_spec {p : Nat → Prop} (h : ∃ n, p n) : p (least p) ∧ ∀ m, p m → least p ≤ m := by
  unfold least
  rw [dif_pos h]
  have := Classical.choose_spec (least_exists h)
  exact ⟨this.1, fun m hm => Nat.not_lt.1 fun hlt => this.2 m hlt hm⟩
theorem aw_sound (own sp : List Nat) : ∀ (c : Code) {ro : Option Nat} {Γ0 : Cx} {w0 : World} {ac : ACode} {Q : Exit → St → Prop} {s : St} {Γ : Cx} {a : Act} {w : World} {ds : List Deferred}, (ro.isSome = true → noRF ac = true) → HK Γ0 → YOk P Γ0 → trCode P nt own sp c = some (erase ac) → aw P ac Q s → Sim nt ds s Γ a → DefOk Γ0.heap.size Γ ds → w.heap = Γ.heap → Le Γ0 Γ → WF w0 w →
    c.wpIn (FW ro) 0 P (lift nt Γ0 w0 Q) a w := by
  have key : ∀ {Γ0 : Cx} {w0 : World} {Γ : Cx} {a : Act} {w : World} {ds : List Deferred} {K : St → Prop}, w.heap = Γ.heap → WF w0 w → DefOk Γ0.heap.size Γ ds → Gives nt ds Γ0 Γ a K → ∃ s' Γ', Sim nt ds s' Γ' a ∧ DefOk Γ0.heap.size Γ' ds ∧ w.heap = Γ'.heap ∧ Le Γ0 Γ' ∧ WF w0 w ∧ K s' := by
    intro Γ0 w0 Γ a w ds K b2 b4 bd hg
    obtain ⟨s', Γ', g1, g2, g3, g4⟩ := hg
    exact ⟨s', Γ', g1, bd.heap g2, by rw [g2]; exact b2, g3, b4, g4⟩
  intro c
  induction c with
  | skip =>
    intro ro Γ0 w0 ac Q s Γ a w ds hr hk0 hY ht h hs hd hw hle hwf
    simp only [trCode, Option.some.injEq] at ht
    cases ac <;> simp only [erase, reduceCtorEq] at ht
    exact wpIn_skip ⟨ds, s, Γ, hs, hd, hw, hle, hwf, h⟩
  | exit id =>
    intro ro Γ0 w0 ac Q s Γ a w ds hr hk0 hY ht h hs hd hw hle hwf
    simp only [trCode, Option.some.injEq] at ht
    cases ac <;> simp only [erase, reduceCtorEq, ACode.exit.injEq] at ht
    subst ht
    exact wpIn_exit ⟨ds, s, Γ, hs, hd, hw, hle, hwf, h⟩
  | ret =>
    intro ro Γ0 w0 ac Q s Γ a w ds hr hk0 hY ht h hs hd hw hle hwf
    simp only [trCode, Option.some.injEq] at ht
    cases ac <;> simp only [erase, reduceCtorEq] at ht
    exact wpIn_ret ⟨ds, s, Γ, hs, hd, hw, hle, hwf, h⟩
  | region id ops draw =>
    intro ro Γ0 w0 ac Q s Γ a w ds hr hk0 hY ht h hs hd hw hle hwf
    have hk : Nxt P nt ds Γ w (Q .normal) (lift nt Γ0 w0 Q .normal) := fun s' Γ' a' w' b1 b2 b3 b4 b5 => ⟨ds, s', Γ', b1, hd.le hs.mem b3, b2, hle.trans b3, hwf.trans b4, b5⟩
    have hY' := hY.le hle
    cases draw with
    | false =>
      simp only [trCode] at ht
      split at ht <;> simp only [Option.some.injEq, reduceCtorEq] at ht
      rename_i l hl
      cases ac <;> simp only [erase, reduceCtorEq, ACode.region.injEq] at ht
      subst ht
      exact region_sound hl hs hw hY' h hk
    | true =>
      simp only [trCode] at ht
      split at ht
      · rename_i l hl
        split at ht
        · rename_i hm
          split at ht
          · rename_i hok
            simp only [Option.some.injEq] at ht
            cases ac <;> simp only [erase, reduceCtorEq, ACode.region.injEq] at ht
            subst ht
            exact region_draw_sound hm hl hok hs hw hY' h hk
          · split at ht <;> simp only [Option.some.injEq, reduceCtorEq] at ht
            rename_i hok
            cases ac <;> simp only [erase, reduceCtorEq, ACode.regionD.injEq] at ht
            obtain ⟨rfl, rfl, rfl⟩ := ht
            exact region_drawW_sound hm hl hok hs hw hY' h hk
        · simp at ht
      · simp at ht
  | seq x y ihx ihy =>
    intro ro Γ0 w0 ac Q s Γ a w ds hr hk0 hY ht h hs hd hw hle hwf
    simp only [trCode] at ht
    split at ht <;> simp only [Option.some.injEq, reduceCtorEq] at ht
    rename_i ax ay hx hy
    cases ac <;> simp only [erase, reduceCtorEq, ACode.seq.injEq] at ht
    · obtain ⟨rfl, rfl⟩ := ht
      simp only [aw] at h
      simp only [noRF, Bool.and_eq_true] at hr
      refine wpIn_seq (wpIn_mono (ihx (fun e => (hr e).1) hk0 hY hx h hs hd hw hle hwf) fun e a' w' he => ?_)
      have := lift_thn he
      cases e with
      | normal =>
        obtain ⟨ds', s', Γ', b1, bd, b2, b3, b4, b5⟩ := this
        exact ihy (fun e => (hr e).2) hk0 hY hy b5 b1 bd b2 b3 b4
      | _ => exact this
    · obtain ⟨rfl, rfl⟩ := ht
      simp only [aw] at h
      simp only [noRF, Bool.and_eq_true] at hr
      obtain ⟨M, h1, h2⟩ := h
      refine wpIn_seq (wpIn_mono (ihx (fun e => (hr e).1) hk0 hY hx h1 hs hd hw hle hwf) fun e a' w' he => ?_)
      have := lift_thn he
      cases e with
      | normal =>
        obtain ⟨ds', s', Γ', b1, bd, b2, b3, b4, c, b5⟩ := this
        obtain ⟨s3, Γ3, d1, dd, d2, d3, d4, d5⟩ := key (Γ := Γ') b2 b4 bd (cuts_sound hk0 c b1 b3 b5)
        exact ihy (fun e => (hr e).2) hk0 hY hy (h2 _ d5) d1 dd d2 d3 d4
      | _ => exact this
  | cond c x y ihx ihy =>
    intro ro Γ0 w0 ac Q s Γ a w ds hrf hk0 hY ht h hs hd hw hle hwf
    simp only [trCode] at ht
    split at ht <;> simp only [Option.some.injEq, reduceCtorEq] at ht
    rename_i c' ax ay hc hx hy
    cases ac <;> simp only [erase, reduceCtorEq, ACode.cond.injEq] at ht
    obtain ⟨rfl, rfl, rfl⟩ := ht
    simp only [aw] at h
    simp only [noRF, Bool.and_eq_true] at hrf
    have hr := vx_rep hc hs
    split at h
    · rename_i b hb
      rw [hb] at hr
      simp only [RepV] at hr
      have hcv : a.eval c = .bool b := by generalize a.eval c = v at hr; cases hr; rfl
      exact wpIn_cond_split hcv (fun hb => ihx (fun e => (hrf e).1) hk0 hY hx (h.1 hb) hs hd hw hle hwf) (fun hb => ihy (fun e => (hrf e).2) hk0 hY hy (h.2 hb) hs hd hw hle hwf)
    · rename_i g b hb
      rw [hb, RepV] at hr
      have hr := hr.1 h.1
      simp only [RepV] at hr
      have hcv : a.eval c = .bool b := by generalize a.eval c = v at hr; cases hr; rfl
      exact wpIn_cond_split hcv (fun hb => ihx (fun e => (hrf e).1) hk0 hY hx (h.2.1 hb) hs hd hw hle hwf) (fun hb => ihy (fun e => (hrf e).2) hk0 hY hy (h.2.2 hb) hs hd hw hle hwf)
    · exact h.elim
  | block id x ih =>
    intro ro Γ0 w0 ac Q s Γ a w ds hr hk0 hY ht h hs hd hw hle hwf
    simp only [trCode] at ht
    split at ht <;> simp only [Option.some.injEq, reduceCtorEq] at ht
    rename_i ax hx
    cases ac <;> simp only [erase, reduceCtorEq, ACode.block.injEq] at ht
    obtain ⟨rfl, rfl⟩ := ht
    simp only [aw] at h
    exact wpIn_block (wpIn_mono (ih (fun e => by simpa only [noRF] using hr e) hk0 hY hx h hs hd hw hle hwf) fun e a' w' he => lift_inb he)
  | loop x ih =>
    intro ro Γ0 w0 ac Q s Γ a w ds hrf hk0 hY ht h hs hd hw hle hwf
    simp only [trCode] at ht
    split at ht <;> simp only [Option.some.injEq, reduceCtorEq] at ht
    rename_i ax hx
    cases ac <;> simp only [erase, reduceCtorEq, ACode.loop.injEq] at ht
    subst ht
    simp only [aw] at h
    obtain ⟨I, cs, h0, hr⟩ := h
    let J : Act → World → Nat → Prop := fun a w n => ∃ ds s Γ, Sim nt ds s Γ a ∧ DefOk Γ0.heap.size Γ ds ∧ w.heap = Γ.heap ∧ Le Γ0 Γ ∧ WF w0 w ∧ I n s
    refine wpIn_loop (fun a w => ∃ n, J a w n) (fun a w => least (J a w)) ?_ ?_
    · obtain ⟨s', Γ', b1, bd, b2, b3, b4, n, b5⟩ := key (Γ := Γ) hw hwf hd (cuts_sound hk0 cs hs hle h0)
      exact ⟨n, ds, s', Γ', b1, bd, b2, b3, b4, b5⟩
    · intro a1 w1 hJ
      obtain ⟨⟨ds1, s1, Γ1, b1, bd, b2, b3, b4, b5⟩, hmin⟩ := least_spec hJ
      refine wpIn_mono (ih (fun e => by simpa only [noRF] using hrf e) hk0 hY hx (hr _ _ b5) b1 bd b2 b3 b4) fun e a' w' he => ?_
      have := lift_thn he
      cases e with
      | normal =>
        obtain ⟨ds2, s2, Γ2, c1, cd, c2, c3, c4, cs', c5⟩ := this
        obtain ⟨s3, Γ3, d1, dd, d2, d3, d4, m, hlt, d5⟩ := key (Γ := Γ2) c2 c4 cd (cuts_sound hk0 cs' c1 c3 c5)
        have hJm : J a' w' m := ⟨ds2, s3, Γ3, d1, dd, d2, d3, d4, d5⟩
        exact ⟨⟨m, hJm⟩, Nat.lt_of_le_of_lt ((least_spec ⟨m, hJm⟩).2 m hJm) hlt⟩
      | _ => exact this
  | rangeFunc g ps x y ihx ihy =>
    intro ro Γ0 w0 ac Q s Γ a w ds hr hk0 hY ht h hs hd hw hle hwf
    simp only [trCode] at ht
    split at ht
    case h_2 => simp at ht
    rename_i g' ax ay hg hx hy
    split at ht
    case isFalse => simp at ht
    rename_i hok
    simp only [Bool.and_eq_true, List.all_eq_true, decide_eq_true_eq] at hok
    simp only [Option.some.injEq] at ht
    cases ac <;> simp only [erase, reduceCtorEq, ACode.rangeF.injEq] at ht
    obtain ⟨rfl, rfl, rfl, rfl⟩ := ht
    cases ro with
    | some l => exact absurd (hr rfl) (by simp [noRF])
    | none =>
      simp only [aw] at h
      have hrg := vx_rep hg hs
      split at h
      · rename_i fid cap hb
        rw [hb] at hrg
        have n1 := hok.1.2
        have n2 := hok.2
        rw [noRF_erase] at n1 n2
        exact range_sound (fun k1 k2 k3 k4 k5 k6 k7 k8 => ihx (fun _ => n1) k1 k2 hx k3 k4 k5 k6 k7 k8) (fun k1 k2 k3 k4 k5 k6 k7 k8 => ihy (fun _ => n2) k1 k2 hy k3 k4 k5 k6 k7 k8) hok.1.1 hs hd hw hle hwf hrg h
      · exact h.elim
  | _ => intro ro Γ0 w0 ac Q s Γ a w ds hr hk0 hY ht; simp [trCode] at ht
end Go.Ab
namespace Go.Ab
variable [Tabs]
variable {P : Program} {nt : Nat} {ds : List Deferred} {s : St} {Γ Δ Γ0 : Cx} {a : Act} {w w0 : World}
def trRes (P : Program) : ResultVar → Option AK
  | .tmp t => some (.mv (.t t))
  | .cell t ty => match aggOf P ty, szOf P ty with | some g, some n => some (.load g n (.t t)) | _, _ => none
structure AFun where
  nt : Nat
  res : List AK
  code : ACode
def AFun.er (f : AFun) : AFun := ⟨f.nt, f.res, erase f.code⟩
noncomputable def trFun (P : Program) (own sp : List Nat) (f : FuncId) : Option AFun :=
  match P.funcs[f]? with
  | some fn => if (fn.name == "runtime.NumGoroutine") = false then (match fn.body with
    | some c => match trCode P fn.ntmps own sp c, allM (trRes P) fn.results.toList with
      | some ac, some rs => some ⟨fn.ntmps, rs, ac⟩
      | _, _ => none
    | none => none) else none
  | none => none
noncomputable def rdFun (P : Program) (own sp : List Nat) (f : FuncId) : Option AFun :=
  match trFun P own sp f with | some A => some ⟨A.nt, A.res, lkC A.code⟩ | none => none
theorem rd_er {own sp : List Nat} {f : FuncId} {A : AFun} (h : rdFun P own sp f = some A) : trFun P own sp f = some A.er := by
  unfold rdFun at h
  split at h
  · rename_i B hB
    rw [hB]
    simp only [Option.some.injEq] at h
    subst h
    rw [lkC_eq]
    have h2 := hB
    unfold trFun at h2
    (repeat' split at h2) <;> simp only [Option.some.injEq, reduceCtorEq] at h2
    subst h2
    rename_i hc _ 
    simp only [AFun.er, trCode_er _ _ _ hc]
  · simp at h
abbrev RF (P : Program) (own sp : List Nat) (f : FuncId) := {A : AFun // rdFun P own sp f = some A}
def evs (s : St) : List AK → (List PV → Prop) → Prop
  | [], K => K []
  | k :: r, K => ev true s k fun p => evs s r fun ps => K (p :: ps)
def tupOf : List PV → PV
  | [p] => p
  | ps => .tup ps
def PV.flat : PV → Bool
  | .gd _ _ | .tup _ => false
  | _ => true
def RetK (n : Nat) (res : List AK) (R : PV → List Blk → Prop) (s : St) : Prop :=
  ∃ (c : List Cut) (ks : List Nat), cuts c s fun s' => evs s' res fun ps => ∃ blks, (getAll s'.bx ks = some blks ∧ ks.Nodup ∧ ks.take n = fpKeys n) ∧
    (ps.all PV.flat = true ∧ refsOk (inKs ks) (tupOf ps) = true ∧ blks.all (refsOkB (inKs ks)) = true) ∧ R (ren (ren1 ks) (tupOf ps)) (blks.map (renB (ren1 ks)))
def ends (n : Nat) (res : List AK) (R : PV → List Blk → Prop) : Exit → St → Prop
  | .ret, s | .normal, s => RetK n res R s
  | _, _ => False
def argEnv : Nat → List PV → List (Nat × PV)
  | _, [] => []
  | i, p :: r => (i, p) :: argEnv (i + 1) r
theorem get_argEnv : ∀ (l : List PV) (i k : Nat), get (argEnv i l) k = if i ≤ k then l[k - i]? else none
  | [], i, k => by simp [argEnv, get]
  | p :: l, i, k => by
    simp only [argEnv, get, get_argEnv l (i + 1) k]
    by_cases h : i = k
    · subst h; simp
    · rw [if_neg h]
      by_cases h2 : i ≤ k
      · rw [if_pos (by omega), if_pos h2, show k - i = (k - (i + 1)) + 1 by omega, List.getElem?_cons_succ]
      · rw [if_neg (by omega), if_neg h2]
theorem AllR.at : ∀ {l : List PV} {vs : List Value} {i : Nat} {p : PV}, AllR Γ l vs → l[i]? = some p → ∃ v, vs[i]? = some v ∧ RepV Γ p v
  | [], _, _, _, _, h => by simp at h
  | p :: l, [], _, _, h, _ => by simp [AllR] at h
  | p :: l, v :: vs, 0, q, h, hi => by simp at hi; subst hi; exact ⟨v, rfl, h.1⟩
  | p :: l, v :: vs, i + 1, q, h, hi => by simp at hi; simpa using AllR.at h.2 hi
theorem run_asAddr {t : TypeId} {v r : Value} (h : (Instr.loadAt t v).run P w = .ok r w) : ((do loadVar t (← asAddr v)) : Sem Value).run P w = .ok r w := by
  unfold Instr.loadAt at h
  cases v <;> first
    | (rename_i ad; cases ad <;> first | exact h | (simp [Instr.sureAddr, stuck] at h))
    | (simp [Instr.sureAddr, stuck] at h)
theorem RepV.flat1 {p : PV} {v : Value} (h : RepV Γ p v) (hf : p.flat = true) : RepV1 Γ p v := by
  cases p <;> simp [PV.flat] at hf <;> first | exact h | (simp [RepV1])
def resOf (tmps : Array Value) : ResultVar → Sem Value
  | .tmp t => pure (tmps.getD t undef)
  | .cell a t => do loadVar t (← asAddr (tmps.getD a undef))
theorem evs_run (hs : Sim nt ds s Γ a) (hw : w.heap = Γ.heap) : ∀ {rs : List ResultVar} {ks : List AK} {K : List PV → Prop}, allM (trRes P) rs = some ks → evs s ks K →
    ∃ ps vs, K ps ∧ (rs.mapM (resOf a.tmps)).run P w = .ok vs w ∧ AllR Γ ps vs
  | [], ks, K, h, he => by
    simp only [allM, Option.some.injEq] at h; subst h
    exact ⟨[], [], he, rfl, trivial⟩
  | r :: rs, ks, K, h, he => by
    simp only [allM] at h
    split at h
    · rename_i y l hy hl
      simp only [Option.some.injEq] at h; subst h
      simp only [evs] at he
      have h1 : ∃ p v, (evs s l fun ps => K (p :: ps)) ∧ (resOf a.tmps r).run P w = .ok v w ∧ RepV Γ p v := by
        cases r with
        | tmp t =>
          simp only [trRes, Option.some.injEq] at hy; subst hy
          simp only [ev] at he
          obtain ⟨p, hp, hr⟩ := vg_rep (x := .tmp t) rfl hs rfl he
          exact ⟨p, _, hp, rfl, hr⟩
        | cell t ty =>
          simp only [trRes] at hy
          split at hy <;> simp only [Option.some.injEq, reduceCtorEq] at hy
          rename_i g n hg hn; subst hy
          obtain ⟨p, v, hp, hrun, hr⟩ := snd_load (x := .tmp t) rfl hs hw rfl hg hn he
          exact ⟨p, v, hp, run_asAddr hrun, hr⟩
      obtain ⟨p, v, hp, hrun, hr⟩ := h1
      obtain ⟨ps, vs, hK, hrun2, hall⟩ := evs_run hs hw hl hp
      refine ⟨p :: ps, v :: vs, hK, ?_, hr, hall⟩
      rw [List.mapM_cons]
      simp only [Sem.run_bind, hrun, Result.andThen_ok, hrun2]
      rfl
    · simp at h
theorem allV_of : ∀ {ps : List PV} {vs : List Value}, AllR Γ ps vs → ps.all PV.flat = true → AllV Γ ps vs
  | [], [], _, _ => trivial
  | [], _ :: _, h, _ => by simp [AllR] at h
  | _ :: _, [], h, _ => by simp [AllR] at h
  | p :: ps, v :: vs, h, hf => by
    simp only [List.all_cons, Bool.and_eq_true] at hf
    exact ⟨h.1.flat1 hf.1, allV_of h.2 hf.2⟩
def retV : List Value → Value
  | [v] => v
  | vs => .tuple vs.toArray
theorem results_eq (fn : Func) (tmps : Array Value) {vs : List Value} (h : (fn.results.toList.mapM (resOf tmps)).run P w = .ok vs w) :
    (results fn tmps).run P w = .ok (retV vs) w := by
  have e : results fn tmps = (do
      let vs ← fn.results.mapM (resOf tmps)
      pure (if h : vs.size = 1 then vs[0] else .tuple vs)) := by
    unfold results
    congr 1
  have h2 : (fn.results.mapM (resOf tmps)).run P w = .ok vs.toArray w := by
    rw [Array.mapM_eq_mapM_toList, Sem.run_map, h]; rfl
  rw [e, Sem.run_bind, h2]
  simp only [Result.andThen_ok, Sem.run_pure]
  match vs with
  | [] => rfl
  | [v] => rfl
  | v :: u :: vs => rfl
theorem ret_sound {fn : Func} {rs : List AK} {fp : List Blk} {R : PV → List Blk → Prop} (hr : allM (trRes P) fn.results.toList = some rs) (h0 : Γ0.bx = fpBx 0 fp) (hk0 : HK Γ0) (hs : Sim nt ds s Γ a) (hw : w.heap = Γ.heap) (hle : Le Γ0 Γ) (h : RetK fp.length rs R s) :
    ∃ v r fp' Γ', (results fn a.tmps).run P w = .ok v w ∧ R r fp' ∧ w.heap = Γ'.heap ∧ Mem Γ' ∧ Γ'.bx = fpBx 0 fp' ∧ RepV Γ' r v ∧ Le Γ0 Γ' := by
  obtain ⟨c, ks, h⟩ := h
  obtain ⟨s', Γ1, hs1, hh, hle1, h⟩ := cuts_sound hk0 c hs hle h
  have hw1 : w.heap = Γ1.heap := by rw [hh]; exact hw
  obtain ⟨ps, vs, h, hrun, hall⟩ := evs_run hs1 hw1 hr h
  obtain ⟨blks, ⟨hg, hn, hks⟩, ⟨hf, hro, hbo⟩, hR⟩ := h
  rw [← hs1.bx] at hg
  have hsame := Cx.out_same hg
  refine ⟨_, _, _, Γ1.out ks blks, results_eq fn a.tmps hrun, hR, hw1, Cx.out_mem hs1.mem hg hn hbo, rfl, ?_, Cx.out_le hle1 h0 hg hks⟩
  have hv : RepV Γ1 (tupOf ps) (retV vs) := by
    have hl := hall.length
    match ps, vs, hall, hl with
    | [], [], _, _ => exact ⟨[], rfl, trivial⟩
    | [p], [v], hall, _ => exact hall.1
    | p :: q :: ps, v :: u :: vs, hall, _ => exact ⟨_, rfl, allV_of hall hf⟩
  exact hv.ren hsame hro
theorem leaves_marks {fn : Func} {rs : List AK} {fp : List Blk} {R : PV → List Blk → Prop} (hr : allM (trRes P) fn.results.toList = some rs) (h0 : Γ0.bx = fpBx 0 fp) (hk0 : HK Γ0) (h : RetK fp.length rs R s) :
    ∀ (Ds : List Nat) {ds : List Deferred} {Γ : Cx} {w : World}, Sim nt ds s Γ a → w.heap = Γ.heap → Le Γ0 Γ → WF w0 w → Ds.Nodup → (∀ D ∈ Ds, Γ0.heap.size ≤ D ∧ Γ.heap[D]? = some (.deferred (some []))) →
      LeavesInM (FW none) 0 P fn a.tmps (fun e w' => ∃ v r fp' Γ', e = .returned v ∧ R r fp' ∧ w'.heap = Γ'.heap ∧ Mem Γ' ∧ Γ'.bx = fpBx 0 fp' ∧ RepV Γ' r v ∧ Le Γ0 Γ' ∧ WF w0 w')
        (Ds.map fun D => { target := .collected D, args := #[] }) .returning w
  | [], ds, Γ, w, hs, hw, hle, hwf, _, _ => by
    obtain ⟨v, r, fp', Γ2, h1, h2, h3⟩ := ret_sound hr h0 hk0 hs hw hle h
    exact ⟨v, h1, v, r, fp', Γ2, rfl, h2, h3.1, h3.2.1, h3.2.2.1, h3.2.2.2.1, h3.2.2.2.2, hwf⟩
  | D :: Ds, ds, Γ, w, hs, hw, hle, hwf, hn, hd => by
    obtain ⟨hlo, hh⟩ := hd D (by simp)
    have hp : Γ.plainAt D := ⟨_, hh, rfl⟩
    obtain ⟨hnm, hn'⟩ := List.nodup_cons.1 hn
    refine ⟨by simp, .inl ⟨D, w.putObj D (.deferred none), rfl, run_takeDeferred (by rw [hw]; exact hh), ?_⟩⟩
    refine leaves_marks hr h0 hk0 h Ds (hs.obj hp) (heap_obj hw) (le_obj_right hle hlo hp) (hwf.trans (WF.obj _ _ _)) hn' (fun D' hD' => ?_)
    obtain ⟨h1, h2⟩ := hd D' (by simp [hD'])
    exact ⟨h1, by rw [obj_other (l := D) (b := D') (by rintro rfl; exact hnm hD')]; exact h2⟩
theorem fun_sound [YCtx] {f : FuncId} {A : AFun} {own sp : List Nat} {args : List PV} {fp : List Blk} {R : PV → List Blk → Prop} (ht : trFun P own sp f = some A.er) (hl : args.length ≤ A.nt)
    (h : aw P A.code (ends fp.length A.res R) ⟨argEnv 0 args, fpBx 0 fp⟩) :
    (∀ (vs : Array Value) (w : World), (callFunc f vs).run P w = .ok (.enter f vs) w) ∧ ∀ (Γ : Cx) (w : World) (vs : List Value), w.heap = Γ.heap → Mem Γ → Γ.bx = fpBx 0 fp → YOk P Γ → AllR Γ args vs →
      CallsIn (FW none) 0 P f vs.toArray w (fun e w' => ∃ v r fp' Γ', e = .returned v ∧ R r fp' ∧ w'.heap = Γ'.heap ∧ Mem Γ' ∧ Γ'.bx = fpBx 0 fp' ∧ RepV Γ' r v ∧ Le Γ Γ' ∧ WF w w') := by
  unfold trFun at ht
  split at ht
  case h_2 => simp at ht
  rename_i fn hfn
  split at ht
  case isFalse => simp at ht
  rename_i hname
  split at ht
  case h_2 => simp at ht
  rename_i c hb
  split at ht
  case h_2 => simp at ht
  rename_i ac rs hac hrs
  simp only [Option.some.injEq, AFun.er, AFun.mk.injEq] at ht
  obtain ⟨hnt, hres, hcode⟩ := ht
  subst hres hcode
  refine ⟨fun vs w => ?_, fun Γ w vs hw hm hbx hY hall => ?_⟩
  · unfold callFunc
    simp only [Sem.run_bind, run_program, Result.andThen_ok, hfn, hname, Bool.false_eq_true, if_false, hb, Option.isNone_some, Sem.run_pure]
  · have hlen := hall.length
    have hk0 : HK Γ := by
      intro k blk hk
      rw [hbx, get_fpBx] at hk
      split at hk
      · omega
      · simp at hk
    refine callsIn_of_wp_marks hfn hb trivial (wpIn_mono (aw_sound own sp c (ro := none) (ds := []) (by simp) hk0 hY hac h (Γ := Γ) (a := { tmps := vs.toArray ++ Array.replicate (fn.ntmps - vs.toArray.size) undef, defers := [] }) ⟨hbx, ?_, rfl, ?_, hm⟩ .nil hw (Le.refl Γ) (WF.refl w)) ?_)
    · simp; omega
    · intro k p hk
      rw [get_argEnv] at hk
      simp only [Nat.zero_le, if_true, Nat.sub_zero] at hk
      obtain ⟨v, hv, hr⟩ := hall.at hk
      have hlt := (List.getElem?_eq_some_iff.1 hv).1
      have e : (vs.toArray ++ Array.replicate (fn.ntmps - vs.toArray.size) undef).getD k undef = v := by
        rw [Array.getD_eq_getD_getElem?, Array.getElem?_append_left (by simpa using hlt)]
        simp [hv]
      simp only
      rw [e]; exact hr
    · rintro e a' w' ⟨ds', s', Γ', hs', ⟨Ds, hD1, hD2, hD3⟩, hw', hle', hwf', he⟩
      cases e with
      | ret => show LeavesInM _ _ _ _ _ _ a'.defers _ _; rw [hs'.defers, hD1]; exact leaves_marks hrs hbx hk0 he Ds hs' hw' hle' hwf' hD2 hD3
      | normal => show LeavesInM _ _ _ _ _ _ a'.defers _ _; rw [hs'.defers, hD1]; exact leaves_marks hrs hbx hk0 he Ds hs' hw' hle' hwf' hD2 hD3
      | _ => exact he.elim
theorem ACalls.intro {f : FuncId} {A : AFun} {own sp : List Nat} {args : List PV} {fp : List Blk} {R : PV → List Blk → Prop} (ht : trFun P own sp f = some A.er) (hl : args.length ≤ A.nt)
    (h : aw P A.code (ends fp.length A.res R) ⟨argEnv 0 args, fpBx 0 fp⟩) : ACalls P f args fp R :=
  fun Γ w vs h1 h2 h3 h4 => .inl ⟨(fun_sound ht hl h).1 _ _, FW_calls' ((fun_sound ht hl h).2 Γ w vs h1 h2 h3 .no h4)⟩
abbrev ofY (n l : Nat) (Y : List PV → List Blk → (List Blk → Prop) → Prop) : YCtx := ⟨n, fun l' args fp R => l' = l ∧ Y args fp R⟩
theorem AIter.intro {f : FuncId} {A : AFun} {own sp : List Nat} {cap : List PV} {fp : List Blk} {Y : List PV → List Blk → (List Blk → Prop) → Prop} {R : List Blk → Prop} (ht : trFun P own sp f = some A.er) (hl : cap.length + 1 ≤ A.nt)
    (h : ∀ l, @aw _ (ofY fp.length l Y) P A.code (ends fp.length A.res fun _ fp' => R fp') ⟨argEnv 0 (.fn (.yield l) [] [] :: cap), fpBx 0 fp⟩) : AIter P f cap fp Y R := by
  refine ⟨(@fun_sound _ P (ofY fp.length 0 Y) _ _ _ _ _ _ _ ht (by simpa using hl) (h 0)).1, fun Γ w vs l rec h1 h2 h3 h4 h5 h6 => ?_⟩
  have hr : RepV Γ (.fn (.yield l) [] []) (.func (.yield l) #[] #[]) := by
    simp only [RepV]
    exact .fn (.yield l) [] [] .nil .nil (by simp) (by simp) .nil
  have := (@fun_sound _ P (ofY fp.length l Y) _ _ _ _ _ _ _ ht (by simpa using hl) (h l)).2 Γ w (.func (.yield l) #[] #[] :: vs) h1 h2 h3 (fun l' args fp1 R1 hsp => by
    obtain ⟨rfl, hsp⟩ := hsp
    refine ⟨Γ, rec, Le.refl Γ, fun k blk hk => ?_, h5, h2, h6 args fp1 R1 hsp⟩
    rw [h3, get_fpBx] at hk
    split at hk
    · have := (List.getElem?_eq_some_iff.1 hk).1
      show KB ≤ k ∧ k < KB + fp.length
      omega
    · simp at hk) ⟨hr, h4⟩
  have e : #[Value.func (.yield l) #[] #[]] ++ vs.toArray = (Value.func (.yield l) #[] #[] :: vs).toArray := by apply Array.ext'; simp
  rw [e]
  refine this.mono ?_
  rintro e w' ⟨v, r, fp', Γ', e1, e2, e3, e4, e5, e6, e7, e8⟩
  exact ⟨v, fp', Γ', e1, e2, e3, e4, e5, e7, e8⟩
end Go.Ab
