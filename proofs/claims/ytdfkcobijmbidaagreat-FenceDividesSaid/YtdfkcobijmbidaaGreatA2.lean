/- Each quiet operation does what its abstract reading says. No condition. -/
import Derived.Test.YtdfkcobijmbidaaGreatA1
set_option linter.all false
namespace Go.Ab
variable [Tabs]
variable {P : Program} {nt : Nat} {ds : List Deferred} {s : St} {Γ : Cx} {a : Act} {w : World}
theorem RepV.int {k : IntKind} {n : Int} {v : Value} (h : RepV Γ (.int k n) v) : v = .int k n := by
  simp only [RepV] at h; cases h; rfl
theorem RepV.bl {x : Bool} {v : Value} (h : RepV Γ (.bl x) v) : v = .bool x := by
  simp only [RepV] at h; cases h; rfl
theorem RepV.str {l : List UInt8} {v : Value} (h : RepV Γ (.str l) v) : ∃ s : ByteArray, v = .string s ∧ s.data.toList = l := by
  simp only [RepV] at h; cases h with | str l s h _ => exact ⟨s, rfl, h⟩
theorem RepV.np {v : Value} (h : RepV Γ .np v) : v = .pointer none := by
  simp only [RepV] at h; cases h; rfl
theorem RepV.nf {v : Value} (h : RepV Γ .nf v) : v = .nilFunc := by
  simp only [RepV] at h; cases h; rfl
theorem RepV.pt {k tot : Nat} {p : List Step} {v : Value} {blk : Blk} (h : RepV Γ (.pt k p tot) v) (hg : get Γ.bx k = some blk) (ht : tot = blk.tot) :
    ∃ b, Γ.ι k = some b ∧ v = .pointer (some ⟨b, poff p, none⟩) := by
  simp only [RepV] at h
  cases h with
  | pt k p tot v blk' hg' h1 hv _ =>
    rw [hg] at hg'
    obtain ⟨h2, h3⟩ := hg'
    cases h2
    exact hv ht
theorem RepV.rs {k off len tot sz : Nat} {c : CapK} {p : List Step} {v : Value} {blk : Blk} (h : RepV Γ (.rs k p off len tot sz c) v) (hg : get Γ.bx k = some blk) (ht : tot = blk.tot) :
    ∃ a rcap, v = .slice a len rcap ∧ RsOk Γ k p off len sz c a rcap := by
  simp only [RepV] at h
  cases h with
  | rs k p off len tot sz c v blk' hg' h1 hv _ =>
    rw [hg] at hg'
    obtain ⟨h2, h3⟩ := hg'
    cases h2
    exact hv ht
theorem RepV.fp {sz : Nat} {l : List PV} {p : List Step} {v : Value} (h : RepV Γ (.fp sz l p) v) :
    ∃ b o cs, v = .pointer (some ⟨b, o + poff p, none⟩) ∧ RepL Γ l cs ∧ (∀ x ∈ l, x.width = sz) ∧ (b < Γ.heap.size ∧ ¬ Γ.own b) ∧ ∀ i c, cs[i]? = some c → cell Γ.heap b (o + i) = some c := by
  simp only [RepV] at h
  cases h with
  | @fp _ _ cs sz l p b o hl hw hm hc _ => exact ⟨b, o, cs, rfl, hl, hw, hm, hc⟩
theorem RepV.sl {sz : Nat} {l : List PV} {clip : Bool} {v : Value} (h : RepV Γ (.sl sz l clip) v) :
    ∃ a rcap cs, v = .slice a l.length rcap ∧ RepL Γ l cs ∧ (∀ x ∈ l, x.width = sz) ∧ l.length ≤ rcap ∧ (clip = true → rcap = l.length) ∧
      (l ≠ [] → ∃ b o, a = some ⟨b, o, none⟩ ∧ b < Γ.heap.size ∧ ¬ Γ.own b ∧ ∀ i c, cs[i]? = some c → cell Γ.heap b (o + i) = some c) := by
  simp only [RepV] at h
  cases h with
  | @sl _ _ cs sz l clip a rcap hl hw hc hk hb _ => exact ⟨a, rcap, cs, rfl, hl, hw, hc, hk, hb⟩
theorem RepV.fn {f : Fn} {first cap : List PV} {v : Value} (h : RepV Γ (.fn f first cap) v) :
    ∃ fs cs : List Value, v = .func f fs.toArray cs.toArray ∧ RepL Γ first fs ∧ RepL Γ cap cs ∧ (∀ x ∈ first, x.isAgg = false) ∧ (∀ x ∈ cap, x.isAgg = false) := by
  simp only [RepV] at h
  cases h with
  | @fn _ _ fs cs f first cap h1 h2 h3 h4 _ => exact ⟨fs, cs, rfl, h1, h2, h3, h4⟩
theorem RepV.of_cells {p : PV} {cs : List Value} (h : RepL Γ [p] cs) (hne : p.isAgg = true) : RepV Γ p (.agg cs.toArray) := by
  cases p <;> simp [PV.isAgg] at hne
  · exact ⟨cs, rfl, h⟩
  · exact ⟨cs, rfl, h⟩
theorem RepV.of_cell {p : PV} {v : Value} (h : RepL Γ [p] [v]) (hne : p.isAgg = false) : RepV Γ p v := by
  cases p <;> simp [PV.isAgg] at hne <;> first | exact h | trivial | (cases h; done)
theorem RepV.cells {p : PV} {v : Value} (h : RepV Γ p v) (hne : p.isAgg = true) : ∃ cs : List Value, v = .agg cs.toArray ∧ RepL Γ [p] cs := by
  cases p <;> simp [PV.isAgg] at hne
  · exact h
  · exact h
theorem RepV.to_cells {p : PV} {v : Value} (h : RepV Γ p v) (hc : p.cellular = true) : RepL Γ [p] v.cells.toList := by
  cases p <;> simp [PV.cellular] at hc
  case st w l => obtain ⟨cs, rfl, h⟩ := h; simpa [Value.cells] using h
  case ar sz n l => obtain ⟨cs, rfl, h⟩ := h; simpa [Value.cells] using h
  all_goals
    simp only [RepV] at h
    have h1 := h.one v (by simp)
    have : v.cells = #[v] := by cases v <;> simp_all [oneCell, Value.cells]
    rw [this]; exact h
theorem trV_rep {v : Value} {p : PV} (h : trV v = some p) : RepV Γ p v := by
  unfold trV at h
  split at h <;> simp only [Option.some.injEq, reduceCtorEq] at h <;> subst h <;> simp only [RepV]
  · exact .bl _ .nil
  · exact .int _ _ .nil
  · exact .str _ _ rfl .nil
  · exact .np .nil
  · exact .sl 0 [] true none 0 .nil (by simp) (Nat.le_refl _) (fun _ => rfl) (fun h => absurd rfl h) .nil
  · exact .nf .nil
  · exact .ni .nil
theorem vx_rep {x : Operand} {y : AX} (h : trX x = some y) (hs : Sim nt ds s Γ a) : RepV Γ (vx s y) (a.eval x) := by
  cases x with
  | tmp t =>
    simp only [trX, Option.some.injEq] at h
    subst h
    simp only [vx, Act.eval]
    cases hg : get s.env t with
    | none => simp [RepV]
    | some p => simpa using hs.env t p hg
  | const v =>
    simp only [trX] at h
    split at h
    · rename_i p hp
      simp only [Option.some.injEq] at h; subst h
      exact trV_rep hp
    · exact absurd h (by simp)
  | global g => simp [trX] at h
  | func f =>
    simp only [trX, Option.some.injEq] at h
    subst h
    simp only [vx, Act.eval, RepV]
    simpa using RepL.fn (Γ := Γ) (fs := []) (cs := []) (.func f) [] [] .nil .nil (by simp) (by simp) .nil
theorem vg_rep {g : Bool} {x : Operand} {y : AX} {K : PV → Prop} (h : trX x = some y) (hs : Sim nt ds s Γ a) (hg : g = true) (hv : vg g s y K) :
    ∃ p, K p ∧ RepV Γ p (a.eval x) := by
  have hr := vx_rep h hs
  unfold vg at hv
  split at hv
  · rename_i b p hb
    rw [hb] at hr
    exact ⟨p, hv.2, by rw [RepV] at hr; exact hr.1 (hv.1 hg)⟩
  · exact ⟨_, hv, hr⟩
theorem vgs_rep {g : Bool} (hs : Sim nt ds s Γ a) (hg : g = true) : ∀ {xs : List Operand} {ys : List AX} {K : List PV → Prop}, trXs xs = some ys → vgs g s ys K →
    ∃ ps, K ps ∧ ps.length = xs.length ∧ ∀ (i : Nat) p x, ps[i]? = some p → xs[i]? = some x → RepV Γ p (a.eval x)
  | [], ys, K, h, hv => by
    simp only [trXs, Option.some.injEq] at h; subst h
    exact ⟨[], hv, rfl, by simp⟩
  | x :: xs, ys, K, h, hv => by
    simp only [trXs] at h
    split at h
    · rename_i y l hy hl
      simp only [Option.some.injEq] at h; subst h
      obtain ⟨p, hp, hr⟩ := vg_rep hy hs hg hv
      obtain ⟨ps, hps, hlen, hall⟩ := vgs_rep hs hg hl hp
      refine ⟨p :: ps, hps, by simp [hlen], fun i q z h1 h2 => ?_⟩
      cases i with
      | zero => simp at h1 h2; subst h1 h2; exact hr
      | succ i => simp at h1 h2; exact hall i q z h1 h2
    · exact absurd h (by simp)
theorem vgp_rep {g : Bool} (hs : Sim nt ds s Γ a) (hg : g = true) : ∀ {xs : List (Nat × Operand)} {ys : List (Nat × AX)} {K : List (Nat × PV) → Prop}, trParts xs = some ys → vgp g s ys K →
    ∃ ps, K ps ∧ ps.length = xs.length ∧ ∀ (i : Nat) j p k x, ps[i]? = some (j, p) → xs[i]? = some (k, x) → j = k ∧ RepV Γ p (a.eval x)
  | [], ys, K, h, hv => by
    simp only [trParts, Option.some.injEq] at h; subst h
    exact ⟨[], hv, rfl, by simp⟩
  | (n, x) :: xs, ys, K, h, hv => by
    simp only [trParts] at h
    split at h
    · rename_i y l hy hl
      simp only [Option.some.injEq] at h; subst h
      obtain ⟨p, hp, hr⟩ := vg_rep hy hs hg hv
      obtain ⟨ps, hps, hlen, hall⟩ := vgp_rep hs hg hl hp
      refine ⟨(n, p) :: ps, hps, by simp [hlen], fun i j q k z h1 h2 => ?_⟩
      cases i with
      | zero => simp at h1 h2; obtain ⟨rfl, rfl⟩ := h1; obtain ⟨rfl, rfl⟩ := h2; exact ⟨rfl, hr⟩
      | succ i => simp at h1 h2; exact hall i j q k z h1 h2
    · exact absurd h (by simp)
theorem intK_rep {p : PV} {K : Int → Prop} {v : Value} (h : intK p K) (hr : RepV Γ p v) : ∃ k n, v = .int k n ∧ K n := by
  unfold intK at h
  split at h
  · exact ⟨_, _, hr.int, h⟩
  · exact h.elim
def Yield (P : Program) (Γ : Cx) (w : World) (x : Sem Value) (K : PV → Prop) : Prop :=
  ∃ p v, K p ∧ x.run P w = .ok v w ∧ RepV Γ p v
theorem Yield.pure {K : PV → Prop} {p : PV} {v : Value} (h : K p) (hr : RepV Γ p v) : Yield P Γ w (Pure.pure v) K := ⟨p, v, h, rfl, hr⟩
theorem repV_bl {x : Bool} : RepV Γ (.bl x) (.bool x) := by simp only [RepV]; exact .bl _ .nil
theorem repV_int {k : IntKind} {n : Int} : RepV Γ (.int k n) (.int k n) := by simp only [RepV]; exact .int _ _ .nil
theorem repV_str {b : ByteArray} : RepV Γ (.str b.data.toList) (.string b) := by simp only [RepV]; exact .str _ _ rfl .nil
theorem repV_str' {b : ByteArray} {l : List UInt8} (h : b.data.toList = l) : RepV Γ (.str l) (.string b) := by subst h; exact repV_str
theorem toList_data (b : ByteArray) : b.toList = b.data.toList := by rw [ByteArray.toList_eq]
theorem bin_int {op : BinOp} {t : TypeId} {k k' : IntKind} {m n : Int} {K : PV → Prop} (hk : op = .shl ∨ op = .shr ∨ k = k') (h : binI op k m n K) :
    Yield P Γ w (binOp op t (.int k m) (.int k' n)) K := by
  rcases hk with rfl | rfl | rfl
  · obtain ⟨h1, h2⟩ := h
    refine ⟨_, _, h2, ?_, repV_int⟩
    simp only [binOp, Op.shift]
    rw [if_neg (by omega)]; rfl
  · obtain ⟨h1, h2⟩ := h
    refine ⟨_, _, h2, ?_, repV_int⟩
    simp only [binOp, Op.shift]
    rw [if_neg (by omega)]; rfl
  · cases op <;> simp only [binI] at h
    case quo => exact ⟨_, _, h.2, by simp [binOp, Op.intDiv, h.1], repV_int⟩
    case rem => exact ⟨_, _, h.2, by simp [binOp, Op.intDiv, h.1], repV_int⟩
    case shl => exact ⟨_, _, h.2, by simp only [binOp, Op.shift]; rw [if_neg (by omega)]; rfl, repV_int⟩
    case shr => exact ⟨_, _, h.2, by simp only [binOp, Op.shift]; rw [if_neg (by omega)]; rfl, repV_int⟩
    case andNot => exact ⟨_, _, h, by rw [binOp_andNot]; rfl, repV_int⟩
    case and => exact ⟨_, _, h, by rw [binOp_and]; rfl, repV_int⟩
    case or => exact ⟨_, _, h, by rw [binOp_or]; rfl, repV_int⟩
    case xor => exact ⟨_, _, h, by rw [binOp_xor]; rfl, repV_int⟩
    case add => exact ⟨_, _, h, by rw [binOp_add]; rfl, repV_int⟩
    case sub => exact ⟨_, _, h, by rw [binOp_sub]; rfl, repV_int⟩
    case mul => exact ⟨_, _, h, by rw [binOp_mul]; rfl, repV_int⟩
    all_goals exact ⟨_, _, h, by simp [binOp, Op.intCmp], repV_bl⟩
theorem bin_str {op : BinOp} {t : TypeId} {x y : ByteArray} {K : PV → Prop} (h : binS op x.data.toList y.data.toList K) :
    Yield P Γ w (binOp op t (.string x) (.string y)) K := by
  cases op <;> simp only [binS] at h <;> first | exact h.elim | skip
  case add =>
    refine ⟨_, _, h.2, ?_, repV_str' (b := x ++ y) (by simp)⟩
    have : ¬ ((x.size + y.size : Nat) : Int) > IntKind.i64.max := by
      have h1 := h.1
      have e1 : x.data.toList.length = x.size := Array.length_toList
      have e2 : y.data.toList.length = y.size := Array.length_toList
      have e3 : IntKind.i64.max = 9223372036854775807 := by decide
      omega
    simp only [binOp, Op.stringOp]
    rw [if_neg this]; rfl
  all_goals
    refine ⟨_, _, h, ?_, repV_bl⟩
    simp [binOp, Op.stringOp, toList_data]
end Go.Ab
namespace Go.Ab
variable [Tabs]
variable {P : Program} {nt : Nat} {ds : List Deferred} {s : St} {Γ : Cx} {a : Act} {w : World}
theorem getB_arr {l : List PV} {sz : Nat} {p : List Step} {u : PV} {cs : List Value} (h : RepL Γ l cs) (hw : ∀ x ∈ l, x.width = sz) (hg : getB (.arr sz l) p = some u) :
    poff p + u.width ≤ cs.length ∧ RepL Γ [u] ((cs.drop (poff p)).take u.width) := by
  cases p with
  | nil => simp [getB] at hg
  | cons x p =>
    cases x with
    | f i o => simp [getB] at hg
    | i j s =>
      simp only [getB] at hg
      split at hg
      · rename_i hs
        subst hs
        split at hg
        · rename_i c hc
          have h3 := h.at hc
          obtain ⟨h4, h5⟩ := getP_rep p h3 hg
          have h6 := h3.width1
          have := getL_rep h hc (by omega) rfl h5
          have hj := (List.getElem?_eq_some_iff.1 hc).1
          rw [widths_take hw (by omega)] at this
          simpa [poff] using this
        · exact absurd hg (by simp)
      · exact absurd hg (by simp)
    | w o n s =>
      simp only [getB] at hg
      split at hg
      · rename_i hs
        obtain ⟨rfl, hs⟩ := hs
        obtain ⟨h1, h2⟩ := h.win hw hs
        have h1' := h1.ar1 (sz := s) (n := n) (by rw [List.length_take, List.length_drop, Nat.min_eq_left (by omega)]) (fun x hx => hw x (List.mem_of_mem_drop (List.mem_of_mem_take hx)))
        obtain ⟨h3, h4⟩ := getP_rep p h1' hg
        rw [List.length_take, List.length_drop] at h3
        rw [drop_take_drop_take _ _ _ _ _ (by omega)] at h4
        refine ⟨by simp only [poff]; omega, by simpa only [poff] using h4⟩
      · exact absurd hg (by simp)
theorem cells_sub {heap : Array Obj} {b o : Nat} {cs : List Value} (h : ∀ i c, cs[i]? = some c → cell heap b (o + i) = some c) (p n : Nat) :
    ∀ i c, ((cs.drop p).take n)[i]? = some c → cell heap b (o + p + i) = some c := by
  intro i c hc
  rw [List.getElem?_take] at hc
  split at hc
  · rw [List.getElem?_drop] at hc
    have := h _ _ hc
    rwa [Nat.add_assoc]
  · exact absurd hc (by simp)
theorem cells_block {heap : Array Obj} {b : Nat} {c : Array Value} {e : TypeId} {fr : Nat × Nat} (h : heap[b]? = some (.cells c e fr)) (cs rest : List Value) (hc : c.toList = cs ++ rest) :
    ∀ i x, cs[i]? = some x → cell heap b (0 + i) = some x := by
  intro i x hx
  simp only [cell, h, Nat.zero_add]
  have hi := (List.getElem?_eq_some_iff.1 hx).1
  rw [← Array.getElem?_toList, hc, List.getElem?_append_left hi, hx]
theorem Mem.at (hm : Mem Γ) {k b : Nat} {blk : Blk} {p : List Step} {u : PV} (hg : get Γ.bx k = some blk) (hb : Γ.ι k = some b) (hu : getB blk p = some u) :
    ∃ cs, RepL Γ [u] cs ∧ ∀ i c, cs[i]? = some c → cell Γ.heap b (poff p + i) = some c := by
  have h := hm.blk k blk hg
  cases blk with
  | box v =>
    obtain ⟨b', c, e, h1, h2, h3⟩ := h
    rw [hb] at h1; cases h1
    obtain ⟨h4, h5⟩ := getP_rep p h3 (by simpa [getB] using hu)
    refine ⟨_, h5, ?_⟩
    have := cells_sub (cells_block h2 c.toList [] (by simp)) (poff p) u.width
    simpa using this
  | arr sz l =>
    obtain ⟨h1, h2, h3⟩ := h
    rw [hb] at h3
    obtain ⟨c, e, cs, rest, h4, h5, h6⟩ := h3
    obtain ⟨h7, h8⟩ := getB_arr h6 h1 hu
    refine ⟨_, h8, ?_⟩
    have := cells_sub (cells_block h4 cs rest h5) (poff p) u.width
    simpa using this
  | map b0 ks vs l => simp [getB] at hu
theorem cell?_eq (w : World) (b o : Nat) : w.cell? ⟨b, o, none⟩ = cell w.heap b o := by
  simp only [World.cell?, cell]
  split <;> simp_all
theorem run_isAgg {t : TypeId} {g : Bool} (h : aggOf P t = some g) : (isAgg t).run P w = .ok g w := by
  unfold aggOf at h
  split at h <;> simp only [Option.some.injEq, reduceCtorEq] at h
  · rename_i fs hu; subst h; simp [isAgg, run_underlying hu]
  · rename_i n e hu; subst h; simp [isAgg, run_underlying hu]
  · rename_i d h1 h2 hu; subst h
    simp only [isAgg, Sem.run_bind, run_underlying hu, Result.andThen_ok]
    try split
    all_goals simp_all
theorem run_sizeOf {t : TypeId} {n : Nat} (h : szOf P t = some n) : (sizeOf t).run P w = .ok n w := by
  unfold szOf at h
  split at h <;> simp only [Option.some.injEq, reduceCtorEq] at h
  rename_i i hi; subst h
  simp [sizeOf, typeInfo, hi]
theorem add_addr (b o n : Nat) : Addr.add ⟨b, o, none⟩ n = ⟨b, o + n, none⟩ := by
  simp only [Addr.add]; split
  · subst_vars; rfl
  · rfl
theorem run_loadVar {t : TypeId} {u : PV} {cs : List Value} {b o : Nat} (hr : RepL Γ [u] cs) (hc : ∀ i c, cs[i]? = some c → cell w.heap b (o + i) = some c)
    (hg : aggOf P t = some u.isAgg) (hn : szOf P t = some u.width) : ∃ v, (loadVar t ⟨b, o, none⟩).run P w = .ok v w ∧ RepV Γ u v := by
  have hl := hr.width1
  cases ha : u.isAgg with
  | true =>
    refine ⟨.agg cs.toArray, ?_, RepV.of_cells hr ha⟩
    rw [ha] at hg
    simp only [loadVar, Sem.run_bind, run_isAgg hg, Result.andThen_ok, if_true, run_sizeOf hn]
    rw [← hl, run_loadCells_list w ⟨b, o, none⟩ cs (fun j v hj => by rw [add_addr, cell?_eq]; exact hc j v hj)]
    rfl
  | false =>
    have h1 : u.width = 1 := by cases u <;> simp [PV.isAgg] at ha <;> rfl
    rw [h1] at hl
    obtain ⟨v, rfl⟩ := List.length_eq_one_iff.1 hl
    refine ⟨v, ?_, RepV.of_cell hr ha⟩
    rw [ha] at hg
    have := hc 0 v rfl
    simp only [loadVar, Sem.run_bind, run_isAgg hg, Result.andThen_ok, Bool.false_eq_true, if_false, run_load, cell?_eq]
    rw [Nat.add_zero] at this
    rw [this]
theorem snd_load {t : TypeId} {x : Operand} {y : AX} {g : Bool} {G : Bool} {n : Nat} {K : PV → Prop} (hx : trX x = some y) (hs : Sim nt ds s Γ a) (hw : w.heap = Γ.heap) (hG : G = true)
    (ha : aggOf P t = some g) (hn : szOf P t = some n) (he : ev G s (.load g n y) K) : Yield P Γ w (Instr.loadAt t (a.eval x)) K := by
  simp only [ev] at he
  obtain ⟨p, hp, hr⟩ := vg_rep hx hs hG he
  split at hp
  · rename_i k p tot
    split at hp
    · rename_i blk hb
      split at hp
      · rename_i u hu
        obtain ⟨⟨h1, h2, h3⟩, hK⟩ := hp
        rw [← hs.bx] at hb
        obtain ⟨b, hι, hv⟩ := hr.pt hb h1
        obtain ⟨cs, hc1, hc2⟩ := hs.mem.at hb hι hu
        obtain ⟨v, hv1, hv2⟩ := run_loadVar (P := P) (w := w) (b := b) (o := poff p) hc1 (by rw [hw]; exact hc2) (by rw [h3]; exact ha) (by rw [h2]; exact hn)
        exact ⟨u, v, hK, by rw [hv]; simpa [Instr.loadAt, Instr.sureAddr] using hv1, hv2⟩
      · exact hp.elim
    · exact hp.elim
  · rename_i sz l p
    split at hp
    · rename_i u hu
      obtain ⟨⟨h2, h3⟩, hK⟩ := hp
      obtain ⟨b, o, cs, hv, hl, hwd, hm, hc⟩ := hr.fp
      obtain ⟨h4, h5⟩ := getB_arr hl hwd hu
      obtain ⟨v, hv1, hv2⟩ := run_loadVar (P := P) (w := w) (b := b) (o := o + poff p) h5 (by rw [hw]; exact cells_sub hc (poff p) u.width) (by rw [h3]; exact ha) (by rw [h2]; exact hn)
      exact ⟨u, v, hK, by rw [hv]; simpa [Instr.loadAt, Instr.sureAddr] using hv1, hv2⟩
    · exact hp.elim
  · exact hp.elim
theorem RepV.mkpt {k b tot : Nat} {p : List Step} {blk : Blk} (hb : get Γ.bx k = some blk) (ht : tot = blk.tot) (hι : Γ.ι k = some b) {o : Nat} (ho : o = poff p) :
    RepV Γ (.pt k p tot) (.pointer (some ⟨b, o, none⟩)) := by
  subst ho
  simp only [RepV]
  exact .pt k p tot _ blk ⟨hb, by omega⟩ rfl (fun _ => ⟨b, hι, rfl⟩) .nil
theorem RepV.mkfp {sz b o : Nat} {l : List PV} {cs : List Value} {p : List Step} (hl : RepL Γ l cs) (hw : ∀ x ∈ l, x.width = sz) (hm : b < Γ.heap.size ∧ ¬ Γ.own b)
    (hc : ∀ i c, cs[i]? = some c → cell Γ.heap b (o + i) = some c) {q : Nat} (hq : q = o + poff p) : RepV Γ (.fp sz l p) (.pointer (some ⟨b, q, none⟩)) := by
  subst hq
  simp only [RepV]
  exact .fp sz l p b o hl hw hm hc .nil
theorem snd_fieldA {t : TypeId} {x : Operand} {y : AX} {G : Bool} {K : PV → Prop} {i m : Nat} {fs : Array Field} {f : Field} (hx : trX x = some y) (hs : Sim nt ds s Γ a) (hG : G = true)
    (hu : P.underlying t = some (.struct fs)) (hf : fs[i]? = some f) (hn : szOf P f.type = some (m + 1)) (he : ev G s (.fieldA i f.offset y) K) :
    Yield P Γ w (Instr.fieldAt t (a.eval x) i) K := by
  simp only [ev] at he
  obtain ⟨p, hp, hr⟩ := vg_rep hx hs hG he
  have key : ∀ b o, (Instr.fieldAt t (.pointer (some ⟨b, o, none⟩)) i).run P w = .ok (.pointer (some ⟨b, o + f.offset, none⟩)) w := by
    intro b o
    simp only [Instr.fieldAt, Sem.run_bind, run_underlying hu, Result.andThen_ok, hf, Instr.sureAddr, Sem.run_pure, fieldPlace, run_sizeOf hn]
    rw [if_neg (by omega)]
    simp [add_addr]
  split at hp
  · rename_i k p tot
    split at hp
    · rename_i blk hb
      rw [← hs.bx] at hb
      obtain ⟨b, hι, hv⟩ := hr.pt hb hp.1
      exact ⟨_, _, hp.2, by rw [hv]; exact key _ _, .mkpt hb hp.1 hι (by simp [poff_append, poff])⟩
    · exact hp.elim
  · rename_i sz l p
    obtain ⟨b, o, cs, hv, hl, hwd, hm, hc⟩ := hr.fp
    exact ⟨_, _, hp, by rw [hv]; exact key _ _, .mkfp hl hwd hm hc (by simp [poff_append, poff]; omega)⟩
  · exact hp.elim
theorem snd_indexA_sl {t e : TypeId} {x i : Operand} {y j : AX} {G : Bool} {K : PV → Prop} {n : Nat} (hx : trX x = some y) (hi : trX i = some j) (hs : Sim nt ds s Γ a) (hG : G = true)
    (hu : P.underlying t = some (.slice e)) (hn : szOf P e = some n) (he : ev G s (.indexA (.sl n) y j) K) : Yield P Γ w (Instr.indexAt t (a.eval x) (a.eval i)) K := by
  simp only [ev] at he
  obtain ⟨p, hp, hr⟩ := vg_rep hx hs hG he
  obtain ⟨q, hq, hr2⟩ := vg_rep hi hs hG hp
  obtain ⟨k, m, hm, hK⟩ := intK_rep hq hr2
  rw [hm]
  have key : ∀ b o (len cap : Nat), 0 ≤ m → m < len → (Instr.indexAt t (.slice (some ⟨b, o, none⟩) len cap) (.int k m)).run P w = .ok (.pointer (some ⟨b, o + m.toNat * n, none⟩)) w := by
    intro b o len cap h0 h1
    simp only [Instr.indexAt, asIntOf, Sem.run_bind, Sem.run_pure, run_underlying hu, Result.andThen_ok]
    rw [if_pos ⟨h0, h1⟩]
    simp [run_sizeOf hn, add_addr]
  split at hK
  · rename_i sz' l clip
    obtain ⟨⟨rfl, h0, h1⟩, hK⟩ := hK
    obtain ⟨ad, rcap, cs, hv, hl, hwd, hc, hk, hb⟩ := hr.sl
    obtain ⟨b, o, rfl, hlt, hown, hcell⟩ := hb (by intro h; subst h; simp at h1; omega)
    rw [hv]
    exact ⟨_, _, hK, key _ _ _ _ h0 h1, .mkfp hl hwd ⟨hlt, hown⟩ hcell (by simp [poff])⟩
  · rename_i kk p off len tot sz' c
    split at hK
    · rename_i blk hb
      obtain ⟨⟨h1, rfl, h2, h3⟩, hK⟩ := hK
      rw [← hs.bx] at hb
      obtain ⟨ad, rcap, hv, hok⟩ := hr.rs hb h1
      unfold RsOk at hok
      cases hι : Γ.ι kk with
      | none => rw [hι] at hok; omega
      | some b =>
        rw [hι] at hok
        obtain ⟨h4, h5, _⟩ := hok
        rcases h5 with h5 | rfl
        · omega
        rw [hv]
        exact ⟨_, _, hK, key _ _ _ _ h2 h3, .mkpt hb h1 hι (by simp [poff_append, poff, Nat.add_mul]; omega)⟩
    · exact hK.elim
  · exact hK.elim
theorem snd_s2a {t e : TypeId} {x : Operand} {y : AX} {G : Bool} {K : PV → Prop} {n sz : Nat} (hx : trX x = some y) (hs : Sim nt ds s Γ a) (hG : G = true)
    (hu : P.underlying t = some (.array n e)) (he : ev G s (.s2a n sz y) K) : Yield P Γ w (Instr.arrayAt t (a.eval x)) K := by
  simp only [ev] at he
  obtain ⟨p, hp, hr⟩ := vg_rep hx hs hG he
  have key : ∀ (ad : Option Addr) (len cap : Nat), n ≤ len → (Instr.arrayAt t (.slice ad len cap)).run P w = .ok (.pointer ad) w := by
    intro ad len cap h
    simp only [Instr.arrayAt, Sem.run_bind, run_underlying hu, Result.andThen_ok]
    rw [if_neg (by omega)]; rfl
  split at hp
  · rename_i sz' l clip
    obtain ⟨⟨rfl, h0, h1⟩, hK⟩ := hp
    obtain ⟨ad, rcap, cs, hv, hl, hwd, hc, hk, hb⟩ := hr.sl
    obtain ⟨b, o, rfl, hlt, hown, hcell⟩ := hb (by intro h; subst h; simp at h1; omega)
    rw [hv]
    exact ⟨_, _, hK, key _ _ _ h1, .mkfp hl hwd ⟨hlt, hown⟩ hcell (by simp [poff])⟩
  · rename_i kk p off len tot sz' c
    split at hp
    · rename_i blk hb
      obtain ⟨⟨h1, rfl, h2, h3⟩, hK⟩ := hp
      rw [← hs.bx] at hb
      obtain ⟨ad, rcap, hv, hok⟩ := hr.rs hb h1
      unfold RsOk at hok
      cases hι : Γ.ι kk with
      | none => rw [hι] at hok; omega
      | some b =>
        rw [hι] at hok
        obtain ⟨h4, h5, _⟩ := hok
        rcases h5 with h5 | rfl
        · omega
        rw [hv]
        exact ⟨_, _, hK, key _ _ _ h3, .mkpt hb h1 hι (by simp [poff_append, poff])⟩
    · exact hp.elim
  · exact hp.elim
theorem snd_indexA_ar {t e : TypeId} {x i : Operand} {y j : AX} {G : Bool} {K : PV → Prop} {len n : Nat} (hx : trX x = some y) (hi : trX i = some j) (hs : Sim nt ds s Γ a) (hG : G = true)
    (hu : P.underlying t = some (.array len e)) (hn : szOf P e = some n) (he : ev G s (.indexA (.ar len n) y j) K) : Yield P Γ w (Instr.indexAt t (a.eval x) (a.eval i)) K := by
  simp only [ev] at he
  obtain ⟨p, hp, hr⟩ := vg_rep hx hs hG he
  obtain ⟨q, hq, hr2⟩ := vg_rep hi hs hG hp
  obtain ⟨k, m, hm, ⟨h0, h1⟩, hK⟩ := intK_rep hq hr2
  rw [hm]
  have key : ∀ b o, (Instr.indexAt t (.pointer (some ⟨b, o, none⟩)) (.int k m)).run P w = .ok (.pointer (some ⟨b, o + m.toNat * n, none⟩)) w := by
    intro b o
    simp only [Instr.indexAt, asIntOf, Sem.run_bind, Sem.run_pure, run_underlying hu, Result.andThen_ok, Instr.sureAddr]
    rw [if_pos ⟨h0, h1⟩]
    simp [run_sizeOf hn, add_addr]
  split at hK
  · rename_i k p tot
    split at hK
    · rename_i blk hb
      rw [← hs.bx] at hb
      obtain ⟨b, hι, hv⟩ := hr.pt hb hK.1
      exact ⟨_, _, hK.2, by rw [hv]; exact key _ _, .mkpt hb hK.1 hι (by simp [poff_append, poff])⟩
    · exact hK.elim
  · rename_i sz l p
    obtain ⟨b, o, cs, hv, hl, hwd, hm, hc⟩ := hr.fp
    exact ⟨_, _, hK, by rw [hv]; exact key _ _, .mkfp hl hwd hm hc (by simp [poff_append, poff]; omega)⟩
  · exact hK.elim
end Go.Ab
namespace Go.Ab
variable [Tabs]
variable {P : Program} {nt : Nat} {ds : List Deferred} {s : St} {Γ : Cx} {a : Act} {w : World}
theorem RepV.gd {b : Bool} {p : PV} {v : Value} (h : RepV Γ (.gd b p) v) (hb : b = true) : RepV Γ p v := by
  rw [RepV] at h; exact h.1 hb
theorem snd_pick {c x y : Operand} {c' x' y' : AX} {G : Bool} {K : PV → Prop} (hc : trX c = some c') (hx : trX x = some x') (hy : trX y = some y') (hs : Sim nt ds s Γ a) (hG : G = true)
    (he : ev G s (.pick c' x' y') K) : Yield P Γ w (do Pure.pure (if ← asBool (a.eval c) then a.eval x else a.eval y)) K := by
  simp only [ev] at he
  obtain ⟨p, hp, hr⟩ := vg_rep hc hs hG he
  have rx := vx_rep hx hs
  have ry := vx_rep hy hs
  split at hp
  · rename_i b
    have hb := hr.bl
    have key : ((do Pure.pure (if ← asBool (a.eval c) then a.eval x else a.eval y) : Sem Value)).run P w = .ok (if b then a.eval x else a.eval y) w := by
      rw [hb]; simp [asBool]
    split at hp <;> rename_i e1 e2 <;> (try rw [e1] at rx) <;> (try rw [e2] at ry)
    · refine ⟨_, _, hp, key, ?_⟩
      rw [rx.bl, ry.bl]; cases b <;> exact repV_bl
    · refine ⟨_, _, hp.2, key, ?_⟩
      cases b with
      | true => rw [rx.bl]; exact repV_bl
      | false => rw [(ry.gd (hp.1 rfl)).bl]; exact repV_bl
    · refine ⟨_, _, hp.2, key, ?_⟩
      cases b with
      | false => rw [ry.bl]; exact repV_bl
      | true => rw [(rx.gd (hp.1 rfl)).bl]; exact repV_bl
    · refine ⟨_, _, hp.2, key, ?_⟩
      cases b with
      | false => rw [(ry.gd (hp.1.2 rfl)).bl]; exact repV_bl
      | true => rw [(rx.gd (hp.1.1 rfl)).bl]; exact repV_bl
    · refine ⟨_, _, hp.2, key, ?_⟩
      rw [hp.1, rx.bl]; exact repV_bl
    · refine ⟨_, _, hp.2, key, ?_⟩
      rw [hp.1, ry.bl]; exact repV_bl
    · exact hp.elim
  · exact hp.elim
theorem snd_un {op : UnOp} {x : Operand} {y : AX} {G : Bool} {K : PV → Prop} (hx : trX x = some y) (hs : Sim nt ds s Γ a) (hG : G = true) (he : ev G s (.un op y) K) :
    Yield P Γ w (Op.unary op (a.eval x)) K := by
  simp only [ev] at he
  obtain ⟨p, hp, hr⟩ := vg_rep hx hs hG he
  split at hp
  · exact ⟨_, _, hp, by rw [hr.bl]; rfl, repV_bl⟩
  · exact ⟨_, _, hp, by rw [hr.int]; rfl, repV_int⟩
  · exact ⟨_, _, hp, by rw [hr.int]; rfl, repV_int⟩
  · exact hp.elim
theorem snd_convI {t d : TypeId} {k k' : IntKind} {x : Operand} {y : AX} {G : Bool} {K : PV → Prop} (hx : trX x = some y) (hs : Sim nt ds s Γ a) (hG : G = true)
    (ht : P.underlying t = some (.int k')) (hd : P.underlying d = some (.int k)) (he : ev G s (.convI k y) K) : Yield P Γ w (convert t d (a.eval x)) K := by
  simp only [ev] at he
  obtain ⟨p, hp, hr⟩ := vg_rep hx hs hG he
  obtain ⟨k2, n, hv, hK⟩ := intK_rep hp hr
  exact ⟨_, _, hK, by rw [hv]; simp [convert, run_underlying ht, run_underlying hd, Conv.intToInt], repV_int⟩
theorem asBytes_cons {p : PV} {l : List PV} {bs : List UInt8} (h : asBytes (p :: l) = some bs) : ∃ n r, p = .int .u8 n ∧ 0 ≤ n ∧ n < 256 ∧ asBytes l = some r ∧ bs = UInt8.ofNat n.toNat :: r := by
  cases p <;> (try (simp only [asBytes, reduceCtorEq] at h; done))
  rename_i k n
  cases k <;> (try (simp only [asBytes, reduceCtorEq] at h; done))
  simp only [asBytes] at h
  split at h
  · rename_i hn
    split at h
    · rename_i r hr
      simp only [Option.some.injEq] at h
      exact ⟨n, r, rfl, hn.1, hn.2, hr, h.symm⟩
    · exact absurd h (by simp)
  · exact absurd h (by simp)
theorem asBytes_length : ∀ {l : List PV} {bs : List UInt8}, asBytes l = some bs → bs.length = l.length
  | [], bs, h => by simp [asBytes] at h; subst h; rfl
  | p :: l, bs, h => by
    obtain ⟨n, r, _, _, _, hr, rfl⟩ := asBytes_cons h
    simp [asBytes_length hr]
theorem bytes_cells {l : List PV} : ∀ {bs : List UInt8} {cs : List Value}, RepL Γ l cs → asBytes l = some bs → cs.length = bs.length ∧ ∀ (i : Nat) c, cs[i]? = some c → ∃ n, c = .int .u8 n ∧ ∃ b, bs[i]? = some b ∧ b = UInt8.ofNat n.toNat := by
  induction l with
  | nil => intro bs cs h hb; cases h; simp [asBytes] at hb; subst hb; simp
  | cons p l ih =>
    intro bs cs h hb
    obtain ⟨n, r, rfl, h0, h1, hr, rfl⟩ := asBytes_cons hb
    cases h with
    | int k n hl =>
      obtain ⟨i1, i2⟩ := ih hl hr
      refine ⟨by simp [i1], fun i c hc => ?_⟩
      cases i with
      | zero => simp at hc; subst hc; exact ⟨n, rfl, _, by simp, rfl⟩
      | succ i => simp at hc; simpa using i2 i c hc
theorem content_rep {p : PV} {v : Value} {K : Nat → List PV → Prop} (hs : Sim nt ds s Γ a) (h : content s p K) (hr : RepV Γ p v) :
    ∃ sz l cs ad rcap, K sz l ∧ v = .slice ad l.length rcap ∧ RepL Γ l cs ∧ (l ≠ [] → ∃ b o, ad = some ⟨b, o, none⟩ ∧ ∀ i c, cs[i]? = some c → cell Γ.heap b (o + i) = some c) ∧ l.length ≤ rcap ∧ ∀ x ∈ l, x.width = sz := by
  unfold content at h
  split at h
  · rename_i sz l clip
    obtain ⟨ad, rcap, cs, hv, hl, hw, hc, hk, hb⟩ := hr.sl
    exact ⟨sz, l, cs, ad, rcap, h, hv, hl, fun hne => let ⟨b, o, h1, _, _, h4⟩ := hb hne; ⟨b, o, h1, h4⟩, hc, hw⟩
  · rename_i k p off len tot sz c
    split at h
    · rename_i sz' l hb
      obtain ⟨⟨h1, rfl, rfl, h4⟩, hK⟩ := h
      rw [← hs.bx] at hb
      obtain ⟨ad, rcap, hv, hok⟩ := hr.rs hb (by simpa [Blk.tot] using h1)
      have hblk := hs.mem.blk k _ hb
      obtain ⟨hw, hsz, hblk⟩ := hblk
      unfold RsOk at hok
      have hlen : ((l.drop off).take len).length = len := by simp; omega
      cases hι : Γ.ι k with
      | none =>
        rw [hι] at hok hblk
        obtain ⟨rfl, rfl⟩ := hok
        exact ⟨sz, _, [], ad, 0, hK, by rw [hlen]; exact hv, by simpa using RepL.nil, by simp, by simp, by simp⟩
      | some b =>
        rw [hι] at hok hblk
        obtain ⟨c', e, cs, rest, h5, h6, h7⟩ := hblk
        obtain ⟨h8, h9, _⟩ := hok
        have hcs : cs.length = l.length * sz := by rw [h7.length, widths_const hw]
        have hsub : RepL Γ ((l.drop off).take len) ((cs.drop (off * sz)).take (len * sz)) := by
          have e1 : l = l.take off ++ ((l.drop off).take len ++ (l.drop off).drop len) := by rw [List.take_append_drop, List.take_append_drop]
          rw [e1] at h7
          obtain ⟨c1, v1, rfl, r1, r2⟩ := h7.split
          obtain ⟨c2, v2, rfl, r3, r4⟩ := r2.split
          have l1 : c1.length = off * sz := by rw [r1.length, widths_const (fun x hx => hw x (List.mem_of_mem_take hx))]; simp; rw [Nat.min_eq_left (by omega)]
          have l2 : c2.length = len * sz := by rw [r3.length, widths_const (fun x hx => hw x (List.mem_of_mem_drop (List.mem_of_mem_take hx))), hlen]
          rw [← l1, ← l2]; simpa using r3
        refine ⟨sz, _, _, ad, rcap, hK, by rw [hlen]; exact hv, hsub, fun hne => ?_, by rw [hlen]; exact h8, fun x hx => hw x (List.mem_of_mem_drop (List.mem_of_mem_take hx))⟩
        have : 0 < len := by
          rcases Nat.eq_zero_or_pos len with h | h
          · subst h; simp at hne
          · exact h
        rcases h9 with h9 | rfl
        · omega
        refine ⟨b, _, rfl, ?_⟩
        have := cells_sub (cells_block h5 cs rest h6) (off * sz) (len * sz)
        simpa [poff] using this
    · rename_i v' hb
      split at h
      · rename_i sz' n l hgp
        obtain ⟨⟨h1, rfl, h4⟩, hK⟩ := h
        rw [← hs.bx] at hb
        obtain ⟨ad, rcap, hv, hok⟩ := hr.rs hb (by simpa [Blk.tot] using h1)
        unfold RsOk at hok
        cases hι : Γ.ι k with
        | none =>
          have hblk := hs.mem.blk k _ hb
          obtain ⟨b, _, _, h5, _⟩ := hblk
          rw [hι] at h5; exact absurd h5 (by simp)
        | some b =>
          rw [hι] at hok
          obtain ⟨h8, h9, _⟩ := hok
          obtain ⟨cs, hc1, hc2⟩ := hs.mem.at hb hι (by simpa [getB] using hgp)
          obtain ⟨hl, hn, hw⟩ := hc1.ar_inv
          have hlen : ((l.drop off).take len).length = len := by simp; omega
          have hsub : RepL Γ ((l.drop off).take len) ((cs.drop (off * sz)).take (len * sz)) := by
            have e1 : l = l.take off ++ ((l.drop off).take len ++ (l.drop off).drop len) := by rw [List.take_append_drop, List.take_append_drop]
            rw [e1] at hl
            obtain ⟨c1, v1, rfl, r1, r2⟩ := hl.split
            obtain ⟨c2, v2, rfl, r3, r4⟩ := r2.split
            have l1 : c1.length = off * sz := by rw [r1.length, widths_const (fun x hx => hw x (List.mem_of_mem_take hx))]; simp; rw [Nat.min_eq_left (by omega)]
            have l2 : c2.length = len * sz := by rw [r3.length, widths_const (fun x hx => hw x (List.mem_of_mem_drop (List.mem_of_mem_take hx))), hlen]
            rw [← l1, ← l2]; simpa using r3
          refine ⟨sz, _, _, ad, rcap, hK, by rw [hlen]; exact hv, hsub, fun hne => ?_, by rw [hlen]; exact h8, fun x hx => hw x (List.mem_of_mem_drop (List.mem_of_mem_take hx))⟩
          have : 0 < len := by
            rcases Nat.eq_zero_or_pos len with h | h
            · subst h; simp at hne
            · exact h
          rcases h9 with h9 | rfl
          · omega
          refine ⟨b, _, rfl, ?_⟩
          exact cells_sub hc2 (off * sz) (len * sz)
      · exact h.elim
    · exact h.elim
  · exact h.elim
theorem run_push {f : Value → ByteArray → Sem (ForInStep ByteArray)} (hf : ∀ n s, f (.int .u8 n) s = Pure.pure (ForInStep.yield (s.push (UInt8.ofNat n.toNat)))) : ∀ (cs : List Value) (bs : List UInt8) (acc : ByteArray), cs.length = bs.length → (∀ (i : Nat) c, cs[i]? = some c → ∃ n, c = .int .u8 n ∧ ∃ b, bs[i]? = some b ∧ b = UInt8.ofNat n.toNat) →
    ∃ r : ByteArray, (forIn (m := Sem) cs acc f).run P w = .ok r w ∧ r.data.toList = acc.data.toList ++ bs := by
  intro cs
  induction cs with
  | nil =>
    intro bs acc hl _
    have : bs = [] := by simpa using hl.symm
    subst this
    exact ⟨acc, by simp, by simp⟩
  | cons c cs ih =>
    intro bs acc hl h
    obtain ⟨n, rfl, b, hb, rfl⟩ := h 0 c rfl
    cases bs with
    | nil => simp at hl
    | cons b bs =>
      simp at hb; subst hb
      obtain ⟨r, hr1, hr2⟩ := ih bs (acc.push (UInt8.ofNat n.toNat)) (by simpa using hl) (fun i c hc => by simpa using h (i + 1) c (by simpa using hc))
      refine ⟨r, ?_, by rw [hr2]; simp⟩
      simp only [List.forIn_cons, hf, Sem.run_bind, Sem.run_pure, Result.andThen_ok]
      exact hr1
theorem snd_convS {t d e : TypeId} {x : Operand} {y : AX} {G : Bool} {K : PV → Prop} (hx : trX x = some y) (hs : Sim nt ds s Γ a) (hw : w.heap = Γ.heap) (hG : G = true)
    (ht : P.underlying t = some (.slice e)) (hd : P.underlying d = some .string) (hee : P.underlying e = some (.int .u8)) (he : ev G s (.convS y) K) : Yield P Γ w (convert t d (a.eval x)) K := by
  simp only [ev] at he
  obtain ⟨p, hp, hr⟩ := vg_rep hx hs hG he
  obtain ⟨sz, l, cs, ad, rcap, ⟨rfl, hK⟩, hv, hl, hcell, hle, _⟩ := content_rep hs hp hr
  split at hK
  · rename_i bs hbs
    obtain ⟨h1, h2⟩ := bytes_cells hl hbs
    have hlen : l.length = cs.length := by rw [h1, asBytes_length hbs]
    have key : ∃ r : ByteArray, (Conv.bytesToString (a.eval x)).run P w = .ok (.string r) w ∧ r.data.toList = bs := by
      rw [hv]
      cases hl0 : l with
      | nil =>
        subst hl0
        simp at hlen
        have hbs0 : bs = [] := by
          simp [asBytes] at hbs; exact hbs
        subst hbs0
        refine ⟨.empty, ?_, rfl⟩
        cases ad with
        | none => rfl
        | some ad =>
          simp only [Conv.bytesToString, List.length_nil, loadCells, loadCellsFrom, Sem.run_bind, Sem.run_pure, Result.andThen_ok]
          simp
      | cons z zs =>
        obtain ⟨b, o, rfl, hc⟩ := hcell (by simp [hl0])
        rw [← hl0, hlen]
        simp only [Conv.bytesToString, Sem.run_bind]
        rw [run_loadCells_list w ⟨b, o, none⟩ cs (fun j v hj => by rw [add_addr, cell?_eq, hw]; exact hc j v hj)]
        simp only [Result.andThen_ok, ← Array.forIn_toList]
        generalize hf : (fun (c : Value) (__s : ByteArray) => (_ : Sem (ForInStep ByteArray))) = f
        obtain ⟨r, hr1, hr2⟩ := run_push (P := P) (w := w) (f := f) (by intro n s; rw [← hf]) cs bs .empty h1 h2
        exact ⟨r, by rw [hr1]; rfl, by simpa using hr2⟩
    obtain ⟨r, hr1, hr2⟩ := key
    refine ⟨_, _, hK, ?_, repV_str' hr2⟩
    rw [hv] at hr1 ⊢
    simp [convert, run_underlying ht, run_underlying hd, run_underlying hee, hr1]
  · exact hK.elim
end Go.Ab
namespace Go.Ab
variable [Tabs]
variable {P : Program} {nt : Nat} {ds : List Deferred} {s : St} {Γ : Cx} {a : Act} {w : World}
theorem trO_some {x : Option Operand} {y : Option AX} (h : trO x = some y) : (x = none ∧ y = none) ∨ ∃ o z, x = some o ∧ y = some z ∧ trX o = some z := by
  cases x with
  | none => simp [trO] at h; exact .inl ⟨rfl, h.symm⟩
  | some o =>
    simp only [trO] at h
    split at h
    · rename_i z hz; simp only [Option.some.injEq] at h; exact .inr ⟨o, z, rfl, h.symm, hz⟩
    · exact absurd h (by simp)
theorem lohi_rep {G b : Bool} {lo hi : Option Operand} {lo' hi' : Option AX} {len cap cap' : Nat} {K : Nat → Nat → Prop} (hl : trO lo = some lo') (hh : trO hi = some hi') (hs : Sim nt ds s Γ a) (hG : G = true)
    (hcap : cap ≤ cap') (hle : len ≤ cap) (h : lohi G s lo' hi' len cap K) :
    ∃ l h, K l h ∧ l ≤ h ∧ h ≤ cap ∧ (Instr.sliceBounds b len cap' (lo.map a.eval) (hi.map a.eval) none).run P w = .ok (l, h, cap') w := by
  unfold lohi at h
  rcases trO_some hh with ⟨rfl, rfl⟩ | ⟨ho, hz, rfl, rfl, hhx⟩ <;> rcases trO_some hl with ⟨rfl, rfl⟩ | ⟨lo1, lz, rfl, rfl, hlx⟩ <;> simp only at h
  · exact ⟨0, len, h, Nat.zero_le _, hle, rfl⟩
  · obtain ⟨p, hp, hr⟩ := vg_rep hlx hs hG h
    obtain ⟨k, n, hv, ⟨h0, h1⟩, hK⟩ := intK_rep hp hr
    refine ⟨n.toNat, len, hK, by omega, hle, ?_⟩
    simp only [Instr.sliceBounds, Option.map_none, Option.map_some, hv, Instr.sliceBound, asIntOf, Sem.run_bind, Sem.run_pure, Result.andThen_ok]
    rw [if_pos ⟨h0, h1⟩]; rfl
  · obtain ⟨p, hp, hr⟩ := vg_rep hhx hs hG h
    obtain ⟨k, n, hv, ⟨h0, h1⟩, hK⟩ := intK_rep hp hr
    refine ⟨0, n.toNat, hK, Nat.zero_le _, by omega, ?_⟩
    simp only [Instr.sliceBounds, Option.map_none, Option.map_some, hv, Instr.sliceBound, asIntOf, Sem.run_bind, Sem.run_pure, Result.andThen_ok]
    rw [if_pos ⟨h0, by omega⟩]; rfl
  · obtain ⟨p, hp, hr⟩ := vg_rep hhx hs hG h
    obtain ⟨k, n, hv, ⟨h0, h1⟩, hK⟩ := intK_rep hp hr
    obtain ⟨p2, hp2, hr2⟩ := vg_rep hlx hs hG hK
    obtain ⟨k2, n2, hv2, ⟨h2, h3⟩, hK2⟩ := intK_rep hp2 hr2
    refine ⟨n2.toNat, n.toNat, hK2, by omega, by omega, ?_⟩
    simp only [Instr.sliceBounds, Option.map_some, hv, hv2, Instr.sliceBound, asIntOf, Sem.run_bind, Sem.run_pure, Result.andThen_ok]
    rw [if_pos ⟨h0, by omega⟩]
    simp only [Sem.run_pure, Result.andThen_ok]
    rw [if_pos ⟨h2, by omega⟩]; rfl
theorem lohi_rep_max {G : Bool} {lo hi : Option Operand} {lo' hi' : Option AX} {mo : Operand} {m : Int} {km : IntKind} {len cap' : Nat} {K : Nat → Nat → Prop} (hl : trO lo = some lo') (hh : trO hi = some hi') (hhi : hi'.isSome = true) (hs : Sim nt ds s Γ a) (hG : G = true)
    (hm : a.eval mo = .int km m) (hm0 : 0 ≤ m) (hm1 : m ≤ cap') (h : lohi G s lo' hi' len m.toNat K) :
    ∃ l h, K l h ∧ l ≤ h ∧ h ≤ m.toNat ∧ (Instr.sliceBounds true len cap' (lo.map a.eval) (hi.map a.eval) (some (a.eval mo))).run P w = .ok (l, h, m.toNat) w := by
  unfold lohi at h
  rcases trO_some hh with ⟨rfl, rfl⟩ | ⟨ho, hz, rfl, rfl, hhx⟩
  · simp at hhi
  rcases trO_some hl with ⟨rfl, rfl⟩ | ⟨lo1, lz, rfl, rfl, hlx⟩ <;> simp only at h
  · obtain ⟨p, hp, hr⟩ := vg_rep hhx hs hG h
    obtain ⟨k, n, hv, ⟨h0, h1⟩, hK⟩ := intK_rep hp hr
    refine ⟨0, n.toNat, hK, Nat.zero_le _, by omega, ?_⟩
    simp only [Instr.sliceBounds, Option.map_none, Option.map_some, hv, hm, Instr.sliceBound, asIntOf, Sem.run_bind, Sem.run_pure, Result.andThen_ok]
    rw [if_pos ⟨hm0, hm1⟩]
    simp only [Sem.run_pure, Result.andThen_ok]
    rw [if_pos ⟨h0, by omega⟩]; rfl
  · obtain ⟨p, hp, hr⟩ := vg_rep hhx hs hG h
    obtain ⟨k, n, hv, ⟨h0, h1⟩, hK⟩ := intK_rep hp hr
    obtain ⟨p2, hp2, hr2⟩ := vg_rep hlx hs hG hK
    obtain ⟨k2, n2, hv2, ⟨h2, h3⟩, hK2⟩ := intK_rep hp2 hr2
    refine ⟨n2.toNat, n.toNat, hK2, by omega, by omega, ?_⟩
    simp only [Instr.sliceBounds, Option.map_some, hv, hv2, hm, Instr.sliceBound, asIntOf, Sem.run_bind, Sem.run_pure, Result.andThen_ok]
    rw [if_pos ⟨hm0, hm1⟩]
    simp only [Sem.run_pure, Result.andThen_ok]
    rw [if_pos ⟨h0, by omega⟩]
    simp only [Sem.run_pure, Result.andThen_ok]
    rw [if_pos ⟨h2, by omega⟩]; rfl
theorem snd_slice_str {t : TypeId} {x : Operand} {lo hi mx : Option Operand} {x' : AX} {lo' hi' mx' : Option AX} {G : Bool} {K : PV → Prop} (hx : trX x = some x') (hl : trO lo = some lo') (hh : trO hi = some hi') (hm : trO mx = some mx')
    (hs : Sim nt ds s Γ a) (hG : G = true) (hu : P.underlying t = some .string) (he : ev G s (.slice .str x' lo' hi' mx') K) :
    Yield P Γ w (Instr.sliceAt t (a.eval x) (lo.map a.eval) (hi.map a.eval) (mx.map a.eval)) K := by
  simp only [ev] at he
  obtain ⟨p, hp, hr⟩ := vg_rep hx hs hG he
  split at hp
  · rename_i bs
    obtain ⟨str, hv, hd⟩ := hr.str
    obtain ⟨hmx, hp⟩ := hp
    rcases trO_some hm with ⟨rfl, rfl⟩ | ⟨o, z, rfl, rfl, _⟩
    rotate_left
    · simp at hmx
    have hsz : bs.length = str.size := by rw [← hd]; exact Array.length_toList
    obtain ⟨l, h, hK, h1, h2, h3⟩ := lohi_rep (P := P) (w := w) (b := false) hl hh hs hG (Nat.le_refl _) (Nat.le_refl _) hp
    refine ⟨_, .string (str.extract l h), hK, ?_, repV_str' ?_⟩
    · rw [hv]
      rw [hsz] at h3
      simp only [Instr.sliceAt, Instr.slice, Sem.run_bind, run_underlying hu, Result.andThen_ok, Option.map_none, Option.isSome_none, Bool.false_eq_true, if_false, h3]
      rfl
    · rw [← hd]
      simp [List.drop_take]
  · exact hp.elim
theorem RepL.sub {l : List PV} {sz : Nat} {cs : List Value} (h : RepL Γ l cs) (hw : ∀ x ∈ l, x.width = sz) (lo hi : Nat) (hlo : lo ≤ hi) (hhi : hi ≤ l.length) :
    RepL Γ ((l.take hi).drop lo) ((cs.drop (lo * sz)).take ((hi - lo) * sz)) := by
  have e0 : (l.take hi).drop lo = (l.drop lo).take (hi - lo) := by rw [List.drop_take]
  rw [e0]
  have e1 : l = l.take lo ++ ((l.drop lo).take (hi - lo) ++ (l.drop lo).drop (hi - lo)) := by rw [List.take_append_drop, List.take_append_drop]
  rw [e1] at h
  obtain ⟨c1, v1, rfl, r1, r2⟩ := h.split
  obtain ⟨c2, v2, rfl, r3, r4⟩ := r2.split
  have l1 : c1.length = lo * sz := by rw [r1.length, widths_const (fun x hx => hw x (List.mem_of_mem_take hx))]; simp; rw [Nat.min_eq_left (by omega)]
  have l2 : c2.length = (hi - lo) * sz := by rw [r3.length, widths_const (fun x hx => hw x (List.mem_of_mem_drop (List.mem_of_mem_take hx)))]; simp; rw [Nat.min_eq_left (by omega)]
  rw [← l1, ← l2]; simpa using r3
theorem mk_sl {sz : Nat} {l : List PV} {cs : List Value} {ad : Option Addr} {rcap' : Nat} {clip : Bool} (hl : RepL Γ l cs) (hw : ∀ x ∈ l, x.width = sz) (lo hi : Nat) (hlo : lo ≤ hi) (hhi : hi ≤ l.length)
    (hb : l ≠ [] → ∃ b o, ad = some ⟨b, o, none⟩ ∧ b < Γ.heap.size ∧ ¬ Γ.own b ∧ ∀ i c, cs[i]? = some c → cell Γ.heap b (o + i) = some c)
    (hc : hi - lo ≤ rcap') (hclip : clip = true → rcap' = hi - lo) :
    RepV Γ (.sl sz ((l.take hi).drop lo) clip) (.slice (if rcap' = 0 then ad else ad.map (·.add (lo * sz))) (hi - lo) rcap') := by
  have hlen : ((l.take hi).drop lo).length = hi - lo := by simp; omega
  have := RepL.sl (Γ := Γ) sz ((l.take hi).drop lo) clip (if rcap' = 0 then ad else ad.map (·.add (lo * sz))) rcap' (hl.sub hw lo hi hlo hhi) (fun x hx => hw x (List.mem_of_mem_take (List.mem_of_mem_drop hx)))
    (by rw [hlen]; exact hc) (by rw [hlen]; exact hclip) (fun hne => by
      have hpos : 0 < hi - lo := by
        rcases Nat.eq_zero_or_pos (hi - lo) with h | h
        · exact absurd (List.eq_nil_of_length_eq_zero (by omega)) hne
        · exact h
      obtain ⟨b, o, rfl, h1, h2, h3⟩ := hb (by intro h; subst h; simp at hhi; omega)
      rw [if_neg (by omega)]
      exact ⟨b, o + lo * sz, by simp [add_addr], h1, h2, cells_sub h3 (lo * sz) ((hi - lo) * sz)⟩) .nil
  rw [hlen] at this
  simpa only [RepV] using this
theorem snd_slice_sl {t e : TypeId} {x : Operand} {lo hi mx : Option Operand} {x' : AX} {lo' hi' mx' : Option AX} {G : Bool} {K : PV → Prop} {n : Nat} (hx : trX x = some x') (hl : trO lo = some lo') (hh : trO hi = some hi') (hm : trO mx = some mx')
    (hmh : mx'.isSome = true → hi'.isSome = true) (hs : Sim nt ds s Γ a) (hG : G = true) (hu : P.underlying t = some (.slice e)) (hn : szOf P e = some n) (he : ev G s (.slice (.sl n) x' lo' hi' mx') K) :
    Yield P Γ w (Instr.sliceAt t (a.eval x) (lo.map a.eval) (hi.map a.eval) (mx.map a.eval)) K := by
  simp only [ev] at he
  obtain ⟨p, hp, hr⟩ := vg_rep hx hs hG he
  have key : ∀ (ad : Option Addr) (len cap l h m : Nat), (Instr.sliceBounds true len cap (lo.map a.eval) (hi.map a.eval) (mx.map a.eval)).run P w = .ok (l, h, m) w →
      (Instr.sliceAt t (.slice ad len cap) (lo.map a.eval) (hi.map a.eval) (mx.map a.eval)).run P w = .ok (.slice (if m = l then ad else ad.map (·.add (l * n))) (h - l) (m - l)) w := by
    intro ad len cap l h m hb
    simp only [Instr.sliceAt, Instr.slice, Sem.run_bind, run_underlying hu, Result.andThen_ok, hb, run_sizeOf hn]
    rfl
  have ifeq : ∀ (ad : Option Addr) (l m : Nat), l ≤ m → (if m = l then ad else ad.map (·.add (l * n))) = if m - l = 0 then ad else ad.map (·.add (l * n)) := by
    intro ad l m h; by_cases h' : m = l
    · simp [h']
    · rw [if_neg h', if_neg (by omega)]
  split at hp
  · rename_i sz' l clip
    obtain ⟨ad, rcap, cs, hv, hL, hw, hc, hk, hb⟩ := hr.sl
    rcases trO_some hm with ⟨rfl, rfl⟩ | ⟨mo, mz, rfl, rfl, hmz⟩
    · obtain ⟨lo1, hi1, ⟨rfl, hK⟩, h1, h2, h3⟩ := lohi_rep (P := P) (w := w) (b := true) (cap' := rcap) hl hh hs hG hc (Nat.le_refl _) hp
      refine ⟨_, _, hK, by rw [hv]; exact key _ _ _ _ _ _ h3, ?_⟩
      rw [ifeq _ _ _ (by omega)]
      exact mk_sl hL hw lo1 hi1 h1 h2 hb (by omega) (fun hcl => by simp at hcl; have := hk hcl.1; omega)
    · simp only at hp
      obtain ⟨q, hq, hr2⟩ := vg_rep hmz hs hG hp
      obtain ⟨km, m, hmv, ⟨hm0, hm1⟩, hK⟩ := intK_rep hq hr2
      obtain ⟨lo1, hi1, ⟨rfl, hK⟩, h1, h2, h3⟩ := lohi_rep_max (P := P) (w := w) (cap' := rcap) hl hh (hmh rfl) hs hG hmv hm0 (by omega) hK
      refine ⟨_, _, hK, by rw [hv]; exact key _ _ _ _ _ _ h3, ?_⟩
      rw [ifeq _ _ _ (by omega)]
      exact mk_sl hL hw lo1 hi1 h1 (by omega) hb (by omega) (fun hcl => by simp at hcl; omega)
  · rename_i k p off len tot sz' c
    split at hp
    · rename_i blk hb
      obtain ⟨⟨h1, rfl⟩, hp⟩ := hp
      rw [← hs.bx] at hb
      obtain ⟨ad, rcap, hv, hok⟩ := hr.rs hb h1
      have hlen : len ≤ rcap := by
        unfold RsOk at hok
        split at hok <;> omega
      have mk : ∀ (lo1 hi1 m : Nat) (c' : CapK), lo1 ≤ hi1 → hi1 ≤ len → hi1 ≤ m → m ≤ rcap → (c' = .clip → m = hi1) → (c' = .tip → c = .tip ∧ m = rcap) →
          RepV Γ (.rs k p (off + lo1) (hi1 - lo1) tot sz' c') (.slice (if m - lo1 = 0 then ad else ad.map (·.add (lo1 * sz'))) (hi1 - lo1) (m - lo1)) := by
        intro lo1 hi1 m c' g1 g2 g3 g4 g5 g6
        simp only [RepV]
        refine .rs k p _ _ tot sz' c' _ blk ⟨hb, by omega⟩ rfl (fun _ => ⟨_, _, rfl, ?_⟩) .nil
        unfold RsOk at hok ⊢
        cases hι : Γ.ι k with
        | none => rw [hι] at hok; simp only; omega
        | some b =>
          rw [hι] at hok
          obtain ⟨o1, o2, o3, o4⟩ := hok
          refine ⟨by omega, ?_, fun hc => by have := g5 hc; omega, fun hc => ?_⟩
          · by_cases hz : m - lo1 = 0
            · exact .inl hz
            · right
              rw [if_neg hz]
              rcases o2 with o2 | rfl
              · omega
              · simp [add_addr, Nat.add_mul]; omega
          · obtain ⟨g7, g8⟩ := g6 hc
            obtain ⟨q1, cs, e', q2, q3⟩ := o4 g7
            refine ⟨q1, cs, e', q2, ?_⟩
            rw [← q3, g8]; congr 1; omega
      rcases trO_some hm with ⟨rfl, rfl⟩ | ⟨mo, mz, rfl, rfl, hmz⟩
      · obtain ⟨lo1, hi1, hK, g1, g2, g3⟩ := lohi_rep (P := P) (w := w) (b := true) (cap' := rcap) hl hh hs hG hlen (Nat.le_refl _) hp
        refine ⟨_, _, hK, by rw [hv]; exact key _ _ _ _ _ _ g3, ?_⟩
        rw [ifeq _ _ _ (by omega)]
        refine mk lo1 hi1 rcap _ g1 g2 (by omega) (Nat.le_refl _) (fun hc => ?_) (fun hc => ?_)
        · split at hc
          · subst hc
            unfold RsOk at hok
            split at hok
            · omega
            · have := hok.2.2.1 rfl; omega
          · cases c <;> simp at hc
        · split at hc
          · exact ⟨hc, rfl⟩
          · cases c <;> simp_all
      · simp only at hp
        obtain ⟨q, hq, hr2⟩ := vg_rep hmz hs hG hp
        obtain ⟨km, m, hmv, ⟨hm0, hm1⟩, hK⟩ := intK_rep hq hr2
        obtain ⟨lo1, hi1, hK, g1, g2, g3⟩ := lohi_rep_max (P := P) (w := w) (cap' := rcap) hl hh (hmh rfl) hs hG hmv hm0 (by omega) hK
        refine ⟨_, _, hK, by rw [hv]; exact key _ _ _ _ _ _ g3, ?_⟩
        rw [ifeq _ _ _ (by omega)]
        refine mk lo1 hi1 m.toNat _ g1 (by omega) g2 (by omega) (fun hc => ?_) (fun hc => ?_)
        · split at hc
          · omega
          · simp at hc
        · split at hc <;> simp at hc
    · exact hp.elim
  · exact hp.elim
theorem snd_slice_ar {t e : TypeId} {x : Operand} {lo hi mx : Option Operand} {x' : AX} {lo' hi' mx' : Option AX} {G : Bool} {K : PV → Prop} {len n : Nat} (hx : trX x = some x') (hl : trO lo = some lo') (hh : trO hi = some hi') (hm : trO mx = some mx')
    (hs : Sim nt ds s Γ a) (hG : G = true) (hu : P.underlying t = some (.array len e)) (hn : szOf P e = some n) (he : ev G s (.slice (.ar len n) x' lo' hi' mx') K) :
    Yield P Γ w (Instr.sliceAt t (a.eval x) (lo.map a.eval) (hi.map a.eval) (mx.map a.eval)) K := by
  simp only [ev] at he
  obtain ⟨p, hp, hr⟩ := vg_rep hx hs hG he
  split at hp
  · rename_i k p tot
    split at hp
    · rename_i blk hb
      obtain ⟨h1, hmx, hp⟩ := hp
      rw [← hs.bx] at hb
      obtain ⟨b, hι, hv⟩ := hr.pt hb h1
      rcases trO_some hm with ⟨rfl, rfl⟩ | ⟨mo, mz, rfl, rfl, hmz⟩
      rotate_left
      · simp at hmx
      obtain ⟨lo1, hi1, hK, g1, g2, g3⟩ := lohi_rep (P := P) (w := w) (b := false) (cap' := len) hl hh hs hG (Nat.le_refl _) (Nat.le_refl _) hp
      refine ⟨_, .slice (some (if len = lo1 then ⟨b, poff p, none⟩ else Addr.add ⟨b, poff p, none⟩ (lo1 * n))) (hi1 - lo1) (len - lo1), hK, ?_, ?_⟩
      · rw [hv]
        simp only [Instr.sliceAt, Sem.run_bind, run_underlying hu, Result.andThen_ok, Instr.sureAddr, Sem.run_pure, Option.map_none, g3, run_sizeOf hn]
      · simp only [RepV]
        refine .rs k p _ _ tot n _ _ blk ⟨hb, by omega⟩ rfl (fun _ => ⟨_, _, rfl, ?_⟩) .nil
        unfold RsOk
        rw [hι]
        refine ⟨by omega, ?_, fun hc => ?_, fun hc => ?_⟩
        · by_cases hz : len = lo1
          · left; omega
          · right; simp [hz, add_addr]
        · split at hc
          · omega
          · simp at hc
        · split at hc <;> simp at hc
    · exact hp.elim
  · rename_i z l q
    split at hp
    · rename_i z' n' l' hu'
      obtain ⟨⟨rfl, rfl, hmx⟩, hp⟩ := hp
      obtain ⟨b, o, cs, hv, hL, hwd, hmm, hc⟩ := hr.fp
      obtain ⟨h4, h5⟩ := getB_arr hL hwd hu'
      obtain ⟨h6, h7, h8⟩ := RepL.ar_inv h5
      rcases trO_some hm with ⟨rfl, rfl⟩ | ⟨mo, mz, rfl, rfl, hmz⟩
      rotate_left
      · simp at hmx
      obtain ⟨lo1, hi1, hK, g1, g2, g3⟩ := lohi_rep (P := P) (w := w) (b := false) (cap' := n') hl hh hs hG (Nat.le_refl _) (Nat.le_refl _) hp
      refine ⟨_, .slice (some (if n' = lo1 then ⟨b, o + poff q, none⟩ else Addr.add ⟨b, o + poff q, none⟩ (lo1 * z'))) (hi1 - lo1) (n' - lo1), hK, ?_, ?_⟩
      · rw [hv]
        simp only [Instr.sliceAt, Sem.run_bind, run_underlying hu, Result.andThen_ok, Instr.sureAddr, Sem.run_pure, Option.map_none, g3, run_sizeOf hn]
      · have hm := mk_sl (ad := some ⟨b, o + poff q, none⟩) (rcap' := n' - lo1) (clip := decide (hi1 = n')) h6 h8 lo1 hi1 g1 (by omega) (fun _ => ⟨b, o + poff q, rfl, hmm.1, hmm.2, cells_sub hc (poff q) _⟩) (by omega) (fun h => by simp at h; omega)
        have e : (if n' - lo1 = 0 then some (⟨b, o + poff q, none⟩ : Addr) else ((some (⟨b, o + poff q, none⟩ : Addr)).map (·.add (lo1 * z')))) = some (if n' = lo1 then ⟨b, o + poff q, none⟩ else Addr.add ⟨b, o + poff q, none⟩ (lo1 * z')) := by
          by_cases hz : n' = lo1
          · simp [hz]
          · rw [if_neg (by omega), if_neg hz]; rfl
        rw [e] at hm
        exact hm
    · exact hp.elim
  · exact hp.elim
end Go.Ab
namespace Go.Ab
variable [Tabs]
variable {P : Program} {nt : Nat} {ds : List Deferred} {s : St} {Γ : Cx} {a : Act} {w : World}
theorem fits_agg {x : Sh} {p : PV} (h : fits x p = true) : p.isAgg = x.agg := by
  cases x <;> cases p <;> simp [fits] at h <;> rfl
theorem fits_width {x : Sh} {p : PV} (h : fits x p = true) : p.width = shW x := by
  cases x <;> cases p <;> simp only [fits, Bool.false_eq_true, Bool.and_eq_true, decide_eq_true_eq] at h <;> (try rfl)
  · simp only [PV.width, shW]; exact h.1
  · simp only [PV.width, shW]; rw [h.1.1, h.1.2.1]
theorem run_part {t : TypeId} {p : PV} {cs c1 rest pre : List Value} {o : Nat} (hr : RepL Γ [p] c1) (hc : cs = pre ++ (c1 ++ rest)) (ho : pre.length = o) (hg : aggOf P t = some p.isAgg) (hn : szOf P t = some p.width) :
    ∃ v, (part t cs.toArray o).run P w = .ok v w ∧ RepV Γ p v := by
  have hl := hr.width1
  subst hc
  cases ha : p.isAgg with
  | true =>
    refine ⟨.agg c1.toArray, ?_, RepV.of_cells hr ha⟩
    rw [ha] at hg
    simp only [part, Sem.run_bind, run_isAgg hg, Result.andThen_ok, if_true, run_sizeOf hn, Sem.run_pure]
    congr 2
    apply Array.ext'
    simp [← hl, ← ho]
  | false =>
    have h1 : p.width = 1 := by cases p <;> simp [PV.isAgg] at ha <;> rfl
    rw [h1] at hl
    obtain ⟨v, rfl⟩ := List.length_eq_one_iff.1 hl
    refine ⟨v, ?_, RepV.of_cell hr ha⟩
    rw [ha] at hg
    simp only [part, Sem.run_bind, run_isAgg hg, Result.andThen_ok, Bool.false_eq_true, if_false]
    have : (pre ++ ([v] ++ rest)).toArray[o]? = some v := by
      simp [← ho]
    rw [this]; rfl
def EqAt (P : Program) (Γ : Cx) (d : Nat) (t : TypeId) (x : Sh) : Prop :=
  ∀ (w : World) (p q : PV) (v u : Value), fits x p = true → fits x q = true → RepV Γ p v → RepV Γ q u → (Op.equalIn d t v u).run P w = .ok (PV.beq p q) w
theorem eq_fields {d : Nat} {xs ys : List Value} : ∀ (fs : List Field) (l : List Sh) (ps qs : List PV) (pre1 pre2 c1 c2 : List Value) (o : Nat) (w : World),
    xs = pre1 ++ c1 → ys = pre2 ++ c2 → pre1.length = o → pre2.length = o → RepL Γ ps c1 → RepL Γ qs c2 → fitsL l ps = true → fitsL l qs = true →
    fs.all (fun f => f.name != "_") = true → fs.map (·.offset) = shOffs o l → fs.map (fun f => szOf P f.type) = l.map (fun x => some (shW x)) →
    fs.map (fun f => aggOf P f.type) = l.map (fun x => some x.agg) → (∀ (i : Nat) f x, fs[i]? = some f → l[i]? = some x → EqAt P Γ d f.type x) →
    (Op.eqFields d xs.toArray ys.toArray fs).run P w = .ok (PV.beqL ps qs) w
  | [], l, ps, qs, pre1, pre2, c1, c2, o, w, hx, hy, ho1, ho2, h1, h2, f1, f2, hn, hoff, hsz, hag, hall => by
    cases l with
    | nil => cases ps <;> cases qs <;> simp [fitsL] at f1 f2; simp [Op.eqFields, PV.beqL]
    | cons => simp at hsz
  | f :: fs, l, ps, qs, pre1, pre2, c1, c2, o, w, hx, hy, ho1, ho2, h1, h2, f1, f2, hn, hoff, hsz, hag, hall => by
    cases l with
    | nil => simp at hsz
    | cons x l =>
      cases ps with
      | nil => simp [fitsL] at f1
      | cons p ps =>
        cases qs with
        | nil => simp [fitsL] at f2
        | cons q qs =>
          simp only [fitsL, Bool.and_eq_true] at f1 f2
          simp only [List.map_cons, List.cons.injEq, shOffs] at hoff hsz hag
          simp only [List.all_cons, Bool.and_eq_true] at hn
          obtain ⟨a1, b1, rfl, r1, r2⟩ := h1.uncons
          obtain ⟨a2, b2, rfl, r3, r4⟩ := h2.uncons
          have wp := fits_width f1.1
          have wq := fits_width f2.1
          have ap := fits_agg f1.1
          have aq := fits_agg f2.1
          have hag1 : aggOf P f.type = some x.agg := hag.1
          obtain ⟨v, hv, hv'⟩ := run_part (P := P) (w := w) (t := f.type) r1 hx (ho1.trans hoff.1.symm) (by rw [ap]; exact hag1) (by rw [wp]; exact hsz.1)
          obtain ⟨u, hu, hu'⟩ := run_part (P := P) (w := w) (t := f.type) r3 hy (ho2.trans hoff.1.symm) (by rw [aq]; exact hag1) (by rw [wq]; exact hsz.1)
          have he := hall 0 f x rfl rfl w p q v u f1.1 f2.1 hv' hu'
          have ih := eq_fields (xs := xs) (ys := ys) fs l ps qs (pre1 ++ a1) (pre2 ++ a2) b1 b2 (o + shW x) w (by rw [hx]; simp) (by rw [hy]; simp) (by simp [ho1, r1.width1, wp]) (by simp [ho2, r3.width1, wq]) r2 r4 f1.2 f2.2 hn.2 hoff.2 hsz.2 hag.2
            (fun i g y hg hy => hall (i + 1) g y (by simpa using hg) (by simpa using hy))
          have hne : f.name ≠ "_" := by simpa using hn.1
          simp only [Op.eqFields, hne, ne_eq, not_false_eq_true, if_true, Sem.run_bind, hv, hu, he, Result.andThen_ok, PV.beqL]
          by_cases hb : PV.beq p q = true
          · simpa [hb] using ih
          · simp [hb]
theorem eq_array {d len n : Nat} {t : TypeId} {e : Sh} {xs ys : List Value} (hn : n = shW e) (hg : aggOf P t = some e.agg) (hz : szOf P t = some n) (heq : EqAt P Γ d t e) :
    ∀ (ps qs : List PV) (pre1 pre2 c1 c2 : List Value) (i : Nat) (w : World), xs = pre1 ++ c1 → ys = pre2 ++ c2 → pre1.length = i * n → pre2.length = i * n → RepL Γ ps c1 → RepL Γ qs c2 → fitsA e ps = true → fitsA e qs = true →
      ps.length = len → qs.length = len →
      (forIn (m := Sem) (List.range' i len 1) ((none, ()) : Option Bool × Unit) fun i __s => do
            let __do_lift ← part t xs.toArray (i * n)
            let __do_lift_1 ← part t ys.toArray (i * n)
            let __do_lift ← Op.equalIn d t __do_lift __do_lift_1
            if (!__do_lift) = true then pure (ForInStep.done (some false, ())) else pure (ForInStep.yield (none, ()))).run P w = .ok (if PV.beqL ps qs then none else some false, ()) w := by
  induction len with
  | zero =>
    intro ps qs pre1 pre2 c1 c2 i w _ _ _ _ _ _ _ _ l1 l2
    have e1 := List.eq_nil_of_length_eq_zero l1
    have e2 := List.eq_nil_of_length_eq_zero l2
    subst e1 e2
    simp [PV.beqL]
  | succ len ih =>
    intro ps qs pre1 pre2 c1 c2 i w hx hy ho1 ho2 h1 h2 f1 f2 l1 l2
    cases ps with
    | nil => simp at l1
    | cons p ps =>
      cases qs with
      | nil => simp at l2
      | cons q qs =>
        simp only [fitsA, Bool.and_eq_true] at f1 f2
        obtain ⟨a1, b1, rfl, r1, r2⟩ := h1.uncons
        obtain ⟨a2, b2, rfl, r3, r4⟩ := h2.uncons
        have wp := fits_width f1.1
        have wq := fits_width f2.1
        have ap := fits_agg f1.1
        have aq := fits_agg f2.1
        obtain ⟨v, hv, hv'⟩ := run_part (P := P) (w := w) (t := t) r1 hx ho1 (by rw [ap]; exact hg) (by rw [wp, ← hn]; exact hz)
        obtain ⟨u, hu, hu'⟩ := run_part (P := P) (w := w) (t := t) r3 hy ho2 (by rw [aq]; exact hg) (by rw [wq, ← hn]; exact hz)
        have he := heq w p q v u f1.1 f2.1 hv' hu'
        have ih' := ih ps qs (pre1 ++ a1) (pre2 ++ a2) b1 b2 (i + 1) w (by rw [hx]; simp) (by rw [hy]; simp) (by simp [ho1, r1.width1, wp, Nat.add_mul]; omega) (by simp [ho2, r3.width1, wq, Nat.add_mul]; omega) r2 r4 f1.2 f2.2 (by simpa using l1) (by simpa using l2)
        simp only [List.range'_succ, List.forIn_cons, Sem.run_bind, hv, hu, he, Result.andThen_ok, PV.beqL]
        by_cases hb : PV.beq p q = true
        · simpa [hb] using ih'
        · simp [hb]
theorem eq_run : ∀ (n : Nat) {t : TypeId} {x : Sh} (d : Nat), n ≤ d → shOf P n t = some x → EqAt P Γ d t x := by
  intro n
  induction n with
  | zero => intro t x d _ h; simp [shOf] at h
  | succ n ih =>
    intro t x d hd h w p q v u fp fq hp hq
    obtain ⟨d, rfl⟩ : ∃ d', d = d' + 1 := ⟨d - 1, by omega⟩
    simp only [shOf] at h
    split at h <;> (try (simp only [Option.some.injEq, reduceCtorEq] at h; try subst h))
    · rename_i hu
      cases p <;> simp [fits] at fp
      cases q <;> simp [fits] at fq
      rw [hp.bl, hq.bl, run_equalIn_bool' w d t _ _ hu]; rfl
    · rename_i k hu
      cases p <;> simp [fits] at fp
      cases q <;> simp [fits] at fq
      subst fp fq
      rw [hp.int, hq.int, run_equalIn_int w d t _ _ _ _ hu]; rfl
    · rename_i hu
      cases p <;> simp [fits] at fp
      cases q <;> simp [fits] at fq
      obtain ⟨s1, rfl, rfl⟩ := hp.str
      obtain ⟨s2, rfl, rfl⟩ := hq.str
      rw [run_equalIn_string w d t _ _ hu, toList_data, toList_data]; rfl
    · rename_i fs hu
      split at h
      · rename_i l hl
        split at h
        · rename_i hcond
          obtain ⟨c1, c2, c3, c4, c5⟩ := hcond
          simp only [Option.some.injEq] at h
          subst h
          cases p <;> simp only [fits, Bool.false_eq_true, Bool.and_eq_true, decide_eq_true_eq] at fp
          cases q <;> simp only [fits, Bool.false_eq_true, Bool.and_eq_true, decide_eq_true_eq] at fq
          rename_i w1 m1 w2 m2
          obtain ⟨cs, rfl, hc⟩ := hp.cells rfl
          obtain ⟨ds, rfl, hd'⟩ := hq.cells rfl
          have hf : P.fieldsOf t = fs := by simp [Program.fieldsOf, hu]
          rw [run_equalIn_struct w d t _ _ (by rw [hf]; exact hu) c1, hf]
          rw [eq_fields (xs := cs) (ys := ds) fs.toList l m1 m2 [] [] cs ds 0 w rfl rfl rfl rfl hc.st_inv.1 hd'.st_inv.1 fp.2 fq.2 c2 c3 c4 c5]
          · rfl
          · intro i f y hfi hyi
            refine ih d (by omega) ?_
            have := allM_get hl hfi
            rw [hyi] at this
            exact this
        · exact absurd h (by simp)
      · exact absurd h (by simp)
    · rename_i k e hu
      split at h
      · rename_i x' hx'
        split at h
        · rename_i hcond
          simp only [Option.some.injEq] at h
          subst h
          cases p <;> simp only [fits, Bool.false_eq_true, Bool.and_eq_true, decide_eq_true_eq] at fp
          cases q <;> simp only [fits, Bool.false_eq_true, Bool.and_eq_true, decide_eq_true_eq] at fq
          rename_i z1 n1 m1 z2 n2 m2
          obtain ⟨cs, rfl, hc⟩ := hp.cells rfl
          obtain ⟨ds, rfl, hd'⟩ := hq.cells rfl
          have hg : aggOf P e = some x'.agg := hcond.2
          have := eq_array (P := P) (Γ := Γ) (d := d) (len := k) (n := shW x') (t := e) (e := x') (xs := cs) (ys := ds) rfl hg hcond.1 (ih d (by omega) hx') m1 m2 [] [] cs ds 0 w rfl rfl (by simp) (by simp) hc.ar_inv.1 hd'.ar_inv.1 fp.2 fq.2 fp.1.2.2 fq.1.2.2
          simp only [Op.equalIn, Sem.run_bind, run_underlying hu, Result.andThen_ok, run_sizeOf hcond.1]
          rw [Std.Legacy.Range.forIn_eq_forIn_range']
          simp only [Std.Legacy.Range.size, Nat.sub_zero, Nat.add_sub_cancel, Nat.div_one]
          rw [this]
          simp only [PV.beq]
          cases PV.beqL m1 m2 <;> rfl
        · exact absurd h (by simp)
      · exact absurd h (by simp)
where
  allM_get {α β : Type} {f : α → Option β} : ∀ {l : List α} {m : List β}, allM f l = some m → ∀ {i : Nat} {x : α}, l[i]? = some x → f x = m[i]?
    | [], m, h, i, x, hi => by simp at hi
    | y :: l, m, h, i, x, hi => by
      simp only [allM] at h
      split at h
      · rename_i z k hz hk
        simp only [Option.some.injEq] at h
        subst h
        cases i with
        | zero => simp at hi; subst hi; simpa using hz
        | succ i => simp at hi; simpa using allM_get hk hi
      · exact absurd h (by simp)
end Go.Ab
namespace Go.Ab
variable [Tabs]
variable {P : Program} {nt : Nat} {ds : List Deferred} {s : St} {Γ : Cx} {a : Act} {w : World}
theorem foldl_set : ∀ (vs : List Value) (k off : Nat) (cells : Array Value), off + k + vs.length ≤ cells.size →
    ((vs.zipIdx k).foldl (fun (cs : Array Value) (x : Value × Nat) => cs.setIfInBounds (off + x.2) x.1) cells).toList = splice cells.toList (off + k) vs
  | [], k, off, cells, _ => by simp [splice]
  | v :: vs, k, off, cells, h => by
    simp only [List.zipIdx_cons, List.foldl_cons, List.length_cons] at h ⊢
    rw [foldl_set vs (k + 1) off _ (by simp; omega)]
    rw [Array.toList_setIfInBounds]
    have hlt : off + k < cells.toList.length := by simp; omega
    obtain ⟨A, c, B, hA, hcells⟩ : ∃ A c B, A.length = off + k ∧ cells.toList = A ++ c :: B :=
      ⟨cells.toList.take (off + k), cells.toList[off + k], cells.toList.drop (off + k + 1), by rw [List.length_take]; omega, by rw [List.getElem_cons_drop, List.take_append_drop]⟩
    rw [hcells, ← hA, List.set_append_right (h := Nat.le_refl _)]
    rw [show off + (k + 1) = A.length + 1 by omega]
    simp only [Nat.sub_self, List.set_cons_zero, splice, List.length_cons]
    have e1 : (A ++ v :: B).take (A.length + 1) = A ++ [v] := by rw [List.take_append, List.take_of_length_le (by omega)]; simp
    have e2 : (A ++ v :: B).drop (A.length + 1 + vs.length) = B.drop vs.length := by
      rw [List.drop_append, List.drop_eq_nil_of_le (by omega), show A.length + 1 + vs.length - A.length = vs.length + 1 by omega]; simp
    have e3 : (A ++ c :: B).drop (A.length + (vs.length + 1)) = B.drop vs.length := by
      rw [← List.drop_drop]; simp
    rw [e1, e2, e3]
    simp
theorem widths_take_set {l : List PV} {i j : Nat} {q p : PV} (hq : l[i]? = some q) (hw : p.width = q.width) : widths ((l.set i p).take j) = widths (l.take j) := by
  by_cases hij : i < j
  · have : (l.set i p).take j = (l.take j).set i p := by rw [List.take_set]
    rw [this]
    exact widths_set (by rw [List.getElem?_take_of_lt hij]; exact hq) hw
  · rw [List.take_set_of_le (by omega)]
theorem fill_rep : ∀ (ps : List (Nat × PV)) (vs : List (Nat × Value)) (place : Nat → Option (Nat × Nat)) (l l' : List PV) (cells : Array Value),
    RepL Γ l cells.toList → setParts l ps = some l' → ps.length = vs.length → (∀ (i : Nat) j p k v, ps[i]? = some (j, p) → vs[i]? = some (k, v) → j = k ∧ RepV Γ p v) →
    (∀ i q, l[i]? = some q → place i = some (widths (l.take i), q.width)) → ∃ cells', Instr.fill place cells vs = some cells' ∧ RepL Γ l' cells'.toList
  | [], vs, place, l, l', cells, h, hs, hl, hv, hp => by
    have : vs = [] := by simpa using hl.symm
    subst this
    simp [setParts] at hs; subst hs
    exact ⟨cells, rfl, h⟩
  | (i, p) :: ps, vs, place, l, l', cells, h, hs, hl, hv, hp => by
    cases vs with
    | nil => simp at hl
    | cons x vs =>
      obtain ⟨k, v⟩ := x
      obtain ⟨rfl, hr⟩ := hv 0 i p k v rfl rfl
      simp only [setParts] at hs
      split at hs
      · rename_i q hq
        split at hs
        · rename_i hw
          have hc := hr.to_cells hw.2
          have hcl := hc.width1
          have hsz : v.cells.size = q.width := by rw [← hw.1, ← hcl]; simp
          have hwl := widths_le hq
          have hle := h.length
          have hin : widths (l.take i) + q.width ≤ cells.size := by rw [← Array.length_toList, hle]; exact hwl
          have hset := h.set hq hc hw.1
          have hnew : (v.cells.zipIdx.foldl (fun cs (c, j) => cs.setIfInBounds (widths (l.take i) + j) c) cells).toList = splice cells.toList (widths (l.take i)) v.cells.toList := by
            have := foldl_set v.cells.toList 0 (widths (l.take i)) cells (by simp; omega)
            rw [← Array.foldl_toList, Array.toList_zipIdx]
            simpa using this
          obtain ⟨c', h1, h2⟩ := fill_rep ps vs place (l.set i p) l' (v.cells.zipIdx.foldl (fun cs (c, j) => cs.setIfInBounds (widths (l.take i) + j) c) cells) (by rw [hnew]; exact hset) hs (by simpa using hl)
            (fun j n p' k v' a b => hv (j + 1) n p' k v' (by simpa using a) (by simpa using b)) (fun j q' hq' => by
              rw [widths_take_set hq hw.1]
              rw [List.getElem?_set] at hq'
              split at hq'
              · rename_i hij; subst hij
                split at hq'
                · simp at hq'; subst hq'; rw [hw.1]; exact hp i q hq
                · simp at hq'
              · exact hp j q' hq')
          refine ⟨c', ?_, h2⟩
          simp only [Instr.fill, hp i q hq]
          rw [if_neg (by simp [hsz]; omega)]
          exact h1
        · exact absurd hs (by simp)
      · exact absurd hs (by simp)
theorem offs_get : ∀ (l : List PV) (o : Nat) (fs : List (Nat × Nat)), fs = offs o l → ∀ (i : Nat) q, l[i]? = some q → fs[i]? = some (o + widths (l.take i), q.width)
  | [], o, fs, h, i, q, hq => by simp at hq
  | p :: l, o, fs, h, i, q, hq => by
    subst h
    cases i with
    | zero => simp at hq; subst hq; simp [offs, widths]
    | succ i =>
      simp only [List.getElem?_cons_succ] at hq
      have := offs_get l (o + p.width) _ rfl i q hq
      simpa [offs, widths, Nat.add_assoc] using this
mutual
theorem chk_rep : ∀ (p : PV) (vs rest : List Value), chk p vs = some rest → ∃ cs, vs = cs ++ rest ∧ RepL Γ [p] cs
  | .bl x, vs, rest, h => by
    cases vs with
    | nil => simp [chk] at h
    | cons v r =>
      cases v <;> simp only [chk, reduceCtorEq] at h
      split at h <;> simp at h
      subst_vars; exact ⟨[_], rfl, .bl _ .nil⟩
  | .int k n, vs, rest, h => by
    cases vs with
    | nil => simp [chk] at h
    | cons v r =>
      cases v <;> simp only [chk, reduceCtorEq] at h
      split at h
      · rename_i hc; obtain ⟨rfl, rfl⟩ := hc; simp at h; subst h; exact ⟨[_], rfl, .int _ _ .nil⟩
      · simp at h
  | .str l, vs, rest, h => by
    cases vs with
    | nil => simp [chk] at h
    | cons v r =>
      cases v <;> simp only [chk, reduceCtorEq] at h
      split at h
      · rename_i hc; simp at h; subst h; exact ⟨[_], rfl, .str _ _ hc .nil⟩
      · simp at h
  | .np, vs, rest, h => by
    unfold chk at h
    split at h <;> simp_all
    subst_vars; exact ⟨[_], rfl, .np .nil⟩
  | .sl sz l c, vs, rest, h => by
    cases l with
    | cons => simp [chk] at h
    | nil =>
      cases vs with
      | nil => simp [chk] at h
      | cons v r =>
        unfold chk at h
        split at h
        case h_5 =>
          simp only [Option.some.injEq] at h
          subst h
          rename_i heq
          simp only [List.cons.injEq] at heq
          obtain ⟨rfl, rfl⟩ := heq
          exact ⟨[_], rfl, .sl sz [] c none 0 .nil (by simp) (Nat.le_refl _) (fun _ => rfl) (fun h => absurd rfl h) .nil⟩
        all_goals simp_all
  | .nf, vs, rest, h => by
    unfold chk at h
    split at h <;> simp_all
    subst_vars; exact ⟨[_], rfl, .nf .nil⟩
  | .ni, vs, rest, h => by
    unfold chk at h
    split at h <;> simp_all
    subst_vars; exact ⟨[_], rfl, .ni .nil⟩
  | .st w l, vs, rest, h => by
    simp only [chk] at h
    split at h
    · rename_i r hr
      split at h
      · rename_i hw
        simp at h; subst h
        obtain ⟨cs, rfl, hc⟩ := chkL_rep l vs r hr
        exact ⟨cs, rfl, hc.st1 (by simp at hw; omega)⟩
      · simp at h
    · simp at h
  | .ar sz n l, vs, rest, h => by
    simp only [chk] at h
    split at h
    · rename_i r hr
      split at h
      · rename_i hw
        simp at h; subst h
        obtain ⟨cs, rfl, hc⟩ := chkL_rep l vs r hr
        exact ⟨cs, rfl, hc.ar1 hw.1 (by simpa using hw.2)⟩
      · simp at h
    · simp at h
  | .un, vs, rest, h => by simp [chk] at h
  | .tup _, vs, rest, h => by simp [chk] at h
  | .rs .., vs, rest, h => by simp [chk] at h
  | .pt .., vs, rest, h => by simp [chk] at h
  | .fp .., vs, rest, h => by simp [chk] at h
  | .fn .., vs, rest, h => by simp [chk] at h
  | .gd .., vs, rest, h => by simp [chk] at h
  | .ifc .., vs, rest, h => by simp [chk] at h
theorem chkL_rep : ∀ (l : List PV) (vs rest : List Value), chkL l vs = some rest → ∃ cs, vs = cs ++ rest ∧ RepL Γ l cs
  | [], vs, rest, h => by simp [chkL] at h; subst h; exact ⟨[], rfl, .nil⟩
  | p :: l, vs, rest, h => by
    simp only [chkL] at h
    split at h
    · rename_i ws hws
      obtain ⟨c1, rfl, h1⟩ := chk_rep p vs ws hws
      obtain ⟨c2, rfl, h2⟩ := chkL_rep l ws rest h
      exact ⟨c1 ++ c2, by simp, h1.cons h2⟩
    · simp at h
end
theorem zeroOf_rep {t : TypeId} {z : PV} (h : zeroOf P t = some z) : ∃ v, (∀ w, (zeroValue t).run P w = .ok v w) ∧ RepL Γ [z] v.cells.toList ∧ szOf P t = some z.width ∧ RepV Γ z v ∧ v.cells.size = z.width := by
  replace h := zeroOf_eq h
  unfold zeroOf0 at h
  split at h
  · rename_i z' i hz hi
    split at h
    · rename_i v hv
      split at h
      · rename_i hc
        split at h
        · rename_i hw
          obtain ⟨cs, e, hr⟩ := chk_rep (Γ := Γ) z' _ _ hc
          rw [List.append_nil] at e
          rw [← e] at hr
          have hz' : z' = z ∧ RepV Γ z' v := by
            cases ha : z'.isAgg <;> rw [ha] at h
            · cases v <;> simp only [Option.some.injEq, reduceCtorEq] at h <;> exact ⟨h, RepV.of_cell (by simpa [Value.cells] using hr) ha⟩
            · cases v <;> simp only [Option.some.injEq, reduceCtorEq] at h
              exact ⟨h, RepV.of_cells (by simpa [Value.cells] using hr) ha⟩
          obtain ⟨rfl, hrv⟩ := hz'
          exact ⟨v, fun w => by simp [zeroValue, typeInfo, hi, hv], hr, by simp [szOf, hi, hw], hrv, by rw [← hr.width1]; simp⟩
        · simp at h
      · simp at h
    · simp at h
  · simp at h
theorem snd_build {t : TypeId} {parts : Array (Nat × Operand)} {k : AK} {G : Bool} {K : PV → Prop} (hk : trK P false (.build t parts) = some k) (hs : Sim nt ds s Γ a) (hG : G = true) (he : ev G s k K) :
    Yield P Γ w (Instr.build t (parts.map fun p => (p.1, a.eval p.2))) K := by
  simp only [trK] at hk
  split at hk
  · rename_i sw l ps fs hz hps hu
    split at hk
    · rename_i hc
      simp only [Option.some.injEq] at hk; subst hk
      simp only [ev] at he
      obtain ⟨qs, hq, hlen, hall⟩ := vgp_rep hs hG hps he
      obtain ⟨v, hv, hr, _, _, _⟩ := zeroOf_rep (Γ := Γ) hz
      split at hq
      · rename_i l' hl'
        have hpl : ∀ i q, l[i]? = some q → ((fs.map fun f => (f.offset, P.cellsOf f.type))[i]? : Option (Nat × Nat)) = some (widths (l.take i), q.width) := by
          intro i q hi
          have := offs_get l 0 _ hc.1 i q hi
          rw [Nat.zero_add] at this
          rw [← Array.getElem?_toList, Array.toList_map]
          exact this
        obtain ⟨cells, h1, h2⟩ := fill_rep (Γ := Γ) qs (parts.toList.map fun p => (p.1, a.eval p.2)) (fun i => (fs.map fun f => (f.offset, P.cellsOf f.type))[i]?) l l' v.cells hr.st_inv.1 hl' (by simp [hlen])
          (fun i j p k u h3 h4 => by
            rw [List.getElem?_map, Option.map_eq_some_iff] at h4
            obtain ⟨⟨k', x⟩, h5, h6⟩ := h4
            simp only [Prod.mk.injEq] at h6
            obtain ⟨rfl, rfl⟩ := h6
            exact hall i j p k' x h3 h5) hpl
        have hlc : cells.toList.length = sw := by
          have e1 := h2.length
          have e2 := hr.st_inv
          rw [e1, setParts_widths hl', ← e2.1.length, e2.2]
        refine ⟨_, .agg cells, hq, ?_, ⟨cells.toList, by simp, h2.st1 hlc⟩⟩
        have hmap : (fs.mapM fun f => do Pure.pure (f.offset, ← sizeOf f.type) : Sem (Array (Nat × Nat))).run P w = .ok (fs.map fun f => (f.offset, P.cellsOf f.type)) w := run_mapM fs hc.2
        simp only [Instr.build, Sem.run_bind, hv, Result.andThen_ok, run_underlying hu, hmap]
        rw [Array.toList_map, h1]; rfl
      · exact hq.elim
    · simp at hk
  · rename_i sz n l ps len e hz hps hu
    split at hk
    · rename_i hc
      simp only [Option.some.injEq] at hk; subst hk
      simp only [ev] at he
      obtain ⟨qs, hq, hlen, hall⟩ := vgp_rep hs hG hps he
      obtain ⟨v, hv, hr, _, _, _⟩ := zeroOf_rep (Γ := Γ) hz
      split at hq
      · rename_i l' hl'
        obtain ⟨hr1, hr2, hr3⟩ := hr.ar_inv
        obtain ⟨cells, h1, h2⟩ := fill_rep (Γ := Γ) qs (parts.toList.map fun p => (p.1, a.eval p.2)) (fun i => some (i * sz, sz)) l l' v.cells hr1 hl' (by simp [hlen])
          (fun i j p k u h3 h4 => by
            rw [List.getElem?_map, Option.map_eq_some_iff] at h4
            obtain ⟨⟨k', x⟩, h5, h6⟩ := h4
            simp only [Prod.mk.injEq] at h6
            obtain ⟨rfl, rfl⟩ := h6
            exact hall i j p k' x h3 h5)
          (fun i q hi => by
            have hil := (List.getElem?_eq_some_iff.1 hi).1
            rw [widths_take hr3 (by omega), hr3 q (List.mem_of_getElem? hi)])
        refine ⟨_, .agg cells, hq, ?_, ⟨cells.toList, by simp, h2.ar1 (by rw [setParts_length hl', hr2]) (setParts_width hl' hr3)⟩⟩
        simp only [Instr.build, Sem.run_bind, hv, Result.andThen_ok, run_underlying hu, run_sizeOf hc]
        rw [Array.toList_map, h1]; rfl
      · exact hq.elim
    · simp at hk
  · simp at hk
where
  setParts_length : ∀ {ps : List (Nat × PV)} {l l' : List PV}, setParts l ps = some l' → l'.length = l.length
    | [], l, l', h => by simp [setParts] at h; rw [h]
    | (i, p) :: ps, l, l', h => by
      simp only [setParts] at h
      split at h
      · split at h
        · rw [setParts_length h]; simp
        · simp at h
      · simp at h
  setParts_widths : ∀ {ps : List (Nat × PV)} {l l' : List PV}, setParts l ps = some l' → widths l' = widths l
    | [], l, l', h => by simp [setParts] at h; rw [h]
    | (i, p) :: ps, l, l', h => by
      simp only [setParts] at h
      split at h
      · rename_i q hq
        split at h
        · rename_i hw
          rw [setParts_widths h, widths_set hq hw.1]
        · simp at h
      · simp at h
  setParts_width {sz : Nat} : ∀ {ps : List (Nat × PV)} {l l' : List PV}, setParts l ps = some l' → (∀ x ∈ l, x.width = sz) → ∀ x ∈ l', x.width = sz
    | [], l, l', h, hw => by simp [setParts] at h; rw [← h]; exact hw
    | (i, p) :: ps, l, l', h, hw => by
      simp only [setParts] at h
      split at h
      · rename_i q hq
        split at h
        · rename_i hw'
          exact setParts_width h (mem_set_width hw (by rw [hw'.1]; exact hw q (List.mem_of_getElem? hq)))
        · simp at h
      · simp at h
  run_mapM (fs : Array Field) (h : fs.toList.all (fun f => (P.info? f.type).isSome) = true) : (fs.mapM fun f => do Pure.pure (f.offset, ← sizeOf f.type) : Sem (Array (Nat × Nat))).run P w = .ok (fs.map fun f => (f.offset, P.cellsOf f.type)) w := by
    have key : ∀ (l : List Field), l.all (fun f => (P.info? f.type).isSome) = true → (l.mapM fun f => do Pure.pure (f.offset, ← sizeOf f.type) : Sem (List (Nat × Nat))).run P w = .ok (l.map fun f => (f.offset, P.cellsOf f.type)) w := by
      intro l
      induction l with
      | nil => intro _; rfl
      | cons f l ih =>
        intro hl
        simp only [List.all_cons, Bool.and_eq_true] at hl
        obtain ⟨i, hi⟩ := Option.isSome_iff_exists.1 hl.1
        have hsz : szOf P f.type = some i.size := by simp [szOf, hi]
        simp only [List.mapM_cons, Sem.run_bind, run_sizeOf hsz, Result.andThen_ok, Sem.run_pure, ih hl.2, List.map_cons]
        simp [Program.cellsOf, hi]
    rw [Array.mapM_eq_mapM_toList]
    simp only [Sem.run_map, key fs.toList h, Result.andThen_ok]
    congr 1
    apply Array.ext'
    simp
end Go.Ab
namespace Go.Ab
variable [Tabs]
variable {P : Program} {nt : Nat} {ds : List Deferred} {s : St} {Γ : Cx} {a : Act} {w : World}
theorem snd_len {args : List Operand} {tys : List TypeId} {k : AK} {ty : TypeId} {G : Bool} {K : PV → Prop} (hk : trBuiltin P .len args tys = some k) (hs : Sim nt ds s Γ a) (hG : G = true) (he : ev G s k K) :
    Yield P Γ w (Builtin.len_ tys.toArray ty (args.map a.eval).toArray) K := by
  unfold trBuiltin at hk
  split at hk <;> (try contradiction)
  · rename_i x t _
    split at hk
    · rename_i y hu hx
      simp only [Option.some.injEq] at hk; subst hk
      simp only [ev] at he
      obtain ⟨p, hp, hr⟩ := vg_rep hx hs hG he
      split at hp
      · rename_i bs
        obtain ⟨str, hv, hd⟩ := hr.str
        refine ⟨_, goInt bs.length, hp, ?_, repV_int⟩
        have : bs.length = str.size := by rw [← hd]; exact Array.length_toList
        simp [Builtin.len_, run_underlying hu, hv, this]
      · exact hp.elim
    · rename_i e y hu hx
      simp only [Option.some.injEq] at hk; subst hk
      simp only [ev] at he
      obtain ⟨p, hp, hr⟩ := vg_rep hx hs hG he
      split at hp
      · rename_i sz l c
        obtain ⟨ad, rcap, cs, hv, _⟩ := hr.sl
        exact ⟨_, goInt l.length, hp, by simp [Builtin.len_, run_underlying hu, hv], repV_int⟩
      · rename_i k p off len tot sz c
        split at hp
        · rename_i blk hb
          rw [← hs.bx] at hb
          obtain ⟨ad, rcap, hv, _⟩ := hr.rs hb hp.1
          exact ⟨_, goInt len, hp.2, by simp [Builtin.len_, run_underlying hu, hv], repV_int⟩
        · exact hp.elim
      · exact hp.elim
    · rename_i n e y hu hx
      simp only [Option.some.injEq] at hk; subst hk
      simp only [ev] at he
      exact ⟨_, goInt n, he, by simp [Builtin.len_, run_underlying hu], repV_int⟩
    · rename_i arr y hu hx
      split at hk
      · rename_i n e hu2
        simp only [Option.some.injEq] at hk; subst hk
        simp only [ev] at he
        exact ⟨_, goInt n, he, by simp [Builtin.len_, run_underlying hu, run_underlying hu2], repV_int⟩
      · simp at hk
    · simp at hk
theorem snd_mm {mx : Bool} {args : List Operand} {tys : List TypeId} {l : List AX} {ty : TypeId} {G : Bool} {K : PV → Prop} (hx : trXs args = some l) (hs : Sim nt ds s Γ a) (hG : G = true) (he : ev G s (.mm mx l) K) :
    Yield P Γ w (if mx then Builtin.max_ tys.toArray ty (args.map a.eval).toArray else Builtin.min_ tys.toArray ty (args.map a.eval).toArray) K := by
  simp only [ev] at he
  obtain ⟨ps, hp, hlen, hall⟩ := vgs_rep hs hG hx he
  have key : ∀ (ps : List PV) (vs : List Value) (k : IntKind) (m : Int) (K : Int → Prop), mmInt mx m ps K → ps.length = vs.length → (∀ (i : Nat) p v, ps[i]? = some p → vs[i]? = some v → RepV Γ p v) →
      ∃ n, K n ∧ (vs.foldlM (if mx then Builtin.max2 else Builtin.min2) (.int k m)).run P w = .ok (.int k n) w := by
    intro ps
    induction ps with
    | nil =>
      intro vs k m K h hl _
      have : vs = [] := by simpa using hl.symm
      subst this
      exact ⟨m, h, rfl⟩
    | cons p ps ih =>
      intro vs k m K h hl hv
      cases vs with
      | nil => simp at hl
      | cons v vs =>
        simp only [mmInt] at h
        obtain ⟨k2, n, hv2, h⟩ := intK_rep h (hv 0 p v rfl rfl)
        obtain ⟨r, h1, h2⟩ := ih vs k _ K h (by simpa using hl) (fun i p v a b => hv (i + 1) p v (by simpa using a) (by simpa using b))
        refine ⟨r, h1, ?_⟩
        subst hv2
        simp only [List.foldlM_cons, Sem.run_bind]
        cases mx
        · have : (Builtin.min2 (.int k m) (.int k2 n)).run P w = .ok (.int k (min m n)) w := by
            simp only [Builtin.min2, Sem.run_pure]
            congr 2
            split <;> omega
          simp only [Bool.false_eq_true, if_false] at h2 ⊢
          rw [this]; exact h2
        · have : (Builtin.max2 (.int k m) (.int k2 n)).run P w = .ok (.int k (max m n)) w := by
            simp only [Builtin.max2, Sem.run_pure]
            congr 2
            split <;> omega
          simp only [if_true] at h2 ⊢
          rw [this]; exact h2
  split at hp
  · rename_i k m ps
    cases args with
    | nil => simp at hlen
    | cons x args =>
      have hx0 := (hall 0 _ x rfl rfl).int
      obtain ⟨n, hn, hrun⟩ := key ps (args.map a.eval) k m _ hp (by simpa using hlen) (fun i p v h1 h2 => by
        rw [List.getElem?_map, Option.map_eq_some_iff] at h2
        obtain ⟨o, h2, rfl⟩ := h2
        exact hall (i + 1) p o (by simpa using h1) (by simpa using h2))
      refine ⟨_, _, hn, ?_, repV_int⟩
      cases mx
      · simpa [Builtin.min_, hx0] using hrun
      · simpa [Builtin.max_, hx0] using hrun
  · exact hp.elim
theorem repL_one {p : PV} {v : Value} (h : RepV Γ p v) (ha : p.isAgg = false) (hc : p.cellular = true) : RepL Γ [p] [v] := by
  cases p <;> simp [PV.isAgg, PV.cellular] at ha hc <;> exact h
theorem repL_all {ps : List PV} {vs : List Value} (hl : ps.length = vs.length) (h : ∀ (i : Nat) p v, ps[i]? = some p → vs[i]? = some v → RepV Γ p v)
    (ha : ps.all (fun p => !p.isAgg && p.cellular) = true) : RepL Γ ps vs := by
  induction ps generalizing vs with
  | nil => have : vs = [] := by simpa using hl.symm
           subst this; exact .nil
  | cons p ps ih =>
    cases vs with
    | nil => simp at hl
    | cons v vs =>
      simp only [List.all_cons, Bool.and_eq_true, Bool.not_eq_true'] at ha
      exact (repL_one (h 0 p v rfl rfl) ha.1.1 ha.1.2).cons (ih (by simpa using hl) (fun i p v h1 h2 => h (i + 1) p v (by simpa using h1) (by simpa using h2)) ha.2)
theorem run_eq2 {t : TypeId} {x y : Value} {b : Bool} (h : (Op.equalIn 10000 t x y).run P w = .ok b w)
    (h1 : binOp .eql t x y = (do Pure.pure (.bool (← Op.equal t x y)))) (h2 : binOp .neq t x y = (do Pure.pure (.bool (!(← Op.equal t x y))))) :
    ∀ o, (o = .eql ∨ o = .neq) → (binOp o t x y).run P w = .ok (.bool (if o = .eql then b else !b)) w := by
  intro o ho
  have h' : (Op.equal t x y).run P w = .ok b w := h
  rcases ho with rfl | rfl
  · rw [h1]; simp only [Sem.run_bind, h', Result.andThen_ok]; rfl
  · rw [h2]; simp only [Sem.run_bind, h', Result.andThen_ok]; rfl
theorem eqIn_bool {t : TypeId} {x y : Bool} (h : P.underlying t = some .bool) : (Op.equalIn 10000 t (.bool x) (.bool y)).run P w = .ok (x == y) w := run_equalIn_bool' w 9999 t x y h
theorem eqInS_nilnil {d : Nat} {t e : TypeId} (h : P.underlying t = some (.pointer e)) : (Op.equalIn (d + 1) t (.pointer none) (.pointer none)).run P w = .ok true w := by
  simp only [Op.equalIn, Sem.run_bind, run_underlying h, Result.andThen_ok]; rfl
theorem eqInS_ptrnil {d : Nat} {t e : TypeId} {ad : Addr} (h : P.underlying t = some (.pointer e)) : (Op.equalIn (d + 1) t (.pointer (some ad)) (.pointer none)).run P w = .ok false w := by
  simp only [Op.equalIn, Sem.run_bind, run_underlying h, Result.andThen_ok]; rfl
theorem eqIn_nilnil {t e : TypeId} (h : P.underlying t = some (.pointer e)) : (Op.equalIn 10000 t (.pointer none) (.pointer none)).run P w = .ok true w := eqInS_nilnil (d := 9999) h
theorem eqIn_ptrnil {t e : TypeId} {ad : Addr} (h : P.underlying t = some (.pointer e)) : (Op.equalIn 10000 t (.pointer (some ad)) (.pointer none)).run P w = .ok false w := eqInS_ptrnil (d := 9999) h
theorem shOf_agg {n : Nat} {t : TypeId} {sh : Sh} (h : shOf P n t = some sh) (hu : (∃ fs, P.underlying t = some (.struct fs)) ∨ ∃ k e, P.underlying t = some (.array k e)) : sh.agg = true := by
  cases n with
  | zero => simp [shOf] at h
  | succ n =>
    rcases hu with ⟨fs, hu⟩ | ⟨k, e, hu⟩
    · simp only [shOf, hu] at h
      split at h
      · split at h
        · simp only [Option.some.injEq] at h; subst h; rfl
        · simp at h
      · simp at h
    · simp only [shOf, hu] at h
      split at h
      · split at h
        · simp only [Option.some.injEq] at h; subst h; rfl
        · simp at h
      · simp at h
theorem bin_sound {op : BinOp} {t : TypeId} {x y : Operand} {yt : TypeId} {k : AK} {own : Bool} {G : Bool} {K : PV → Prop} (hk : trK P own (.binOp op t x y yt) = some k) (hs : Sim nt ds s Γ a) (hG : G = true) (he : ev G s k K) :
    Yield P Γ w (do eqGuard op t x y (a.eval x) (a.eval y); binOp op t (a.eval x) (a.eval y)) K := by
  simp only [trK] at hk
  split at hk
  · rename_i p q hx hy
    have fin : ∀ {et : ET} {K : PV → Prop}, ev G s (.bin op et p q) K → ∃ u v, binV s op et u v K ∧ RepV Γ u (a.eval x) ∧ RepV Γ v (a.eval y) := by
      intro et K he
      simp only [ev] at he
      obtain ⟨u, hu, hru⟩ := vg_rep hx hs hG he
      obtain ⟨v, hv, hrv⟩ := vg_rep hy hs hG hu
      exact ⟨u, v, hv, hru, hrv⟩
    have plain : ∀ {K : PV → Prop}, ev G s (.bin op .no p q) K → Yield P Γ w (do eqGuard op t x y (a.eval x) (a.eval y); binOp op t (a.eval x) (a.eval y)) K := by
      intro K he
      obtain ⟨u, v, hb, hru, hrv⟩ := fin he
      simp only [binV] at hb
      split at hb
      · rw [hru.int, hrv.int]
        rw [eqGuard_at_int]
        exact bin_int hb.1 hb.2
      · obtain ⟨b1, hv1, hd1⟩ := hru.str
        obtain ⟨b2, hv2, hd2⟩ := hrv.str
        rw [hv1, hv2, eqGuard_at_string]
        rw [← hd1, ← hd2] at hb
        exact bin_str hb
      · exact hb.elim
    have eqrun : ∀ {b : Bool} {K : PV → Prop}, (op = .eql ∨ op = .neq) → binE op b K →
        (∀ o, (o = .eql ∨ o = .neq) → (binOp o t (a.eval x) (a.eval y)).run P w = .ok (.bool (if o = .eql then b else !b)) w) → (eqGuard op t x y (a.eval x) (a.eval y)).run P w = .ok () w →
        Yield P Γ w (do eqGuard op t x y (a.eval x) (a.eval y); binOp op t (a.eval x) (a.eval y)) K := by
      intro b K ho hb hrun hg
      rcases ho with rfl | rfl
      · exact ⟨_, _, hb, by simp only [Sem.run_bind, hg, Result.andThen_ok, hrun .eql (.inl rfl)]; rfl, repV_bl⟩
      · exact ⟨_, _, hb, by simp only [Sem.run_bind, hg, Result.andThen_ok, hrun .neq (.inr rfl)]; rfl, repV_bl⟩
    split at hk
    · rename_i ho
      split at hk
      · simp only [Option.some.injEq] at hk; subst hk; exact plain he
      · simp only [Option.some.injEq] at hk; subst hk; exact plain he
      · rename_i hu
        simp only [Option.some.injEq] at hk; subst hk
        obtain ⟨u, v, hb, hru, hrv⟩ := fin he
        simp only [binV] at hb
        split at hb
        · rw [hru.bl, hrv.bl] at eqrun ⊢
          refine eqrun ho hb (run_eq2 (eqIn_bool hu) rfl rfl) (by rw [eqGuard_at_bool]; rfl)
        · exact hb.elim
      · rename_i e hu
        simp only [Option.some.injEq] at hk; subst hk
        obtain ⟨u, v, hb, hru, hrv⟩ := fin he
        simp only [binV] at hb
        split at hb
        · rw [hru.np, hrv.np] at eqrun ⊢
          refine eqrun ho hb (run_eq2 (eqIn_nilnil hu) rfl rfl) (by rw [eqGuard_at_pointer]; rfl)
        · split at hb
          · rename_i blk hg
            rw [← hs.bx] at hg
            obtain ⟨b, hι, hv⟩ := hru.pt hg hb.1
            rw [hv, hrv.np] at eqrun ⊢
            refine eqrun ho hb.2 (run_eq2 (eqIn_ptrnil hu) rfl rfl) (by rw [eqGuard_at_pointer]; rfl)
          · exact hb.elim
        · obtain ⟨b, o, cs, hv, _⟩ := hru.fp
          rw [hv, hrv.np] at eqrun ⊢
          refine eqrun ho hb (run_eq2 (eqIn_ptrnil hu) rfl rfl) (by rw [eqGuard_at_pointer]; rfl)
        · exact hb.elim
      · split at hk
        · simp only [Option.some.injEq] at hk; subst hk; simp [ev] at he
        · simp at hk
      · rename_i fs hu
        split at hk
        · rename_i hgd
          split at hk
          · rename_i sh hsh
            simp only [Option.some.injEq] at hk; subst hk
            obtain ⟨u, v, hb, hru, hrv⟩ := fin he
            simp only [binV] at hb
            have hagg : sh.agg = true := shOf_agg hsh (.inl ⟨_, hu⟩)
            obtain ⟨c1, hv1, _⟩ := hru.cells (by rw [fits_agg hb.1.1]; exact hagg)
            obtain ⟨c2, hv2, _⟩ := hrv.cells (by rw [fits_agg hb.1.2]; exact hagg)
            have he2 := eq_run (P := P) (Γ := Γ) 20 10000 (by omega) hsh w u v _ _ hb.1.1 hb.1.2 hru hrv
            rw [hv1, hv2] at eqrun he2 ⊢
            refine eqrun ho hb.2 (fun o ho => ?_) (run_eqGuard_agg w op t x y _ _ hgd)
            rcases ho with rfl | rfl
            · rw [run_eql_struct, he2]; rfl
            · rw [run_neq_struct, he2]; rfl
          · simp at hk
        · simp at hk
      · rename_i n e hu
        split at hk
        · rename_i hgd
          split at hk
          · rename_i sh hsh
            simp only [Option.some.injEq] at hk; subst hk
            obtain ⟨u, v, hb, hru, hrv⟩ := fin he
            simp only [binV] at hb
            have hagg : sh.agg = true := shOf_agg hsh (.inr ⟨_, _, hu⟩)
            obtain ⟨c1, hv1, _⟩ := hru.cells (by rw [fits_agg hb.1.1]; exact hagg)
            obtain ⟨c2, hv2, _⟩ := hrv.cells (by rw [fits_agg hb.1.2]; exact hagg)
            have he2 := eq_run (P := P) (Γ := Γ) 20 10000 (by omega) hsh w u v _ _ hb.1.1 hb.1.2 hru hrv
            rw [hv1, hv2] at eqrun he2 ⊢
            refine eqrun ho hb.2 (fun o ho => ?_) (run_eqGuard_agg w op t x y _ _ hgd)
            rcases ho with rfl | rfl
            · rw [run_eql_struct, he2]; rfl
            · rw [run_neq_struct, he2]; rfl
          · simp at hk
        · simp at hk
      · simp at hk
    · simp only [Option.some.injEq] at hk; subst hk; exact plain he
  · simp at hk
end Go.Ab
namespace Go.Ab
variable [Tabs]
variable {P : Program} {nt : Nat} {ds : List Deferred} {s : St} {Γ : Cx} {a : Act} {w : World}
theorem RepV1.rep {p : PV} {v : Value} (h : RepV1 Γ p v) : RepV Γ p v := by
  cases p <;> first | exact h | (simp only [RepV1] at h; cases h)
theorem AllV.get : ∀ {l : List PV} {vs : List Value}, AllV Γ l vs → ∀ {i : Nat} {p : PV}, l[i]? = some p → ∃ v, vs[i]? = some v ∧ RepV1 Γ p v
  | [], vs, h, i, p, hp => by simp at hp
  | q :: l, [], h, i, p, hp => by simp [AllV] at h
  | q :: l, v :: vs, h, i, p, hp => by
    simp only [AllV] at h
    cases i with
    | zero => simp at hp; subst hp; exact ⟨v, by simp, h.1⟩
    | succ i => simp at hp; simpa using AllV.get h.2 hp
theorem snd_index {t e : TypeId} {x i : Operand} {y j : AX} {G g : Bool} {K : PV → Prop} {len n : Nat} (hx : trX x = some y) (hi : trX i = some j) (hs : Sim nt ds s Γ a) (hG : G = true)
    (hu : P.underlying t = some (.array len e)) (hg : aggOf P e = some g) (hn : szOf P e = some n) (he : ev G s (.index g len n y j) K) : Yield P Γ w (Instr.index t (a.eval x) (a.eval i)) K := by
  simp only [ev] at he
  obtain ⟨p, hp, hr⟩ := vg_rep hx hs hG he
  obtain ⟨q, hq, hr2⟩ := vg_rep hi hs hG hp
  obtain ⟨k, m, hm, hK⟩ := intK_rep hq hr2
  split at hK
  · rename_i sz n' l
    split at hK
    · rename_i c hc
      obtain ⟨⟨h0, h1, rfl, rfl, h4⟩, hK⟩ := hK
      obtain ⟨cs, hv, hc2⟩ := hr.cells rfl
      obtain ⟨hl, hlen, hw⟩ := hc2.ar_inv
      have hcl := hw c (List.mem_of_getElem? hc)
      have hjl := (List.getElem?_eq_some_iff.1 hc).1
      obtain ⟨c1, v1, c2, rfl, l1, r3⟩ : ∃ c1 v1 c2, cs = c1 ++ (c2 ++ v1) ∧ c1.length = m.toNat * sz ∧ RepL Γ [c] c2 := by
        have e1 : l = l.take m.toNat ++ l[m.toNat] :: l.drop (m.toNat + 1) := by rw [List.getElem_cons_drop, List.take_append_drop]
        rw [e1] at hl
        obtain ⟨c1, u1, rfl, r1, r2⟩ := hl.split
        obtain ⟨c2, v2, rfl, r3, r4⟩ := r2.uncons
        refine ⟨c1, v2, c2, rfl, ?_, ?_⟩
        · rw [r1.length, widths_take hw (by omega)]
        · rw [List.getElem?_eq_getElem hjl] at hc; simp only [Option.some.injEq] at hc; rw [hc] at r3; exact r3
      obtain ⟨v, hv1, hv2⟩ := run_part (P := P) (w := w) (t := e) (o := m.toNat * sz) r3 rfl l1 (by rw [h4]; exact hg) (by rw [hcl]; exact hn)
      refine ⟨c, v, hK, ?_, hv2⟩
      rw [hv, hm]
      simp only [Instr.index, asIntOf, Sem.run_bind, Sem.run_pure, run_underlying hu, Result.andThen_ok]
      rw [if_pos ⟨h0, h1⟩]
      simp only [Sem.run_bind, run_sizeOf hn, Result.andThen_ok]
      exact hv1
    · exact hK.elim
  · exact hK.elim
theorem snd_indexS {t : TypeId} {x i : Operand} {y j : AX} {G : Bool} {K : PV → Prop} (hx : trX x = some y) (hi : trX i = some j) (hs : Sim nt ds s Γ a) (hG : G = true)
    (hu : P.underlying t = some .string) (he : ev G s (.indexS y j) K) : Yield P Γ w (Instr.index t (a.eval x) (a.eval i)) K := by
  simp only [ev] at he
  obtain ⟨p, hp, hr⟩ := vg_rep hx hs hG he
  obtain ⟨q, hq, hr2⟩ := vg_rep hi hs hG hp
  obtain ⟨k, m, hm, hK⟩ := intK_rep hq hr2
  split at hK
  · rename_i bs
    split at hK
    · rename_i c hc
      obtain ⟨str, hv, hd⟩ := hr.str
      refine ⟨_, _, hK.2, ?_, repV_int⟩
      rw [hv, hm]
      have : str[m.toNat]? = some c := by
        rw [← hd] at hc
        rw [Array.getElem?_toList] at hc
        obtain ⟨hlt, he⟩ := Array.getElem?_eq_some_iff.1 hc
        rw [getElem?_pos str m.toNat hlt]
        exact congrArg some he
      simp only [Instr.index, asIntOf, Sem.run_bind, Sem.run_pure, run_underlying hu, Result.andThen_ok]
      rw [if_pos hK.1, this]; rfl
    · exact hK.elim
  · exact hK.elim
theorem snd_field {t : TypeId} {x : Operand} {y : AX} {G g : Bool} {K : PV → Prop} {i n : Nat} {fs : Array Field} {f : Field} (hx : trX x = some y) (hs : Sim nt ds s Γ a) (hG : G = true)
    (hu : P.underlying t = some (.struct fs)) (hf : fs[i]? = some f) (hg : aggOf P f.type = some g) (hn : szOf P f.type = some n) (he : ev G s (.field i f.offset g n y) K) :
    Yield P Γ w (Instr.field t (a.eval x) i) K := by
  simp only [ev] at he
  obtain ⟨p, hp, hr⟩ := vg_rep hx hs hG he
  split at hp
  · rename_i sw l
    split at hp
    · rename_i c hc
      obtain ⟨⟨h1, h2, h3⟩, hK⟩ := hp
      obtain ⟨cs, hv, hc2⟩ := hr.cells rfl
      obtain ⟨hl, hlen⟩ := hc2.st_inv
      have hjl := (List.getElem?_eq_some_iff.1 hc).1
      obtain ⟨c1, v1, c2, rfl, l1, r3⟩ : ∃ c1 v1 c2, cs = c1 ++ (c2 ++ v1) ∧ c1.length = f.offset ∧ RepL Γ [c] c2 := by
        have e1 : l = l.take i ++ l[i] :: l.drop (i + 1) := by rw [List.getElem_cons_drop, List.take_append_drop]
        rw [e1] at hl
        obtain ⟨c1, u1, rfl, r1, r2⟩ := hl.split
        obtain ⟨c2, v2, rfl, r3, r4⟩ := r2.uncons
        refine ⟨c1, v2, c2, rfl, ?_, ?_⟩
        · rw [r1.length, h1]
        · rw [List.getElem?_eq_getElem hjl] at hc; simp only [Option.some.injEq] at hc; rw [hc] at r3; exact r3
      obtain ⟨v, hv1, hv2⟩ := run_part (P := P) (w := w) (t := f.type) (o := f.offset) r3 rfl l1 (by rw [h3]; exact hg) (by rw [h2]; exact hn)
      refine ⟨c, v, hK, ?_, hv2⟩
      rw [hv]
      simp only [Instr.field, Sem.run_bind, run_underlying hu, Result.andThen_ok, hf, asAgg, Sem.run_pure]
      exact hv1
    · exact hp.elim
  · exact hp.elim
theorem snd_extract {x : Operand} {y : AX} {G : Bool} {K : PV → Prop} {i : Nat} (hx : trX x = some y) (hs : Sim nt ds s Γ a) (he : ev G s (.extract i y) K) :
    Yield P Γ w (Instr.extract (a.eval x) i) K := by
  simp only [ev] at he
  have hr := vx_rep hx hs
  split at he
  · rename_i l hl
    rw [hl] at hr
    simp only [RepV] at hr
    obtain ⟨vs, hv, hall⟩ := hr
    split at he
    · rename_i p hp
      obtain ⟨v, hv1, hv2⟩ := hall.get hp
      exact ⟨p, v, he, by rw [hv]; simp [Instr.extract, hv1], hv2.rep⟩
    · exact he.elim
  · exact he.elim
theorem snd_mkFunc {f : Fn} {x z : Array Operand} {y u : List AX} {G : Bool} {K : PV → Prop} (hx : trXs x.toList = some y) (hz : trXs z.toList = some u) (hs : Sim nt ds s Γ a) (hG : G = true) (he : ev G s (.mkFunc f y u) K) :
    Yield P Γ w (Instr.makeFunc f (x.map a.eval) (z.map a.eval)) K := by
  simp only [ev] at he
  obtain ⟨ps, hp, hlen, hall⟩ := vgs_rep hs hG hx he
  obtain ⟨qs, hq, hlen2, hall2⟩ := vgs_rep hs hG hz hp
  obtain ⟨⟨h1, h2⟩, hK⟩ := hq
  have r1 : RepL Γ ps (x.toList.map a.eval) := repL_all (by simpa using hlen) (fun i p v h3 h4 => by
    rw [List.getElem?_map, Option.map_eq_some_iff] at h4
    obtain ⟨o, h4, rfl⟩ := h4
    exact hall i p o h3 h4) h1
  have r2 : RepL Γ qs (z.toList.map a.eval) := repL_all (by simpa using hlen2) (fun i p v h3 h4 => by
    rw [List.getElem?_map, Option.map_eq_some_iff] at h4
    obtain ⟨o, h4, rfl⟩ := h4
    exact hall2 i p o h3 h4) h2
  refine ⟨_, .func f (x.map a.eval) (z.map a.eval), hK, rfl, ?_⟩
  simp only [RepV]
  have := RepL.fn (Γ := Γ) f ps qs r1 r2 (fun p hp => by have := List.all_eq_true.1 h1 p hp; simp at this; exact this.1) (fun p hp => by have := List.all_eq_true.1 h2 p hp; simp at this; exact this.1) .nil
  have e1 : (x.toList.map a.eval).toArray = x.map a.eval := by apply Array.ext'; simp
  have e2 : (z.toList.map a.eval).toArray = z.map a.eval := by apply Array.ext'; simp
  rw [e1, e2] at this
  exact this
theorem snd_nilCheck {o : Oper} {x : Operand} {y : AX} {G : Bool} {K : PV → Prop} (ho : o.op = .nilCheck x) (hx : trX x = some y) (hs : Sim nt ds s Γ a) (hG : G = true) (he : ev G s (.nilCheck y) K) :
    ∃ p v, K p ∧ (execOp a.eval o).run P w = .ok (.value v) w ∧ RepV Γ p v := by
  simp only [ev] at he
  obtain ⟨p, hp, hr⟩ := vg_rep hx hs hG he
  split at hp
  · split at hp
    · rename_i blk hb
      have hr' := hr
      rw [← hs.bx] at hb
      obtain ⟨b, hι, hv⟩ := hr'.pt hb hp.1
      exact ⟨_, _, hp.2, by simp only [execOp, ho]; rw [hv]; rfl, by rw [← hv]; exact hr⟩
    · exact hp.elim
  · obtain ⟨b, o', cs, hv, _⟩ := RepV.fp hr
    exact ⟨_, _, hp, by simp only [execOp, ho]; rw [hv]; rfl, by rw [← hv]; exact hr⟩
  · obtain ⟨fs, cs, hv, _⟩ := RepV.fn hr
    exact ⟨_, _, hp, by simp only [execOp, ho]; rw [hv]; rfl, by rw [← hv]; exact hr⟩
  · exact hp.elim
theorem Yield.exec {o : Oper} {x : Sem Value} {K : PV → Prop} (h : Yield P Γ w x K) (he : execOp a.eval o = (do Pure.pure (.value (← x)))) :
    ∃ p v, K p ∧ (execOp a.eval o).run P w = .ok (.value v) w ∧ RepV Γ p v := by
  obtain ⟨p, v, hK, hr, hv⟩ := h
  exact ⟨p, v, hK, by rw [he]; simp [hr], hv⟩
theorem szOf_some {t : TypeId} {i : TypeInfo} (h : P.info? t = some i) : szOf P t = some i.size := by simp [szOf, h]
theorem ev_sound {o : Oper} {k : AK} {own G : Bool} {K : PV → Prop} (hk : trK P own o.op = some k) (hs : Sim nt ds s Γ a) (hw : w.heap = Γ.heap) (hG : G = true) (he : ev G s k K) :
    ∃ p v, K p ∧ (execOp a.eval o).run P w = .ok (.value v) w ∧ RepV Γ p v := by
  obtain ⟨dst, op, ty, pos, after, guard⟩ := o
  cases op with
  | move x =>
    simp only [trK] at hk
    split at hk <;> simp only [Option.some.injEq, reduceCtorEq] at hk
    rename_i y hx; subst hk
    simp only [ev] at he
    obtain ⟨p, hp, hr⟩ := vg_rep hx hs hG he
    exact ⟨p, _, hp, rfl, hr⟩
  | assign x =>
    simp only [trK] at hk
    split at hk <;> simp only [Option.some.injEq, reduceCtorEq] at hk
    rename_i y hx; subst hk
    simp only [ev] at he
    obtain ⟨p, hp, hr⟩ := vg_rep hx hs hG he
    exact ⟨p, _, hp, rfl, hr⟩
  | pick c x y =>
    simp only [trK] at hk
    split at hk <;> simp only [Option.some.injEq, reduceCtorEq] at hk
    rename_i c' x' y' hc hx hy; subst hk
    obtain ⟨p, v, h1, h2, h3⟩ := snd_pick (P := P) (w := w) hc hx hy hs hG he
    refine ⟨p, v, h1, ?_, h3⟩
    simp only [execOp]
    simp only [Sem.run_bind] at h2 ⊢
    cases hb : (asBool (a.eval c)).run P w with
    | ok b w' =>
      rw [hb] at h2
      simp only [Result.andThen_ok, Sem.run_pure, Result.ok.injEq] at h2 ⊢
      exact ⟨by rw [h2.1], h2.2⟩
    | halt h w' => rw [hb] at h2; simp at h2
  | build t parts =>
    have hk' : trK P false (.build t parts) = some k := hk
    exact (snd_build (P := P) (w := w) hk' hs hG he).exec rfl
  | load t x =>
    simp only [trK] at hk
    split at hk
    · rename_i g n y hg hn hx
      split at hk <;> simp only [Option.some.injEq, reduceCtorEq] at hk
      subst hk
      exact (snd_load hx hs hw hG hg hn he).exec rfl
    · simp at hk
  | nilCheck x =>
    simp only [trK] at hk
    split at hk <;> simp only [Option.some.injEq, reduceCtorEq] at hk
    rename_i y hx; subst hk
    exact snd_nilCheck rfl hx hs hG he
  | binOp op t x y yt =>
    exact (bin_sound (P := P) (w := w) hk hs hG he).exec rfl
  | unOp op t x =>
    simp only [trK] at hk
    split at hk <;> simp only [Option.some.injEq, reduceCtorEq] at hk
    rename_i y hx; subst hk
    exact (snd_un hx hs hG he).exec rfl
  | convert t d x =>
    simp only [trK] at hk
    split at hk
    · rename_i k1 k2 y h1 h2 hx
      simp only [Option.some.injEq] at hk; subst hk
      exact (snd_convI hx hs hG h1 h2 he).exec rfl
    · rename_i e y h1 h2 hx
      split at hk <;> simp only [Option.some.injEq, reduceCtorEq] at hk
      rename_i h3; subst hk
      exact (snd_convS hx hs hw hG h1 h2 h3 he).exec rfl
    · split at hk <;> simp only [Option.some.injEq, reduceCtorEq] at hk
      subst hk; simp [ev] at he
    · simp at hk
  | makeFunc f x z =>
    simp only [trK] at hk
    split at hk <;> simp only [Option.some.injEq, reduceCtorEq] at hk
    rename_i p q hx hz; subst hk
    exact (snd_mkFunc hx hz hs hG he).exec rfl
  | slice t x lo hi mx =>
    simp only [trK] at hk
    split at hk
    · rename_i y lo' hi' mx' hu hx hl hh hm
      simp only [Option.some.injEq] at hk; subst hk
      exact (snd_slice_str hx hl hh hm hs hG hu he).exec rfl
    · rename_i e y lo' hi' mx' hu hx hl hh hm
      split at hk
      · rename_i n hn
        split at hk <;> simp only [Option.some.injEq, reduceCtorEq] at hk
        rename_i hmh; subst hk
        exact (snd_slice_sl hx hl hh hm hmh hs hG hu hn he).exec rfl
      · simp at hk
    · rename_i n e y lo' hi' mx' hu hx hl hh hm
      split at hk <;> simp only [Option.some.injEq, reduceCtorEq] at hk
      rename_i sz hn; subst hk
      exact (snd_slice_ar hx hl hh hm hs hG hu hn he).exec rfl
    · simp at hk
  | makeMap t r =>
    cases r with
    | some r => simp [trK] at hk
    | none =>
      simp only [trK] at hk
      repeat (split at hk <;> (try contradiction))
      all_goals (simp only [Option.some.injEq] at hk; subst hk; simp [ev] at he)
  | lookup t m x ok =>
    simp only [trK] at hk
    repeat (split at hk <;> (try contradiction))
    all_goals (simp only [Option.some.injEq] at hk; subst hk; simp [ev] at he)
  | mapUpdate t m x y =>
    simp only [trK] at hk
    repeat (split at hk <;> (try contradiction))
    all_goals (simp only [Option.some.injEq] at hk; subst hk; simp [ev] at he)
  | sliceToArrayPointer t x =>
    simp only [trK] at hk
    split at hk
    · rename_i n e y hu hx
      split at hk <;> simp only [Option.some.injEq, reduceCtorEq] at hk
      subst hk
      exact (snd_s2a hx hs hG hu he).exec rfl
    · simp at hk
  | fieldAddr t x i =>
    simp only [trK] at hk
    split at hk
    · rename_i fs y hu hx
      split at hk
      · rename_i f hf
        split at hk <;> simp only [Option.some.injEq, reduceCtorEq] at hk
        rename_i m hn; subst hk
        exact (snd_fieldA hx hs hG hu hf hn he).exec rfl
      · simp at hk
    · simp at hk
  | field t x i =>
    simp only [trK] at hk
    split at hk
    · rename_i fs y hu hx
      split at hk
      · rename_i f hf
        split at hk
        · rename_i g n hg hn
          split at hk <;> simp only [Option.some.injEq, reduceCtorEq] at hk
          subst hk
          exact (snd_field hx hs hG hu hf hg hn he).exec rfl
        · simp at hk
      · simp at hk
    · simp at hk
  | indexAddr t x i =>
    simp only [trK] at hk
    split at hk
    · rename_i e y j hu hx hi
      split at hk <;> simp only [Option.some.injEq, reduceCtorEq] at hk
      rename_i n hn; subst hk
      exact (snd_indexA_sl hx hi hs hG hu hn he).exec rfl
    · rename_i len e y j hu hx hi
      split at hk <;> simp only [Option.some.injEq, reduceCtorEq] at hk
      rename_i n hn; subst hk
      exact (snd_indexA_ar hx hi hs hG hu hn he).exec rfl
    · simp at hk
  | index t x i =>
    simp only [trK] at hk
    split at hk
    · rename_i len e y j hu hx hi
      split at hk
      · rename_i g n hg hn
        split at hk <;> simp only [Option.some.injEq, reduceCtorEq] at hk
        subst hk
        exact (snd_index hx hi hs hG hu hg hn he).exec rfl
      · simp at hk
    · rename_i y j hu hx hi
      simp only [Option.some.injEq] at hk; subst hk
      exact (snd_indexS hx hi hs hG hu he).exec rfl
    · simp at hk
  | extract x i =>
    simp only [trK] at hk
    split at hk <;> simp only [Option.some.injEq, reduceCtorEq] at hk
    rename_i y hx; subst hk
    exact (snd_extract hx hs he).exec rfl
  | call c =>
    obtain ⟨callee, args, tys⟩ := c
    obtain ⟨args⟩ := args
    obtain ⟨tys⟩ := tys
    cases callee with
    | value f =>
      simp only [trK] at hk
      split at hk <;> simp only [Option.some.injEq, reduceCtorEq] at hk
      subst hk
      simp [ev] at he
    | invoke r m => simp [trK] at hk
    | builtin b =>
      simp only [trK] at hk
      have hex : ∀ (x : Sem Value) (c : Array Bool), builtin b tys.toArray ty c ((args.map a.eval).toArray) = (do Pure.pure (.value (← x))) → Yield P Γ w x K →
          c = (args.toArray.map fun | .const _ => true | _ => false) →
          ∃ p v, K p ∧ (execOp a.eval { dst := dst, op := .call { callee := .builtin b, args := args.toArray, argTypes := tys.toArray }, type := ty, pos := pos, after := after, guard := guard }).run P w = .ok (.value v) w ∧ RepV Γ p v := by
        intro x c hx hy hc
        refine hy.exec ?_
        have e : Array.map a.eval args.toArray = (args.map a.eval).toArray := by simp
        simp only [execOp, resolve, e]
        rw [← hx, hc]
        rfl
      cases b with
      | len => exact hex _ _ rfl (snd_len (P := P) (w := w) (ty := ty) hk hs hG he) rfl
      | min =>
        unfold trBuiltin at hk
        simp only at hk
        split at hk <;> simp only [Option.some.injEq, reduceCtorEq] at hk
        rename_i l hl; subst hk
        exact hex _ _ rfl (by simpa using snd_mm (P := P) (w := w) (ty := ty) (tys := tys) hl hs hG he) rfl
      | max =>
        unfold trBuiltin at hk
        simp only at hk
        split at hk <;> simp only [Option.some.injEq, reduceCtorEq] at hk
        rename_i l hl; subst hk
        exact hex _ _ rfl (by simpa using snd_mm (P := P) (w := w) (ty := ty) (tys := tys) hl hs hG he) rfl
      | append =>
        unfold trBuiltin at hk
        split at hk <;> (try contradiction)
        repeat (split at hk <;> (try contradiction))
        all_goals first | (simp only [Option.some.injEq] at hk; subst hk; simp [ev] at he; done) | (simp at hk; done) | (split at hk <;> first | (simp only [Option.some.injEq] at hk; subst hk; simp [ev] at he; done) | (simp at hk; done))
      | copy =>
        unfold trBuiltin at hk
        split at hk <;> (try contradiction)
        repeat (split at hk <;> (try contradiction))
        all_goals (simp only [Option.some.injEq] at hk; subst hk; simp [ev] at he)
      | clear =>
        unfold trBuiltin at hk
        split at hk <;> (try contradiction)
        repeat (split at hk <;> (try contradiction))
        all_goals (simp only [Option.some.injEq] at hk; subst hk; simp [ev] at he)
      | _ => unfold trBuiltin at hk; split at hk <;> contradiction
  | alloc t =>
    simp only [trK] at hk
    split at hk <;> simp only [Option.some.injEq, reduceCtorEq] at hk
    subst hk; simp [ev] at he
  | box t x =>
    simp only [trK] at hk
    split at hk <;> simp only [Option.some.injEq, reduceCtorEq] at hk
    subst hk; simp [ev] at he
  | buildSlice t n parts =>
    simp only [trK] at hk
    repeat (split at hk <;> (try contradiction))
    all_goals (simp only [Option.some.injEq] at hk; subst hk; simp [ev] at he)
  | makeSlice t l c =>
    simp only [trK] at hk
    repeat (split at hk <;> (try contradiction))
    all_goals (simp only [Option.some.injEq] at hk; subst hk; simp [ev] at he)
  | store t x y =>
    simp only [trK] at hk
    split at hk <;> simp only [Option.some.injEq, reduceCtorEq] at hk
    subst hk; simp [ev] at he
  | _ => simp [trK] at hk
end Go.Ab
