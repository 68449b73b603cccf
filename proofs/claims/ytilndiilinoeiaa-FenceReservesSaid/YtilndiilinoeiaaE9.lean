/- The checks of the document on rules, sessions. -/
import Derived.Test.YtilndiilinoeiaaE8
set_option linter.all false
namespace Go.Ab
open Go.Ab
theorem within_t {n a b : Int} (h1 : a ≤ n) (h2 : n ≤ b) : ARet Pg I.burrowref24_within [.int .i64 n, .int .i64 a, .int .i64 b] (.bl true) := by
  refine ACalls.intro T.burrowref24_within (by simp [F.burrowref24_within]) ?_
  simp [F.burrowref24_within, argEnv, fpBx, h1, h2]
  refine RetS.plain [] ?_
  simp
theorem past_t {d : Dmn} {t : Int} (h1 : 0 ≤ t) (h2 : t ≤ d.now) : ARet Pg I.burrowref24_past [encD d, .int .i64 t] (.bl true) := by
  refine ACalls.intro T.burrowref24_past (by simp [F.burrowref24_past]) ?_
  simp [F.burrowref24_past, argEnv, fpBx]
  refine callS.ret (within_t h1 h2) (by simp) (by simp) (by simp) ?_
  simp
  refine RetS.plain [] ?_
  simp
set_option maxRecDepth 10000 in
theorem ValidRules_t {r : Rul} (h : RulOk r) : ARet Pg I.burrowref24_ValidRules [encRu r] (.bl true) := by
  refine ACalls.intro T.burrowref24_ValidRules (by simp [F.burrowref24_ValidRules]) ?_
  obtain ⟨h1, h2, h3, h4, h5, h6, h7, h8, h9, h10, h11, h12, h13, h14, h15, h16, h17⟩ := h
  have n1 : ¬ r.rekm < 1 := by omega
  have n2 : ¬ r.rejm < r.rekm := by omega
  have n3 : ¬ (18446744073709543423 : Int) < r.rejm := by omega
  have w1 : IntKind.i64.wrap (r.kat + r.ret) = r.kat + r.ret := wrap_i64 (by omega)
  have w2 : IntKind.i64.wrap (20 * r.ret) = 20 * r.ret := wrap_i64 (by omega)
  have n4 : r.kat + r.ret < r.rejt := by omega
  simp [F.burrowref24_ValidRules, argEnv, fpBx, n1, n2, n3]
  refine callS.ret (within_t (n := r.ret) (a := 1000) (b := 1073741824) (by omega) (by omega)) (by simp) (by simp) (by simp) ?_
  simp
  refine callS.ret (within_t (n := r.kat) (a := 1000) (b := 1073741824) (by omega) (by omega)) (by simp) (by simp) (by simp) ?_
  simp
  refine callS.ret (within_t (n := r.cot) (a := 1) (b := 1073741824) (by omega) (by omega)) (by simp) (by simp) (by simp) ?_
  simp
  refine callS.ret (within_t (n := r.rekt) (a := 1) (b := 1073741824) (by omega) (by omega)) (by simp) (by simp) (by simp) ?_
  simp
  refine callS.ret (within_t (n := r.rejt) (a := 1) (b := 1073741824) (by omega) (by omega)) (by simp) (by simp) (by simp) ?_
  simp [h10, w1, n4, w2]
  refine callS.ret (within_t (n := r.att) (a := r.ret) (b := 20 * r.ret) (by omega) (by omega)) (by simp) (by simp) (by simp) ?_
  simp
  refine callS.ret (within_t (n := r.load) (a := 1) (b := 64) (by omega) (by omega)) (by simp) (by simp) (by simp) ?_
  simp
  refine callS.ret (within_t (n := r.stage) (a := 1) (b := 8) (by omega) (by omega)) (by simp) (by simp) (by simp) ?_
  simp
  refine RetS.plain [] ?_
  simp
/-- the window of a made session -/
def WinOk (v : FV shWn) : Prop := v = zWn ∨ ∃ w : Win, w.used = true ∧ v = encW w
structure SesOk (d : Dmn) (s : Ses) : Prop where
  b0 : 0 ≤ s.born
  b1 : s.born ≤ d.now
  fe : s.fence = d.rules.rejm
  n0 : 0 ≤ s.next
  n1 : s.next ≤ 18446744073709543423
  wi : WinOk s.win
set_option maxRecDepth 10000 in
theorem sound_t {d : Dmn} {s : Ses} (h : SesOk d s) : ARet Pg I.burrowref24_sound [encD d, encS s] (.bl true) := by
  refine ACalls.intro T.burrowref24_sound (by simp [F.burrowref24_sound]) ?_
  have h1 := h.fe
  have h2 := h.n1
  simp [F.burrowref24_sound, argEnv, fpBx]
  refine callS.ret (past_t (d := d) h.b0 h.b1) (by simp) (by simp) (by simp) ?_
  rcases h.wi with hw | ⟨w, hu, hw⟩
  · simp [h1, h2, hw, zWn, widths]
    refine ⟨rfl, ?_⟩
    refine RetS.plain [] ?_
    simp
    rfl
  · simp [h1, h2, hw, encW, wP, widths, hu]
    refine RetS.plain [] ?_
    simp
/-- a number in decimal, for numbers below 10^(f + 1) -/
def decF : Nat → Nat → List UInt8
  | 0, n => [UInt8.ofNat (48 + n)]
  | f + 1, n => if n < 10 then [UInt8.ofNat (48 + n)] else decF f (n / 10) ++ [UInt8.ofNat (48 + n % 10)]
theorem decF_len : ∀ f n, 1 ≤ (decF f n).length ∧ (decF f n).length ≤ f + 1
  | 0, n => by simp [decF]
  | f + 1, n => by
    have := decF_len f (n / 10)
    simp only [decF]; split <;> simp <;> omega
theorem u8_n {n : Nat} (h : n < 256) : u8 (UInt8.ofNat n) = .int .u8 n := by
  simp only [u8]; congr 1; simp [UInt8.toNat_ofNat]; omega
theorem asB1 {x : Int} {n : Nat} (e : x = n) (h : n < 256) : asBytes [.int .u8 x] = some [UInt8.ofNat n] := by
  subst e; rw [← u8_n h]; exact asBytes_map [UInt8.ofNat n]
theorem Decimal : ∀ (f n : Nat), f ≤ 100 → n < 10 ^ (f + 1) → n < 1000000 → ARet Pg I.burrowref13_Decimal [.int .i64 n] (.str (decF f n)) := by
  intro f
  induction f with
  | zero =>
    intro n hf h h'
    have hn : (n : Int) < 10 := by simp at h; omega
    refine ACalls.intro T.burrowref13_Decimal (by simp [F.burrowref13_Decimal]) ?_
    have w1 : IntKind.i64.wrap (48 + (n : Int)) = 48 + (n : Int) := wrap_i64 (by omega)
    have w2 : IntKind.u8.wrap (48 + (n : Int)) = 48 + (n : Int) := wrap_u8 (by omega)
    simp [F.burrowref13_Decimal, argEnv, fpBx, hn, w1, w2, asB1 (x := 48 + (n : Int)) (n := 48 + n) (by omega) (by omega)]
    refine RetS.plain [] ?_
    simp [decF]
  | succ f ih =>
    intro n hf h h'
    refine ACalls.intro T.burrowref13_Decimal (by simp [F.burrowref13_Decimal]) ?_
    by_cases hn : (n : Int) < 10
    · have w1 : IntKind.i64.wrap (48 + (n : Int)) = 48 + (n : Int) := wrap_i64 (by omega)
      have w2 : IntKind.u8.wrap (48 + (n : Int)) = 48 + (n : Int) := wrap_u8 (by omega)
      simp [F.burrowref13_Decimal, argEnv, fpBx, hn, w1, w2, asB1 (x := 48 + (n : Int)) (n := 48 + n) (by omega) (by omega)]
      refine RetS.plain [] ?_
      have hn' : n < 10 := by omega
      simp [decF, hn']
    · have hl := decF_len f (n / 10)
      obtain ⟨q, hq⟩ : ∃ q, q = n / 10 := ⟨_, rfl⟩
      obtain ⟨t, ht⟩ : ∃ t, t = n % 10 := ⟨_, rfl⟩
      have hd : IntKind.i64.wrap ((n : Int).tdiv 10) = (q : Int) := by
        rw [show (10 : Int) = ((10 : Nat) : Int) from rfl, ← Int.ofNat_tdiv, hq]; exact wrap_i64 (by omega)
      have hd2 : IntKind.i64.wrap ((n : Int) / 10) = (q : Int) := by
        rw [show (n : Int) / 10 = ((n / 10 : Nat) : Int) by omega, hq]; exact wrap_i64 (by omega)
      have hm : (n : Int).tmod 10 = (t : Int) := by
        rw [show (10 : Int) = ((10 : Nat) : Int) from rfl, ← Int.ofNat_tmod, ht]
      have w1 : IntKind.i64.wrap (48 + (t : Int)) = 48 + (t : Int) := wrap_i64 (by omega)
      have w2 : IntKind.u8.wrap (48 + (t : Int)) = 48 + (t : Int) := wrap_u8 (by omega)
      have hi := ih q (by omega) (by rw [Nat.pow_succ] at h; omega) (by omega)
      simp [F.burrowref13_Decimal, argEnv, fpBx, hn, hd, hd2]
      refine callT.ret hi (by simp) (by simp) (by simp) ?_
      rw [← hq] at hl
      simp [hm, w1, w2, asB1 (x := 48 + (t : Int)) (n := 48 + t) (by omega) (by omega)]
      refine ⟨by omega, ?_⟩
      refine RetS.plain [] ?_
      have hn' : ¬ n < 10 := by omega
      simp [decF, hn', ← hq, ← ht]
theorem Timed_t {n : Int} (h : n = 0 ∨ 1000 ≤ n ∧ n ≤ 1073741824) : ARet Pg I.burrowref13_Timed [.int .i64 n] (.bl true) := by
  refine ACalls.intro T.burrowref13_Timed (by simp [F.burrowref13_Timed]) ?_
  rcases h with h | ⟨h1, h2⟩
  · simp [F.burrowref13_Timed, argEnv, fpBx, h]
    refine RetS.plain [] ?_
    simp
  · have h0 : ¬ n = 0 := by omega
    simp [F.burrowref13_Timed, argEnv, fpBx, h0, h1, h2]
    refine RetS.plain [] ?_
    simp
@[simp ↓] theorem binS_geq' (a b : List UInt8) (K : PV → Prop) : binS .geq a b K = K (.bl (!Op.bytesLess a b)) := _root_.id rfl
def fmtA (a : Adr) (n : Nat) : List UInt8 := ((a.ip.take n).map (fun b => [46] ++ decF 2 b.toNat)).flatten
theorem fmtA_le (a : Adr) : ∀ n, (fmtA a n).length ≤ 4 * n := by
  intro n
  unfold fmtA
  generalize a.ip = l
  induction l generalizing n with
  | nil => simp
  | cons x l ih =>
    cases n with
    | zero => simp
    | succ n =>
      have := ih n
      have h2 := decF_len 2 x.toNat
      simp at this ⊢
      omega
theorem fmtA_succ (a : Adr) {n : Nat} {b : UInt8} (h : a.ip[n]? = some b) : fmtA a (n + 1) = fmtA a n ++ ([46] ++ decF 2 b.toNat) := by
  unfold fmtA
  rw [List.take_add_one, h]; simp
theorem fmtA_pos (a : Adr) : 2 ≤ (fmtA a 4).length := by
  have h := a.h
  obtain ⟨x, l, e⟩ : ∃ x l, a.ip = x :: l := by
    cases hx : a.ip with
    | nil => rw [hx] at h; simp at h
    | cons x l => exact ⟨x, l, rfl⟩
  unfold fmtA
  rw [e]
  have h2 := decF_len 2 x.toNat
  simp
  omega
set_option maxRecDepth 10000 in
theorem FormatAddr {a : Adr} (h : ZFrom a 4) (h6 : a.six = false) : ARet Pg I.burrowref13_FormatAddr [encA a] (.str ((fmtA a 4).drop 1)) := by
  refine ACalls.intro T.burrowref13_FormatAddr (by simp [F.burrowref13_FormatAddr]) ?_
  simp [F.burrowref13_FormatAddr, argEnv, fpBx]
  refine callS.ret (burrowref09_Sound h) (by simp) (by simp) (by simp) ?_
  simp [h6]
  refine LpS.rng 4 (fun _ => True) [1, 2, 3, 4] (fun i => [(3, .str (fmtA a i)), (4, .int .i64 i)]) (fun i => []) [.keep [1, 2, 3, 4]] ?_
  simp [show fmtA a 0 = [] from rfl]
  refine ⟨fun i hi K hK => ?_, fun K => ?_⟩
  · have hi2 : i < a.ip.length := by rw [a.h]; omega
    have hx : a.ip[i]? = some a.ip[i] := List.getElem?_eq_getElem hi2
    have hb := (a.ip[i]).toNat_lt
    have hw : IntKind.i64.wrap ((a.ip[i]).toNat : Int) = ((a.ip[i]).toNat : Int) := wrap_i64 (by omega)
    have hi4 : (i : Int) < 4 := by omega
    have hl := fmtA_le a i
    have hl2 := decF_len 2 (a.ip[i]).toNat
    rw [fmtA_succ a hx] at hK
    have hi16 : (i : Int) < 16 := by omega
    simp [F.burrowref13_FormatAddrl0, hi, hi4, hi16, hx, u8, hw, wrapi hi (by omega)]
    refine callS.ret (Decimal 2 (a.ip[i]).toNat (by omega) (by omega) (by omega)) (by simp) (by simp) (by simp) ?_
    simp [hw, wrapi hi (by omega)]
    refine ⟨by omega, by omega, [.keep [1, 2, 3, 4]], ?_⟩
    simp
    exact hK _ (by simp)
  · have hl := fmtA_le a 4
    have hp := fmtA_pos a
    simp [F.burrowref13_FormatAddrl0, F.burrowref13_FormatAddrc1]
    refine ⟨by omega, ?_⟩
    refine RetS.plain [] ?_
    simp
theorem atOf_z (i : Nat) : ZFrom (atOf i).addr 4 := by
  intro j h1 h2
  simp only [atOf]
  rcases (by omega : j = 4 ∨ j = 5 ∨ j = 6 ∨ j = 7 ∨ j = 8 ∨ j = 9 ∨ j = 10 ∨ j = 11 ∨ j = 12 ∨ j = 13 ∨ j = 14 ∨ j = 15) with rfl | rfl | rfl | rfl | rfl | rfl | rfl | rfl | rfl | rfl | rfl | rfl <;> rfl
def fmtE (i : Nat) : List UInt8 := (fmtA (atOf i).addr 4).drop 1 ++ [58] ++ decF 3 (1000 + i)
theorem fmtE_pos (i : Nat) : fmtE i ≠ [] := by simp [fmtE]
set_option maxRecDepth 10000 in
theorem FormatEndpoint {i : Nat} (h : i < 3) : ARet Pg I.burrowref13_FormatEndpoint [encE (atOf i)] (.str (fmtE i)) := by
  refine ACalls.intro T.burrowref13_FormatEndpoint (by simp [F.burrowref13_FormatEndpoint]) ?_
  have hf := FormatAddr (atOf_z i) rfl
  have hl := fmtA_le (atOf i).addr 4
  have hp := fmtA_pos (atOf i).addr
  have hd := decF_len 3 (1000 + i)
  have he : fmtE i = (fmtA (atOf i).addr 4).drop 1 ++ [58] ++ decF 3 (1000 + i) := rfl
  rw [he]
  obtain ⟨m, hm⟩ : ∃ m, (fmtA (atOf i).addr 4).drop 1 = m := ⟨_, rfl⟩
  have hml : m.length = (fmtA (atOf i).addr 4).length - 1 := by rw [← hm, List.length_drop]
  rw [hm] at hf ⊢
  have hn : m ≠ [] := by intro e; rw [e] at hml; simp at hml; omega
  have p1 : (atOf i).port = 1000 + (i : Int) := rfl
  have p2 : ¬ (1000 + (i : Int)) < 1 := by omega
  have p3 : ¬ (65535 : Int) < 1000 + (i : Int) := by omega
  have p4 : (atOf i).addr.six = false := rfl
  have hdc := Decimal 3 (1000 + i) (by omega) (by omega) (by omega)
  rw [show ((1000 + i : Nat) : Int) = 1000 + (i : Int) by omega] at hdc
  simp [F.burrowref13_FormatEndpoint, argEnv, fpBx]
  refine callS.ret hf (by simp) (by simp) (by simp) ?_
  simp [hn, p1, p2, p3, p4]
  refine ⟨by omega, ?_⟩
  refine callS.ret hdc (by simp) (by simp) (by simp) ?_
  simp
  refine ⟨by omega, ?_⟩
  refine RetS.plain [] ?_
  simp
end Go.Ab
