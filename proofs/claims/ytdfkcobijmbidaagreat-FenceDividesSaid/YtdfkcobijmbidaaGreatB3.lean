/- Codes, keys, prefixes, indices, rings of the reference. No condition. -/
import Derived.Test.YtdfkcobijmbidaaGreatB2
import Derived.Laws.BitsAllLaws
set_option linter.all false
noncomputable section E3s
namespace Go.Ab
open Go.Ab
theorem beqL_u8 : ∀ l m : List UInt8, PV.beqL (l.map u8) (m.map u8) = decide (l = m)
  | [], [] => by simp [PV.beqL]
  | [], _ :: _ => by simp [PV.beqL]
  | _ :: _, [] => by simp [PV.beqL]
  | a :: l, b :: m => by
    have ih := beqL_u8 l m
    simp only [List.map_cons, PV.beqL, ih, u8, PV.beq]
    by_cases h : a = b
    · subst h; simp
    · have : ¬ (a.toNat = b.toNat) := fun e => h (UInt8.toNat_inj.1 e)
      simp [h, this]
      intro e; exact absurd (by omega) this
theorem Key.ext' {a b : Key} (h : a.l = b.l) : a = b := by cases a; cases b; simp_all
instance : DecidableEq Key := fun a b => if h : a.l = b.l then isTrue (Key.ext' h) else isFalse (fun e => h (by rw [e]))
theorem beq_K (a b : Key) : PV.beq (encK a) (encK b) = decide (a = b) := by
  have : (a = b) ↔ a.l = b.l := ⟨fun e => by rw [e], Key.ext'⟩
  simp [encK, PV.beq, beqL_u8, this]
def ltK (a b : Key) : Bool := Op.bytesLess a.l b.l
def lessT (a b : Tmr) : Bool := if a.at_ ≠ b.at_ then decide (a.at_ < b.at_) else if a.peer ≠ b.peer then ltK a.peer b.peer else decide (a.kind < b.kind)
set_option maxRecDepth 10000 in
theorem burrowref14_LessTimer (a b : Tmr) : ARet Pg I.burrowref14_LessTimer [encT a, encT b] (.bl (lessT a b)) := by
  refine ACalls.intro T.burrowref14_LessTimer (by simp [F.burrowref14_LessTimer]) ?_
  by_cases h1 : a.at_ = b.at_
  · by_cases h2 : a.peer = b.peer
    · simp [F.burrowref14_LessTimer, argEnv, fpBx, h1, h2, beq_K]
      refine RetS.plain [] ?_
      simp [lessT, h1, h2]
    · simp [F.burrowref14_LessTimer, argEnv, fpBx, h1, h2, beq_K]
      have ta : (a.peer.l.map u8).take 32 = a.peer.l.map u8 := List.take_of_length_le (by simp [a.peer.h])
      have tb : (b.peer.l.map u8).take 32 = b.peer.l.map u8 := List.take_of_length_le (by simp [b.peer.h])
      simp [encK, a.peer.h, b.peer.h, ta, tb]
      refine RetS.plain [] ?_
      simp [lessT, ltK, h1, h2]
  · simp [F.burrowref14_LessTimer, argEnv, fpBx, h1]
    refine RetS.plain [] ?_
    simp [lessT, h1]
def notT (k : Key) (n : Int) (x : Tmr) : Bool := !(decide (x.peer = k) && decide (x.kind = n))
def cancelT (l : List Tmr) (k : Key) (n : Int) : List Tmr := l.filter (notT k n)
theorem filter_succ {α : Type} (p : α → Bool) {l : List α} {i : Nat} (h : i < l.length) : (l.take (i + 1)).filter p = (l.take i).filter p ++ (if p l[i] = true then [l[i]] else []) := by
  rw [List.take_succ_eq_append_getElem h, List.filter_append]
  congr 1
  by_cases hk : p l[i] = true <;> simp [hk]
theorem filter_take_le {α : Type} (p : α → Bool) (l : List α) (i : Nat) : ((l.take i).filter p).length ≤ i := by
  have := List.length_filter_le p (l.take i)
  rw [List.length_take] at this; omega
set_option maxRecDepth 10000 in
set_option maxHeartbeats 1000000 in
theorem burrowref14_Cancel {l : List Tmr} (h : l.length ≤ 1048576) (k : Key) (n : Int) : ARet Pg I.burrowref14_Cancel [encTs l, encK k, .int .i64 n] (encTs (cancelT l k n)) := by
  refine ACalls.intro T.burrowref14_Cancel (by simp [F.burrowref14_Cancel]) ?_
  simp [F.burrowref14_Cancel, argEnv, fpBx, encTs]
  refine LpS.rng l.length (fun _ => True) [2, 4, 6, 7, 10, 11, 12] (fun i => [(7, .rs 7 [] 0 ((l.take i).filter (notT k n)).length ((l.take i).filter (notT k n)).length 34 .tip), (12, .int .i64 i)]) (fun i => [(7, .arr 34 (((l.take i).filter (notT k n)).map encT))]) [.vt 7 7 34] ?_
  simp
  refine ⟨fun i hi K hK => ?_, fun K => ?_⟩
  · have hx : l[i]? = some l[i] := List.getElem?_eq_getElem hi
    have hlen := filter_take_le (notT k n) l i
    rw [filter_succ _ hi] at hK
    generalize (l.take i).filter (notT k n) = out at *
    by_cases h1 : l[i].peer = k
    · by_cases h2 : l[i].kind = n
      · simp [↓aw_lk, hx, hi, h1, h2, beq_K, wrapi hi h]
        refine ⟨[.keep [2, 4, 6, 7, 10, 11, 12], .dr 9], ?_⟩
        simp [refsEnv, refsBx, refsOk, refsOkB]
        exact hK _ (by simp [notT, h1, h2])
      · simp [↓aw_lk, hx, hi, h1, h2, beq_K, wrapi hi h]
        refine ⟨⟨by omega, by omega⟩, [.keep [2, 4, 6, 7, 10, 11, 12], .dr 9], ?_⟩
        simp [refsEnv, refsBx, refsOk, refsOkB]
        exact hK _ (by simp [notT, h1, h2])
    · simp [↓aw_lk, hx, hi, h1, beq_K, wrapi hi h]
      refine ⟨⟨by omega, by omega⟩, [.keep [2, 4, 6, 7, 10, 11, 12], .dr 9], ?_⟩
      simp [refsEnv, refsBx, refsOk, refsOkB]
      exact hK _ (by simp [notT, h1])
  · simp [↓aw_lk, ↓aw_lk]
    refine RetS.plain [.keep [6], .fz 7, .wk 6] ?_
    simp [cancelT]
def posT (t : Tmr) : List Tmr → Nat
  | [] => 0
  | x :: r => if lessT t x = true then 0 else posT t r + 1
def setT (l : List Tmr) (t : Tmr) : List Tmr := let r := cancelT l t.peer t.kind; r.take (posT t r) ++ [t] ++ r.drop (posT t r)
theorem posT_le (t : Tmr) : ∀ l, posT t l ≤ l.length
  | [] => Nat.le_refl _
  | x :: r => by simp only [posT]; split <;> simp; exact posT_le t r
theorem posT_lt (t : Tmr) : ∀ (l : List Tmr) (i : Nat) (h : i < l.length), i < posT t l → lessT t l[i] = false
  | x :: r, 0, h, hi => by simp only [posT] at hi; split at hi <;> simp_all
  | x :: r, i + 1, h, hi => by
    simp only [posT] at hi
    split at hi
    · omega
    · simpa using posT_lt t r i (by simpa using h) (by omega)
theorem posT_at (t : Tmr) : ∀ (l : List Tmr) (h : posT t l < l.length), lessT t l[posT t l] = true
  | [], h => by simp at h
  | x :: r, h => by
    simp only [posT] at h ⊢
    by_cases hx : lessT t x = true
    · simp [hx]
    · simp only [hx, Bool.false_eq_true, if_false] at h ⊢
      simpa using posT_at t r (by simpa using h)
set_option maxRecDepth 10000 in
set_option maxHeartbeats 1000000 in
theorem burrowref14_Set {l : List Tmr} (h : l.length ≤ 1048575) (t : Tmr) : ARet Pg I.burrowref14_Set [encTs l, encT t] (encTs (setT l t)) := by
  refine ACalls.intro T.burrowref14_Set (by simp [F.burrowref14_Set]) ?_
  simp [F.burrowref14_Set, argEnv, fpBx]
  refine callS.ret (burrowref14_Cancel (l := l) (by omega) t.peer t.kind) (by simp) (by simp) (by simp) ?_
  have hle : (cancelT l t.peer t.kind).length ≤ l.length := List.length_filter_le _ _
  have hr : setT l t = (cancelT l t.peer t.kind).take (posT t (cancelT l t.peer t.kind)) ++ [t] ++ (cancelT l t.peer t.kind).drop (posT t (cancelT l t.peer t.kind)) := rfl
  rw [hr]
  generalize cancelT l t.peer t.kind = r at *
  have hp := posT_le t r
  simp
  refine LpS.rng (posT t r) (fun _ => True) [3, 4, 5, 6] (fun i => [(6, .int .i64 i)]) (fun i => []) [.keep [3, 4, 5, 6]] ?_
  simp
  refine ⟨fun i hi K hK => ?_, fun K => ?_⟩
  · have hl : i < r.length := by omega
    have hx : r[i]? = some r[i] := List.getElem?_eq_getElem hl
    have hn := posT_lt t r i hl hi
    simp [↓aw_lk, hx, hl]
    refine callT.ret (burrowref14_LessTimer t r[i]) (by simp) (by simp) (by simp) ?_
    simp [hn, wrapi hl (by omega)]
    refine ⟨[.keep [3, 4, 5, 6]], ?_⟩
    simp
    exact hK _ (by simp)
  · by_cases hq : posT t r < r.length
    · have hx : r[posT t r]? = some r[posT t r] := List.getElem?_eq_getElem hq
      have hn := posT_at t r hq
      simp [↓aw_lk, hx, hq]
      refine callT.ret (burrowref14_LessTimer t r[posT t r]) (by simp) (by simp) (by simp) ?_
      simp [hn]
      simp [↓aw_lk, encTs]
      refine DrS.run [33, 38] rfl ?_
      simp [hp]
      have hmin : min (1 + (r.length - posT t r)) (r.length - posT t r + 1) = 1 + (r.length - posT t r) := by omega
      rw [hmin]
      refine ⟨⟨by omega, by omega⟩, ⟨by omega, by omega⟩, ⟨by omega, by omega⟩, ?_⟩
      refine RetS.plain [.keep [4], .dr 33, .fz 38, .wk 4] ?_
      have h1 : min (posT t r) r.length = posT t r := by omega
      have h2 : r.length - posT t r + 1 = 1 + (r.length - posT t r) := by omega
      simp [refsEnv, refsBx, refsOk, refsOkB, refsOkL, h1, h2, List.take_of_length_le]
    · simp [↓aw_lk, hq]
      simp [↓aw_lk, encTs]
      refine DrS.run [33, 38] rfl ?_
      simp [hp]
      have hmin : min (1 + (r.length - posT t r)) (r.length - posT t r + 1) = 1 + (r.length - posT t r) := by omega
      rw [hmin]
      refine ⟨⟨by omega, by omega⟩, ⟨by omega, by omega⟩, ⟨by omega, by omega⟩, ?_⟩
      refine RetS.plain [.keep [4], .dr 33, .fz 38, .wk 4] ?_
      have h1 : min (posT t r) r.length = posT t r := by omega
      have h2 : r.length - posT t r + 1 = 1 + (r.length - posT t r) := by omega
      simp [refsEnv, refsBx, refsOk, refsOkB, refsOkL, h1, h2, List.take_of_length_le]
end Go.Ab
end E3s
noncomputable section E4s
namespace Go.Ab
open Go.Ab
theorem wrap_u8n {n : Nat} (h : n < 2 ^ 8) : IntKind.u8.wrap (n : Int) = (n : Int) := wrap_u8 (by omega)
def hostA (net host : UInt8) : Adr := ⟨false, [10, net, 0, host, 0, 0, 0, 0, 0, 0, 0, 0, 0, 0, 0, 0], rfl⟩
theorem burrowcase_Host (n h : UInt8) : ARet Pg I.burrowcase_Host [.int .i64 (n.toNat : Int), .int .i64 (h.toNat : Int)] (encA (hostA n h)) := by
  refine ACalls.intro T.burrowcase_Host (by simp [F.burrowcase_Host]) ?_
  have h1 := n.toNat_lt
  have h2 := h.toNat_lt
  simp [F.burrowcase_Host, argEnv, fpBx, zr_eq, List.replicate, wrap_u8n h1, wrap_u8n h2]
  refine RetS.plain [] ?_
  simp [encA, hostA, u8]
def ZFrom (a : Adr) (k : Nat) : Prop := ∀ j, k ≤ j → j < 16 → a.ip[j]? = some 0
theorem hostA_z (n : UInt8) : ZFrom (hostA n 0) 2 := by
  intro j h1 h2
  simp only [hostA]
  rcases (by omega : j = 2 ∨ j = 3 ∨ j = 4 ∨ j = 5 ∨ j = 6 ∨ j = 7 ∨ j = 8 ∨ j = 9 ∨ j = 10 ∨ j = 11 ∨ j = 12 ∨ j = 13 ∨ j = 14 ∨ j = 15) with rfl | rfl | rfl | rfl | rfl | rfl | rfl | rfl | rfl | rfl | rfl | rfl | rfl | rfl <;> rfl
theorem ZFrom.mono {a : Adr} {k m : Nat} (h : ZFrom a k) (hk : k ≤ m) : ZFrom a m := fun j h1 h2 => h j (by omega) h2
set_option maxRecDepth 10000 in
theorem burrowref09_Sound {a : Adr} (h : ZFrom a 4) : ARet Pg I.burrowref09_Sound [encA a] (.bl true) := by
  refine ACalls.intro T.burrowref09_Sound (by simp [F.burrowref09_Sound]) ?_
  simp [F.burrowref09_Sound, argEnv, fpBx]
  refine LpS.rng 12 (fun _ => True) [1, 2, 6, 7, 8] (fun i => [(8, .int .i64 i)]) (fun i => []) [.keep [1, 2, 6, 7, 8]] ?_
  simp
  refine ⟨fun i hi K hK => ?_, fun K => ?_⟩
  · have hx : a.ip[4 + i]? = some 0 := h _ (by omega) (by omega)
    have hw : IntKind.i64.wrap ((i : Int) + 1) = (i : Int) + 1 := wrap_i64 (by omega)
    have hi' : (i : Int) < 12 := by omega
    simp [↓aw_lk, hi, hi', hx, hw, u8]
    refine ⟨[.keep [1, 2, 6, 7, 8]], ?_⟩
    simp
    exact hK _ (by simp)
  · simp [↓aw_lk, ↓aw_lk]
    refine RetS.plain [] ?_
    simp
theorem burrowref09_width (a : Adr) : ARet Pg I.burrowref09_width [encA a] (.int .i64 (if a.six = true then 128 else 32)) := by
  refine ACalls.intro T.burrowref09_width (by simp [F.burrowref09_width]) ?_
  by_cases h : a.six = true
  · simp [F.burrowref09_width, argEnv, fpBx, h]
    refine RetS.plain [] ?_
    simp
  · simp [F.burrowref09_width, argEnv, fpBx, h]
    refine RetS.plain [] ?_
    simp
theorem tmod8 (i : Nat) : (i : Int).tmod 8 = ((i % 8 : Nat) : Int) := by rw [show (8 : Int) = ((8 : Nat) : Int) from rfl, ← Int.ofNat_tmod]
theorem burrowref09_bit {a : Adr} {k : Nat} (h : ZFrom a k) {i : Nat} (hi : 8 * k ≤ i) (hi2 : i < 128) : ARet Pg I.burrowref09_bit [encA a, .int .i64 (i : Int)] (.int .u8 0) := by
  refine ACalls.intro T.burrowref09_bit (by simp [F.burrowref09_bit]) ?_
  have hx : a.ip[i / 8]? = some 0 := h _ (by omega) (by omega)
  have hw : IntKind.i64.wrap ((i / 8 : Nat) : Int) = ((i / 8 : Nat) : Int) := wrap_i64 (by omega)
  have hw2 : IntKind.i64.wrap (7 - ((i % 8 : Nat) : Int)) = ((7 - i % 8 : Nat) : Int) := by rw [wrap_i64 (by omega)]; omega
  have hd : (i : Int).tdiv 8 = ((i / 8 : Nat) : Int) := by rw [show (8 : Int) = ((8 : Nat) : Int) from rfl, ← Int.ofNat_tdiv]
  have hb : bits .and .u8 0 1 = 0 := rfl
  simp [F.burrowref09_bit, argEnv, fpBx, hx, tmod8, hw, hw2, hd, hb, u8, -Int.natCast_ediv, -Int.natCast_emod,]
  refine ⟨by omega, ?_⟩
  refine RetS.plain [] ?_
  simp
theorem encA_s1_f (a : Adr) : encA_s1 a (.ar 1 16 (a.ip.map u8)) = encA a := rfl
theorem set_same {α : Type} {l : List α} {i : Nat} {x : α} (h : l[i]? = some x) : l.set i x = l := by
  apply List.ext_getElem? ; intro j
  rw [List.getElem?_set]
  split
  · rename_i e; subst e; split
    · exact h.symm
    · rename_i hl; rw [List.getElem?_eq_none (by omega)]
  · rfl
set_option maxRecDepth 10000 in
theorem burrowcase_Masked {a : Adr} (h : ZFrom a 2) : ARet Pg I.burrowcase_Masked [encA a, .int .i64 16] (encX ⟨a, 16⟩) := by
  refine ACalls.intro T.burrowcase_Masked (by simp [F.burrowcase_Masked]) ?_
  simp [F.burrowcase_Masked, argEnv, fpBx]
  refine LpS.rng 112 (fun _ => True) [1, 2, 4, 5] (fun i => [(5, .int .i64 (16 + (i : Int)))]) (fun i => []) [.keep [1, 2, 4, 5]] ?_
  simp
  refine ⟨fun i hi K hK => ?_, fun K => ?_⟩
  · obtain ⟨m, hm⟩ : ∃ m, m = (16 + i) / 8 := ⟨_, rfl⟩
    obtain ⟨t, ht⟩ : ∃ t, t = (16 + i) % 8 := ⟨_, rfl⟩
    have hx : a.ip[m]? = some 0 := h _ (by omega) (by omega)
    have hx2 : (a.ip.map u8)[m]? = some (.int .u8 0) := by simp [hx, u8]
    have hw : IntKind.i64.wrap (16 + (i : Int) + 1) = 16 + ((i : Int) + 1) := by rw [wrap_i64 (by omega)]; omega
    have hd : IntKind.i64.wrap ((16 + (i : Int)).tdiv 8) = (m : Int) := by
      rw [show (16 + (i : Int)) = ((16 + i : Nat) : Int) by omega, show (8 : Int) = ((8 : Nat) : Int) from rfl, ← Int.ofNat_tdiv, hm]; exact wrap_i64 (by omega)
    have ht' : (16 + (i : Int)).tmod 8 = (t : Int) := by
      rw [show (16 + (i : Int)) = ((16 + i : Nat) : Int) by omega, show (8 : Int) = ((8 : Nat) : Int) from rfl, ← Int.ofNat_tmod, ht]
    have hi' : 16 + (i : Int) < 128 := by omega
    have hm' : (m : Int) < 16 := by omega
    have hb : ∀ n : Int, bits .andNot .u8 0 n = 0 := by
      intro n; simp [bits, BitVec.ofInt]
    simp [↓aw_lk, hi, hi', hx, hx2, hw, hd, ht', hm', hb, u8, encA_s1_f]
    rw [set_same hx2]
    refine ⟨[.keep [1, 2, 4, 5]], ?_⟩
    simp [encA_s1_f]
    exact hK _ (by simp)
  · simp [↓aw_lk, ↓aw_lk]
    refine RetS.plain [] ?_
    simp [encX]
theorem burrowref09_Valid {a : Adr} (h : ZFrom a 2) (h6 : a.six = false) : ARet Pg I.burrowref09_Valid [encX ⟨a, 16⟩] (.bl true) := by
  refine ACalls.intro T.burrowref09_Valid (by simp [F.burrowref09_Valid]) ?_
  simp [F.burrowref09_Valid, argEnv, fpBx]
  refine callT.ret (burrowref09_Sound (h.mono (by omega))) (by simp) (by simp) (by simp) ?_
  simp
  refine callT.ret (burrowref09_width a) (by simp) (by simp) (by simp) ?_
  simp [h6]
  refine LpS.rng 112 (fun _ => True) [1, 2, 3] (fun i => [(3, .int .i64 (16 + (i : Int)))]) (fun i => []) [.keep [1, 2, 3]] ?_
  simp
  refine ⟨fun i hi K hK => ?_, fun K => ?_⟩
  · have hw : IntKind.i64.wrap (16 + (i : Int) + 1) = 16 + ((i : Int) + 1) := by rw [wrap_i64 (by omega)]; omega
    have hi' : 16 + (i : Int) < 128 := by omega
    have hb := burrowref09_bit h (i := 16 + i) (by omega) (by omega)
    rw [show ((16 + i : Nat) : Int) = 16 + (i : Int) by omega] at hb
    simp [↓aw_lk, hi, hi', hw]
    refine callS.ret hb (by simp) (by simp) (by simp) ?_
    simp [hw]
    refine ⟨[.keep [1, 2, 3]], ?_⟩
    simp
    exact hK _ (by simp)
  · simp [↓aw_lk, ↓aw_lk]
    refine RetS.plain [] ?_
    simp
end Go.Ab
end E4s
noncomputable section E5s
namespace Go.Ab
open Go.Ab
def pfxA (n : UInt8) : Pfx := ⟨hostA n 0, 16⟩
theorem hostA_less {n m : UInt8} (h : n < m) : Op.bytesLess (hostA n 0).ip (hostA m 0).ip = true := by
  have h' : ¬ m < n := fun e => absurd (UInt8.lt_iff_toNat_lt.1 e) (by have := UInt8.lt_iff_toNat_lt.1 h; omega)
  simp [hostA, Op.bytesLess, h, h']
theorem hostA_nless {n m : UInt8} (h : n < m) : Op.bytesLess (hostA m 0).ip (hostA n 0).ip = false := by
  have h' : ¬ m < n := fun e => absurd (UInt8.lt_iff_toNat_lt.1 e) (by have := UInt8.lt_iff_toNat_lt.1 h; omega)
  simp [hostA, Op.bytesLess, h, h']
theorem burrowref09_Less (a b : Adr) (h1 : a.six = false) (h2 : b.six = false) : ARet Pg I.burrowref09_Less [encA a, encA b] (.bl (Op.bytesLess a.ip b.ip)) := by
  refine ACalls.intro T.burrowref09_Less (by simp [F.burrowref09_Less]) ?_
  have ta : (a.ip.map u8).take 16 = a.ip.map u8 := List.take_of_length_le (by simp [a.h])
  have tb : (b.ip.map u8).take 16 = b.ip.map u8 := List.take_of_length_le (by simp [b.h])
  simp [F.burrowref09_Less, argEnv, fpBx, h1, h2, ta, tb]
  refine RetS.plain [] ?_
  simp
theorem beq_A {n m : UInt8} (h : n ≠ m) : PV.beq (encA (hostA n 0)) (encA (hostA m 0)) = false := by
  have : ¬ (n.toNat = m.toNat) := fun e => h (UInt8.toNat_inj.1 e)
  simp [encA, hostA, PV.beq, PV.beqL, u8, this]
  intro e; omega
theorem burrowref14_before {n m : UInt8} (h : n ≠ m) : ARet Pg I.burrowref14_before [encX (pfxA n), encX (pfxA m)] (.bl (Op.bytesLess (hostA n 0).ip (hostA m 0).ip)) := by
  refine ACalls.intro T.burrowref14_before (by simp [F.burrowref14_before]) ?_
  simp [F.burrowref14_before, argEnv, fpBx, pfxA, beq_A h]
  refine callS.ret (burrowref09_Less (hostA n 0) (hostA m 0) rfl rfl) (by simp) (by simp) (by simp) ?_
  simp
  refine RetS.plain [] ?_
  simp
theorem beq_X {n m : UInt8} (h : n ≠ m) : PV.beq (encX (pfxA n)) (encX (pfxA m)) = false := by
  simp [encX, pfxA, PV.beq, PV.beqL, beq_A h]
set_option maxRecDepth 10000 in
set_option maxHeartbeats 1000000 in
theorem burrowref14_InsertRoute {l : List Rte} {n : UInt8} (h : ∀ r ∈ l, ∃ m, m < n ∧ r.pfx = pfxA m) (hl : l.length < 16) (k : Key) : ARet Pg I.burrowref14_InsertRoute [encRts l, encX (pfxA n), encK k] (.tup [encRts (l ++ [⟨pfxA n, k⟩]), .int .i64 0]) := by
  refine ACalls.intro T.burrowref14_InsertRoute (by simp [F.burrowref14_InsertRoute]) ?_
  simp [F.burrowref14_InsertRoute, argEnv, fpBx]
  refine callS.ret (burrowref09_Valid (hostA_z n) rfl) (by simp [pfxA]) (by simp) (by simp) ?_
  simp (disch := omega) [encRts]
  refine ⟨⟨by omega, by omega⟩, ?_⟩
  refine LpS.rng l.length (fun _ => True) [0, 4, 5, 6, 7, 8, 17, 18] (fun i => [(18, .int .i64 i)]) (fun i => []) [.keep [0, 4, 5, 6, 7, 8, 17, 18]] ?_
  simp
  refine ⟨fun i hi K hK => ?_, fun K => ?_⟩
  · have hx : l[i]? = some l[i] := List.getElem?_eq_getElem hi
    obtain ⟨m, hm, he⟩ := h _ (List.getElem_mem hi)
    have hb : (encX (pfxA m)).beq (encX (pfxA n)) = false := beq_X (UInt8.ne_of_lt hm)
    have hw : IntKind.i64.wrap ((i : Int) + 1) = (i : Int) + 1 := wrap_i64 (by omega)
    simp [↓aw_lk, hx, hi, he, hb, hw]
    refine ⟨[.keep [0, 4, 5, 6, 7, 8, 17, 18]], ?_⟩
    simp
    exact hK _ (by simp)
  · have hl' : ¬ (16 : Int) ≤ l.length := by omega
    simp [↓aw_lk, ↓aw_lk, hl']
    refine LpS.rng l.length (fun _ => True) [0, 4, 5, 6, 7, 8, 10] (fun i => [(10, .int .i64 i)]) (fun i => []) [.keep [0, 4, 5, 6, 7, 8, 10]] ?_
    simp
    refine ⟨fun i hi K hK => ?_, fun K => ?_⟩
    · have hx : l[i]? = some l[i] := List.getElem?_eq_getElem hi
      obtain ⟨m, hm, he⟩ := h _ (List.getElem_mem hi)
      have hw : IntKind.i64.wrap ((i : Int) + 1) = (i : Int) + 1 := wrap_i64 (by omega)
      have hb := burrowref14_before (n := n) (m := m) (fun e => UInt8.ne_of_lt hm e.symm)
      rw [hostA_nless hm] at hb
      simp [↓aw_lk, hx, hi, he, hw]
      refine callT.ret hb (by simp) (by simp) (by simp) ?_
      simp [hw]
      refine ⟨[.keep [0, 4, 5, 6, 7, 8, 10]], ?_⟩
      simp
      exact hK _ (by simp)
    · simp [↓aw_lk, ↓aw_lk]
      refine DrS.run [61, 66] rfl ?_
      simp
      refine ⟨⟨by omega, by omega⟩, ?_⟩
      refine RetS.plain [.keep [6, 7], .dr 61, .dr 15, .fz 66, .wk 6] ?_
      simp [refsEnv, refsBx, refsOk, refsOkB, refsOkL, encRts, encRt]
end Go.Ab
end E5s
noncomputable section E6s
namespace Go.Ab
open Go.Ab
def zK : Key := ⟨List.replicate 32 0, rfl⟩
def zSl : Slt := ⟨0, zK, false⟩
set_option maxRecDepth 10000 in
theorem FindSlot_no {l : List Slt} (hl : l.length ≤ 1048576) {x : Int} (h : ∀ s ∈ l, s.index ≠ x) : ARet Pg I.burrowref14_FindSlot [encSls l, .int .u32 x] (.tup [encSl zSl, .bl false]) := by
  refine ACalls.intro T.burrowref14_FindSlot (by simp [F.burrowref14_FindSlot]) ?_
  simp [F.burrowref14_FindSlot, argEnv, fpBx]
  refine LpS.rng l.length (fun _ => True) [1, 4, 5, 8, 9, 10] (fun i => [(10, .int .i64 i)]) (fun i => []) [.keep [1, 4, 5, 8, 9, 10]] ?_
  simp
  refine ⟨fun i hi K hK => ?_, fun K => ?_⟩
  · have hx : l[i]? = some l[i] := List.getElem?_eq_getElem hi
    have he := h _ (List.getElem_mem hi)
    simp [↓aw_lk, hx, hi, he, wrapi hi hl]
    refine ⟨[.keep [1, 4, 5, 8, 9, 10], .dr 7], ?_⟩
    simp
    exact hK _ (by simp)
  · simp [↓aw_lk, ↓aw_lk]
    refine RetS.plain [] ?_
    simp [encSl, zSl, zK, encK, zr_eq, u8]
set_option maxRecDepth 10000 in
theorem FindSlot_yes {l : List Slt} (hl : l.length ≤ 1048576) {x : Int} {f : Nat} (hf : f < l.length) (he : l[f].index = x) (h : ∀ j (hj : j < l.length), j < f → l[j].index ≠ x) : ARet Pg I.burrowref14_FindSlot [encSls l, .int .u32 x] (.tup [encSl l[f], .bl true]) := by
  refine ACalls.intro T.burrowref14_FindSlot (by simp [F.burrowref14_FindSlot]) ?_
  simp [F.burrowref14_FindSlot, argEnv, fpBx]
  refine LpS.rng f (fun _ => True) [1, 4, 5, 8, 9, 10] (fun i => [(10, .int .i64 i)]) (fun i => []) [.keep [1, 4, 5, 8, 9, 10]] ?_
  simp
  refine ⟨fun i hi K hK => ?_, fun K => ?_⟩
  · have hi2 : i < l.length := by omega
    have hx : l[i]? = some l[i] := List.getElem?_eq_getElem hi2
    have he := h i hi2 hi
    simp [↓aw_lk, hx, hi2, he, wrapi hi2 hl]
    refine ⟨[.keep [1, 4, 5, 8, 9, 10], .dr 7], ?_⟩
    simp
    exact hK _ (by simp)
  · have hx : l[f]? = some l[f] := List.getElem?_eq_getElem hf
    simp [↓aw_lk, hx, hf, he]
    refine RetS.plain [] ?_
    simp
def neS (x : Int) (s : Slt) : Bool := decide (s.index ≠ x)
set_option maxRecDepth 10000 in
set_option maxHeartbeats 1000000 in
theorem DropSlot {l : List Slt} (h : l.length ≤ 1048576) (x : Int) : ARet Pg I.burrowref14_DropSlot [encSls l, .int .u32 x] (encSls (l.filter (neS x))) := by
  refine ACalls.intro T.burrowref14_DropSlot (by simp [F.burrowref14_DropSlot]) ?_
  simp [F.burrowref14_DropSlot, argEnv, fpBx, encSls]
  refine LpS.rng l.length (fun _ => True) [1, 4, 5, 8, 9, 10] (fun i => [(5, .rs 5 [] 0 ((l.take i).filter (neS x)).length ((l.take i).filter (neS x)).length 34 .tip), (10, .int .i64 i)]) (fun i => [(5, .arr 34 (((l.take i).filter (neS x)).map encSl))]) [.vt 5 5 34] ?_
  simp
  refine ⟨fun i hi K hK => ?_, fun K => ?_⟩
  · have hx : l[i]? = some l[i] := List.getElem?_eq_getElem hi
    have hlen := filter_take_le (neS x) l i
    rw [filter_succ _ hi] at hK
    generalize (l.take i).filter (neS x) = out at *
    by_cases h1 : l[i].index = x
    · simp [↓aw_lk, hx, hi, h1, wrapi hi h]
      refine ⟨[.keep [1, 4, 5, 8, 9, 10], .dr 7], ?_⟩
      simp [refsEnv, refsBx, refsOk, refsOkB]
      exact hK _ (by simp [neS, h1])
    · simp [↓aw_lk, hx, hi, h1, wrapi hi h]
      refine ⟨⟨by omega, by omega⟩, [.keep [1, 4, 5, 8, 9, 10], .dr 7], ?_⟩
      simp [refsEnv, refsBx, refsOk, refsOkB]
      exact hK _ (by simp [neS, h1])
  · simp [↓aw_lk, ↓aw_lk]
    refine RetS.plain [.keep [4], .fz 5, .wk 4] ?_
    simp
set_option maxRecDepth 10000 in
theorem find_yes {d : Dmn} (hl : d.peers.length ≤ 1048576) {k : Key} {f : Nat} (hf : f < d.peers.length) (he : d.peers[f].pub = k) (h : ∀ j (hj : j < d.peers.length), j < f → d.peers[j].pub ≠ k) : ARet Pg I.burrowref24_find [encD d, encK k] (.int .i64 f) := by
  refine ACalls.intro T.burrowref24_find (by simp [F.burrowref24_find]) ?_
  simp [F.burrowref24_find, argEnv, fpBx]
  refine LpS.rng f (fun _ => True) [2, 3, 4, 8, 9, 10] (fun i => [(10, .int .i64 i)]) (fun i => []) [.keep [2, 3, 4, 8, 9, 10]] ?_
  simp
  refine ⟨fun i hi K hK => ?_, fun K => ?_⟩
  · have hi2 : i < d.peers.length := by omega
    have hx : d.peers[i]? = some d.peers[i] := List.getElem?_eq_getElem hi2
    have he := h i hi2 hi
    simp [↓aw_lk, hx, hi2, he, beq_K, wrapi hi2 hl]
    refine ⟨[.keep [2, 3, 4, 8, 9, 10], .dr 6], ?_⟩
    simp
    exact hK _ (by simp)
  · have hx : d.peers[f]? = some d.peers[f] := List.getElem?_eq_getElem hf
    simp [↓aw_lk, hx, hf, he, beq_K]
    refine RetS.plain [] ?_
    simp
def kOf (i : Nat) : Key := ⟨[UInt8.ofNat (40 * (i + 1)), 9, 7] ++ List.replicate 29 0, rfl⟩
theorem burrowmake_Peer {i : Nat} (h : i < 3) : ARet Pg I.burrowmake_Peer [.int .i64 i] (encK (kOf i)) := by
  refine ACalls.intro T.burrowmake_Peer (by simp [F.burrowmake_Peer]) ?_
  have hw : IntKind.i64.wrap ((i : Int) + 1) = (i : Int) + 1 := wrap_i64 (by omega)
  have hw2 : IntKind.i64.wrap (40 * ((i : Int) + 1)) = 40 * ((i : Int) + 1) := wrap_i64 (by omega)
  have hw3 : IntKind.u8.wrap (40 * ((i : Int) + 1)) = 40 * ((i : Int) + 1) := wrap_u8 (by omega)
  simp [F.burrowmake_Peer, argEnv, fpBx, zr_eq, List.replicate, hw, hw2, hw3]
  refine RetS.plain [] ?_
  have h40 : (UInt8.ofNat (40 * (i + 1))).toNat = 40 * (i + 1) := by simp [UInt8.toNat_ofNat]; omega
  simp [encK, kOf, u8, h40, List.replicate]
  omega
def atOf (i : Nat) : Epn := ⟨⟨false, [192, 0, 2, UInt8.ofNat (i + 1), 0, 0, 0, 0, 0, 0, 0, 0, 0, 0, 0, 0], rfl⟩, 1000 + i⟩
theorem burrowmake_At {i : Nat} (h : i < 3) : ARet Pg I.burrowmake_At [.int .i64 i] (encE (atOf i)) := by
  refine ACalls.intro T.burrowmake_At (by simp [F.burrowmake_At]) ?_
  have hw : IntKind.i64.wrap ((i : Int) + 1) = (i : Int) + 1 := wrap_i64 (by omega)
  have hw2 : IntKind.i64.wrap (1000 + (i : Int)) = 1000 + (i : Int) := wrap_i64 (by omega)
  have hw3 : IntKind.u8.wrap ((i : Int) + 1) = (i : Int) + 1 := wrap_u8 (by omega)
  simp [F.burrowmake_At, argEnv, fpBx, zr_eq, List.replicate, hw, hw2, hw3]
  refine RetS.plain [] ?_
  have h40 : (UInt8.ofNat (i + 1)).toNat = i + 1 := by simp [UInt8.toNat_ofNat]; omega
  simp [encE, encA, atOf, u8, h40, List.replicate]
  omega
def posS (x : Int) : List Slt → Nat
  | [] => 0
  | s :: r => if s.index < x then posS x r + 1 else 0
def putS (l : List Slt) (s : Slt) : List Slt := l.take (posS s.index l) ++ [s] ++ l.drop (posS s.index l)
theorem posS_le (x : Int) : ∀ l, posS x l ≤ l.length
  | [] => Nat.le_refl _
  | s :: r => by simp only [posS]; split <;> simp; exact posS_le x r
theorem posS_lt (x : Int) : ∀ (l : List Slt) (i : Nat) (h : i < l.length), i < posS x l → l[i].index < x
  | s :: r, 0, h, hi => by simp only [posS] at hi; split at hi <;> simp_all
  | s :: r, i + 1, h, hi => by
    simp only [posS] at hi
    split at hi
    · simpa using posS_lt x r i (by simpa using h) (by omega)
    · omega
theorem posS_at (x : Int) : ∀ (l : List Slt) (h : posS x l < l.length), ¬ l[posS x l].index < x
  | [], h => by simp at h
  | s :: r, h => by
    simp only [posS] at h ⊢
    by_cases hx : s.index < x
    · simp only [hx, if_true] at h ⊢
      simpa using posS_at x r (by simpa using h)
    · simp [hx]
set_option maxRecDepth 10000 in
set_option maxHeartbeats 1000000 in
theorem Take {l : List Slt} (hl : l.length < 32) {x : Int} (hx1 : 1 ≤ x) (h : ∀ s ∈ l, s.index ≠ x) (k : Key) (b : Bool) : ARet Pg I.burrowref14_Take [encSls l, .int .u32 x, encK k, .bl b] (.tup [encSls (putS l ⟨x, k, b⟩), .int .u32 x, .int .i64 0]) := by
  refine ACalls.intro T.burrowref14_Take (by simp [F.burrowref14_Take]) ?_
  have hl' : ¬ (32 : Int) ≤ l.length := by omega
  have hm : max x 1 = x := by omega
  simp [F.burrowref14_Take, argEnv, fpBx, hl', hm]
  refine LpS.rng 0 (fun _ => True) [0, 1, 2, 3, 6, 8, 9, 10, 11] (fun i => []) (fun i => []) [.keep [0, 1, 2, 3, 6, 8, 9, 10, 11]] ?_
  simp
  intro K
  simp [↓aw_lk]
  refine callS.ret (FindSlot_no (by omega) h) (by simp) (by simp) (by simp) ?_
  simp [↓aw_lk]
  have hp := posS_le x l
  have hr : putS l ⟨x, k, b⟩ = l.take (posS x l) ++ [⟨x, k, b⟩] ++ l.drop (posS x l) := rfl
  refine LpS.rng (posS x l) (fun _ => True) [0, 3, 6, 8, 9, 10, 11, 14] (fun i => [(14, .int .i64 i)]) (fun i => []) [.keep [0, 3, 6, 8, 9, 10, 11, 14], .dr 12] ?_
  simp
  refine ⟨fun i hi K hK => ?_, fun K => ?_⟩
  · have hi2 : i < l.length := by omega
    have hx : l[i]? = some l[i] := List.getElem?_eq_getElem hi2
    have he := posS_lt x l i hi2 hi
    simp [↓aw_lk, hx, hi2, he, wrapi hi2 (by omega)]
    refine ⟨[.keep [0, 3, 6, 8, 9, 10, 11, 14]], ?_⟩
    simp
    exact hK _ (by simp)
  · by_cases hq : posS x l < l.length
    · have hx : l[posS x l]? = some l[posS x l] := List.getElem?_eq_getElem hq
      have he := posS_at x l hq
      simp [↓aw_lk, ↓aw_lk, hx, hq, he, encSls, hp]
      refine ⟨⟨by omega, by omega⟩, ⟨by omega, by omega⟩, ⟨by omega, by omega⟩, ?_⟩
      refine RetS.plain [.keep [8, 9, 10], .fz 50, .wk 8] ?_
      have h1 : min (posS x l) l.length = posS x l := by omega
      have h2 : posS x l + (l.length - posS x l + 1) = posS x l + 1 + (l.length - posS x l) := by omega
      simp [refsEnv, refsBx, refsOk, refsOkB, refsOkL, h1, h2, List.take_of_length_le, hr, encSl]
    · simp [↓aw_lk, ↓aw_lk, hq, encSls, hp]
      refine ⟨⟨by omega, by omega⟩, ⟨by omega, by omega⟩, ⟨by omega, by omega⟩, ?_⟩
      refine RetS.plain [.keep [8, 9, 10], .fz 50, .wk 8] ?_
      have h1 : min (posS x l) l.length = posS x l := by omega
      have h2 : posS x l + (l.length - posS x l + 1) = posS x l + 1 + (l.length - posS x l) := by omega
      simp [refsEnv, refsBx, refsOk, refsOkB, refsOkL, h1, h2, List.take_of_length_le, hr, encSl]
def SortS (l : List Slt) : Prop := (∀ (i : Nat) (h : i < l.length), l[i].index ≠ 0) ∧ ∀ (i : Nat) (h : i + 1 < l.length), l[i].index < l[i + 1].index
set_option maxRecDepth 10000 in
theorem ValidSlots {l : List Slt} (hl : l.length ≤ 32) (h : SortS l) : ARet Pg I.burrowref14_ValidSlots [encSls l] (.bl true) := by
  refine ACalls.intro T.burrowref14_ValidSlots (by simp [F.burrowref14_ValidSlots]) ?_
  simp [F.burrowref14_ValidSlots, argEnv, fpBx]
  refine LpS.rng l.length (fun _ => True) [0, 2, 5, 6, 7] (fun i => [(7, .int .i64 i)]) (fun i => []) [.keep [0, 2, 5, 6, 7]] ?_
  simp
  refine ⟨fun i hi K hK => ?_, fun K => ?_⟩
  · have hx : l[i]? = some l[i] := List.getElem?_eq_getElem hi
    have h0 := h.1 i hi
    by_cases hz : i = 0
    · subst hz
      simp [↓aw_lk, hx, hi, h0]
      refine ⟨[.keep [0, 2, 5, 6, 7], .dr 4], ?_⟩
      simp
      exact hK _ (by simp)
    · obtain ⟨j, hji⟩ : ∃ j, i = j + 1 := ⟨i - 1, by omega⟩
      have hj : j < l.length := by omega
      have hy : l[j]? = some l[j] := List.getElem?_eq_getElem hj
      have hlt := h.2 j (by omega)
      have hnl : ¬ l[i].index ≤ l[j].index := by subst hji; omega
      have hw : IntKind.i64.wrap ((i : Int) - 1) = j := by rw [wrap_i64 (by omega)]; omega
      simp [↓aw_lk, hx, hy, hi, hj, h0, hw, hnl, show 0 < i by omega, wrapi hi (by omega)]
      refine ⟨[.keep [0, 2, 5, 6, 7], .dr 4], ?_⟩
      simp
      exact hK _ (by simp)
  · simp [↓aw_lk, ↓aw_lk]
    refine RetS.plain [] ?_
    simp [hl]
    omega
end Go.Ab
end E6s
noncomputable section E7s
namespace Go.Ab
open Go.Ab
structure Win where
  used : Bool
  top : Int
  w0 : Int
  w1 : Int
  w2 : Int
  w3 : Int
def wP (w : Win) : PV := .st 6 [.bl w.used, .int .u64 w.top, .ar 1 4 [.int .u64 w.w0, .int .u64 w.w1, .int .u64 w.w2, .int .u64 w.w3]]
def encW (w : Win) : FV shWn := ⟨wP w, by simp [wP, fits, fitsL, shW, shWL, fitsA]⟩
def chkW (w : Win) (c : Int) : Bool := !w.used || decide (w.top < c) || decide (bits .and .u64 (w.w0.fdiv (2 ^ min c.toNat 64)) 1 = 0)
structure SmW (w : Win) (c : Int) : Prop where
  t0 : 0 ≤ w.top
  t8 : w.top < 8
  c0 : 0 ≤ c
  c8 : c < 8
theorem q64 {c : Int} (h0 : 0 ≤ c) (h8 : c < 8) : c.tdiv 64 = 0 := Int.tdiv_eq_zero_of_lt h0 (by omega)
theorem r64 {c : Int} (h0 : 0 ≤ c) (h8 : c < 8) : c.tmod 64 = c := Int.tmod_eq_of_lt h0 (by omega)
set_option maxRecDepth 10000 in
theorem burrowref14_CheckWindow {w : Win} {c : Int} (h : SmW w c) : ARet Pg I.burrowref14_CheckWindow [wP w, .int .u64 c] (.bl (chkW w c)) := by
  refine ACalls.intro T.burrowref14_CheckWindow (by simp [F.burrowref14_CheckWindow]) ?_
  have h0 := h.c0
  have h1 := q64 h.c0 h.c8
  have h2 := r64 h.c0 h.c8
  have h3 := q64 h.t0 h.t8
  have w0 : IntKind.u64.wrap 0 = 0 := rfl
  by_cases hu : w.used = true
  · by_cases ht : w.top < c
    · simp [F.burrowref14_CheckWindow, argEnv, fpBx, wP, hu, ht, widths]
      refine RetS.plain [] ?_
      simp [chkW, hu, ht]
    · simp [F.burrowref14_CheckWindow, argEnv, fpBx, wP, hu, ht, widths, h1, h2, h3, w0]
      refine ⟨h0, ?_⟩
      refine RetS.plain [] ?_
      simp [chkW, hu, ht]
      rfl
  · simp [F.burrowref14_CheckWindow, argEnv, fpBx, wP, hu, widths]
    refine RetS.plain [] ?_
    simp [chkW, hu]
def accW (w : Win) (c : Int) : Win × Bool :=
  if chkW w c = true then
    let v : Win := if w.used = true then w else ⟨true, c, 0, 0, 0, 0⟩
    (⟨true, max v.top c, bits .or .u64 v.w0 (IntKind.u64.wrap (2 ^ min c.toNat 64)), v.w1, v.w2, v.w3⟩, true)
  else (w, false)
set_option maxRecDepth 10000 in
theorem burrowref14_AcceptWindow {w : Win} {c : Int} (h : SmW w c) : ARet Pg I.burrowref14_AcceptWindow [wP w, .int .u64 c] (.tup [wP (accW w c).1, .bl (accW w c).2]) := by
  refine ACalls.intro T.burrowref14_AcceptWindow (by simp [F.burrowref14_AcceptWindow]) ?_
  have h0 := h.c0
  have h1 := q64 h.c0 h.c8
  have h2 := r64 h.c0 h.c8
  have h3 := q64 h.t0 h.t8
  have w0 : IntKind.u64.wrap 0 = 0 := rfl
  have hc := burrowref14_CheckWindow h
  cases hk : chkW w c with
  | false =>
    rw [hk] at hc
    simp [F.burrowref14_AcceptWindow, argEnv, fpBx, wP]
    refine callS.ret hc (by simp [wP]) (by simp) (by simp) ?_
    simp
    refine RetS.plain [] ?_
    simp [accW, hk]
  | true =>
    rw [hk] at hc
    have hp : ∀ x : Int, bits .or .u64 0 x = bits .or .u64 0 x := fun _ => rfl
    by_cases hu : w.used = true
    · by_cases ht : w.top < c
      · have hm : max w.top c = c := by omega
        simp [F.burrowref14_AcceptWindow, argEnv, fpBx, wP, hu]
        refine callS.ret hc (by simp [wP, hu]) (by simp) (by simp) ?_
        simp [ht]
        refine LpS.rng 0 (fun _ => True) [1, 2, 4, 5, 6] (fun i => []) (fun i => []) [.keep [1, 2, 4, 5, 6]] ?_
        simp
        intro K
        simp [↓aw_lk, ↓aw_lk, ↓aw_lk, h1, h2, h3, w0, widths, h0, (by omega : min (0 : Int) 4 = 0)]
        refine RetS.plain [] ?_
        simp [accW, hk, hu, hm]
        rfl
      · have hm : max w.top c = w.top := by omega
        simp [F.burrowref14_AcceptWindow, argEnv, fpBx, wP, hu]
        refine callS.ret hc (by simp [wP, hu]) (by simp) (by simp) ?_
        simp [ht, ↓aw_lk, h1, h2, h3, w0, widths, h0]
        refine RetS.plain [] ?_
        simp [accW, hk, hu, hm]
        rfl
    · simp [F.burrowref14_AcceptWindow, argEnv, fpBx, wP, hu]
      refine callS.ret hc (by simp [wP, hu]) (by simp) (by simp) ?_
      simp [↓aw_lk, h1, h2, h3, w0, widths, h0, zr_eq, List.replicate]
      refine RetS.plain [] ?_
      simp [accW, hk, hu]
      rfl
theorem accW_ok {w : Win} {c : Int} (h : SmW w c) : (accW w c).1.used = w.used ∧ (accW w c).1 = w ∨ (accW w c).1.used = true := by
  unfold accW; split
  · right; rfl
  · left; exact ⟨rfl, rfl⟩
theorem accW_top {w : Win} {c : Int} (h : SmW w c) : 0 ≤ (accW w c).1.top ∧ (accW w c).1.top < 8 := by
  obtain ⟨a1, a2, a3, a4⟩ := h
  unfold accW; split
  · by_cases hu : w.used = true <;> simp [hu] <;> omega
  · exact ⟨a1, a2⟩
end Go.Ab
end E7s
noncomputable section E8s
namespace Go.Ab
open Go.Ab
def zKy : FV shKy := ⟨.ar 1 32 (zr 32 (.int .u8 0)), by rw [zr_eq]; rfl⟩
def zWn : FV shWn := ⟨.st 6 [.bl false, .int .u64 0, .ar 1 4 (zr 4 (.int .u64 0))], by rw [zr_eq]; rfl⟩
def zSes : Ses := ⟨0, 0, zKy, zKy, 0, 0, zWn, 0, false⟩
def zPlc : Plc := ⟨false, zSes⟩
theorem zPlc_e : encP zPlc = (.st 77 [(.bl false), (.st 76 [(.int .u32 0), (.int .u32 0), (.ar 1 32 (zr 32 (.int .u8 0))), (.ar 1 32 (zr 32 (.int .u8 0))), (.int .u64 0), (.int .u64 0), (.st 6 [(.bl false), (.int .u64 0), (.ar 1 4 (zr 4 (.int .u64 0)))]), (.int .i64 0), (.bl false)])]) := by first | rfl | (rw [zr_eq]; rfl)
def lcl (l : List Plc) : List Int := (l.filter (fun p => p.has)).map (fun p => p.ses.loc)
theorem lcl_succ {l : List Plc} {i : Nat} (h : i < l.length) : lcl (l.take (i + 1)) = lcl (l.take i) ++ (if l[i].has = true then [l[i].ses.loc] else []) := by
  unfold lcl; rw [filter_succ _ h]; by_cases hk : l[i].has = true <;> simp [hk]
theorem lcl_le (l : List Plc) : (lcl l).length ≤ l.length := by
  unfold lcl; rw [List.length_map]; exact List.length_filter_le _ _
set_option maxRecDepth 10000 in
set_option maxHeartbeats 1000000 in
theorem burrowref22_locals {l : List Plc} (h : l.length ≤ 8) (b : Bool) : ARet Pg I.burrowref22_locals [.sl 77 (l.map encP) b] (encU (lcl l)) := by
  refine ACalls.intro T.burrowref22_locals (by simp [F.burrowref22_locals]) ?_
  simp [F.burrowref22_locals, argEnv, fpBx, encU]
  refine LpS.rng l.length (fun _ => True) [2, 3, 6, 7, 8] (fun i => [(3, .rs 3 [] 0 (lcl (l.take i)).length (lcl (l.take i)).length 1 .tip), (8, .int .i64 i)]) (fun i => [(3, .arr 1 ((lcl (l.take i)).map (fun n : Int => PV.int .u32 n)))]) [.vt 3 3 1] ?_
  simp [show lcl [] = [] from rfl]
  refine ⟨fun i hi K hK => ?_, fun K => ?_⟩
  · have hx : l[i]? = some l[i] := List.getElem?_eq_getElem hi
    have hlen := lcl_le (l.take i)
    have hlen2 : (l.take i).length ≤ i := by rw [List.length_take]; omega
    rw [lcl_succ hi] at hK
    generalize lcl (l.take i) = out at *
    by_cases h1 : l[i].has = true
    · simp [↓aw_lk, hx, hi, h1, wrapi hi (by omega)]
      refine ⟨⟨by omega, by omega⟩, [.keep [2, 3, 6, 7, 8], .dr 5], ?_⟩
      simp [refsEnv, refsBx, refsOk, refsOkB]
      exact hK _ (by simp [h1])
    · simp [↓aw_lk, hx, hi, h1, wrapi hi (by omega)]
      refine ⟨[.keep [2, 3, 6, 7, 8], .dr 5], ?_⟩
      simp [refsEnv, refsBx, refsOk, refsOkB]
      exact hK _ (by simp [h1])
  · simp [↓aw_lk, ↓aw_lk]
    refine RetS.plain [.keep [2], .fz 3, .wk 2] ?_
    simp
def cln (p : Plc) : Plc := if p.has = true then p else zPlc
theorem burrowref22_clean (p : Plc) : ARet Pg I.burrowref22_clean [encP p] (encP (cln p)) := by
  refine ACalls.intro T.burrowref22_clean (by simp [F.burrowref22_clean]) ?_
  by_cases h : p.has = true
  · simp [F.burrowref22_clean, argEnv, fpBx, h]
    refine RetS.plain [] ?_
    simp [cln, h]
  · simp [F.burrowref22_clean, argEnv, fpBx, h]
    refine RetS.plain [] ?_
    simp [cln, h, zPlc_e]
theorem burrowref22_Locals (r : Rng) : ARet Pg I.burrowref22_Locals [encR r] (encU (lcl [r.p, r.c, r.n])) := by
  refine ACalls.intro T.burrowref22_Locals (by simp [F.burrowref22_Locals]) ?_
  simp [F.burrowref22_Locals, argEnv, fpBx]
  refine callS.ret (burrowref22_locals (l := [r.p, r.c, r.n]) (by simp) false) (by simp) (by simp) (by simp) ?_
  simp
  refine RetS.plain [] ?_
  simp
def beginR (r : Rng) (s : Ses) : Rng := if r.n.has = true then ⟨r.n, ⟨true, s⟩, zPlc⟩ else ⟨cln r.c, ⟨true, s⟩, zPlc⟩
def beginD (r : Rng) : List Int := if r.n.has = true then lcl [r.p, r.c] else lcl [r.p]
set_option maxRecDepth 10000 in
theorem burrowref22_Begin (r : Rng) (s : Ses) : ARet Pg I.burrowref22_Begin [encR r, encS s] (.tup [encR (beginR r s), encU (beginD r)]) := by
  refine ACalls.intro T.burrowref22_Begin (by simp [F.burrowref22_Begin]) ?_
  by_cases h : r.n.has = true
  · simp [F.burrowref22_Begin, argEnv, fpBx, h]
    refine callT.ret (burrowref22_locals (l := [r.p, r.c]) (by simp) false) (by simp) (by simp) (by simp) ?_
    simp
    refine RetS.plain [] ?_
    simp [beginR, beginD, h, encR, encP]
    exact ⟨rfl, rfl⟩
  · simp [F.burrowref22_Begin, argEnv, fpBx, h]
    refine callT.ret (burrowref22_clean r.c) (by simp) (by simp) (by simp) ?_
    simp
    refine callT.ret (burrowref22_locals (l := [r.p]) (by simp) false) (by simp) (by simp) (by simp) ?_
    simp
    refine RetS.plain [] ?_
    simp [beginR, beginD, h, encR, encP]
    exact ⟨rfl, rfl⟩
def ansR (r : Rng) (s : Ses) : Rng := ⟨zPlc, r.c, ⟨true, s⟩⟩
def ansD (r : Rng) : List Int := lcl [r.p, r.n]
set_option maxRecDepth 10000 in
theorem burrowref22_Answer (r : Rng) (s : Ses) : ARet Pg I.burrowref22_Answer [encR r, encS s] (.tup [encR (ansR r s), encU (ansD r)]) := by
  refine ACalls.intro T.burrowref22_Answer (by simp [F.burrowref22_Answer]) ?_
  simp [F.burrowref22_Answer, argEnv, fpBx]
  refine callT.ret (burrowref22_locals (l := [r.p, r.n]) (by simp) false) (by simp) (by simp) (by simp) ?_
  simp
  refine RetS.plain [] ?_
  simp [ansR, ansD, encR, encP]
  exact ⟨rfl, rfl⟩
theorem burrowref22_New (loc rem : Int) (a b : FV shKy) (born : Int) (ini : Bool) (fence : Int) : ARet Pg I.burrowref22_New [.int .u32 loc, .int .u32 rem, a.p, b.p, .int .i64 born, .bl ini, .int .u64 fence] (encS ⟨loc, rem, a, b, 0, fence, zWn, born, ini⟩) := by
  refine ACalls.intro T.burrowref22_New (by simp [F.burrowref22_New]) ?_
  simp [F.burrowref22_New, argEnv, fpBx]
  refine RetS.plain [] ?_
  simp [encS, zWn]
end Go.Ab
end E8s
noncomputable section E9s
namespace Go.Ab
open Go.Ab
theorem within_t {n a b : Int} (h1 : a ≤ n) (h2 : n ≤ b) : ARet Pg I.burrowref24_within [.int .i64 n, .int .i64 a, .int .i64 b] (.bl true) := by
  refine ACalls.intro T.burrowref24_within (by simp [F.burrowref24_within]) ?_
  simp [F.burrowref24_within, argEnv, fpBx, h1, h2]
  refine RetS.plain [] ?_
  simp
theorem past_t {d : Dmn} {t : Int} (h1 : 0 ≤ t) (h2 : t ≤ d.now) : ARet Pg I.burrowref24_past [encD d, .int .i64 t] (.bl true) := by
  refine ACalls.intro T.burrowref24_past (by simp [F.burrowref24_past]) ?_
  simp [F.burrowref24_past, argEnv, fpBx]
  refine callS.ret (within_t h1 h2) (by simp) (by simp) (by simp) ?_
  simp
  refine RetS.plain [] ?_
  simp
set_option maxRecDepth 10000 in
theorem ValidRules_t {r : Rul} (h : RulOk r) : ARet Pg I.burrowref24_ValidRules [encRu r] (.bl true) := by
  refine ACalls.intro T.burrowref24_ValidRules (by simp [F.burrowref24_ValidRules]) ?_
  obtain ⟨h1, h2, h3, h4, h5, h6, h7, h8, h9, h10, h11, h12, h13, h14, h15, h16, h17⟩ := h
  have n1 : ¬ r.rekm < 1 := by omega
  have n2 : ¬ r.rejm < r.rekm := by omega
  have n3 : ¬ (18446744073709543423 : Int) < r.rejm := by omega
  have w1 : IntKind.i64.wrap (r.kat + r.ret) = r.kat + r.ret := wrap_i64 (by omega)
  have w2 : IntKind.i64.wrap (20 * r.ret) = 20 * r.ret := wrap_i64 (by omega)
  have n4 : r.kat + r.ret < r.rejt := by omega
  simp [F.burrowref24_ValidRules, argEnv, fpBx, n1, n2, n3]
  refine callS.ret (within_t (n := r.ret) (a := 1000) (b := 1073741824) (by omega) (by omega)) (by simp) (by simp) (by simp) ?_
  simp
  refine callS.ret (within_t (n := r.kat) (a := 1000) (b := 1073741824) (by omega) (by omega)) (by simp) (by simp) (by simp) ?_
  simp
  refine callS.ret (within_t (n := r.cot) (a := 1) (b := 1073741824) (by omega) (by omega)) (by simp) (by simp) (by simp) ?_
  simp
  refine callS.ret (within_t (n := r.rekt) (a := 1) (b := 1073741824) (by omega) (by omega)) (by simp) (by simp) (by simp) ?_
  simp
  refine callS.ret (within_t (n := r.rejt) (a := 1) (b := 1073741824) (by omega) (by omega)) (by simp) (by simp) (by simp) ?_
  simp [h10, w1, n4, w2]
  refine callS.ret (within_t (n := r.att) (a := r.ret) (b := 20 * r.ret) (by omega) (by omega)) (by simp) (by simp) (by simp) ?_
  simp
  refine callS.ret (within_t (n := r.load) (a := 1) (b := 64) (by omega) (by omega)) (by simp) (by simp) (by simp) ?_
  simp
  refine callS.ret (within_t (n := r.stage) (a := 1) (b := 8) (by omega) (by omega)) (by simp) (by simp) (by simp) ?_
  simp
  refine RetS.plain [] ?_
  simp
def WinOk (v : FV shWn) : Prop := v = zWn ∨ ∃ w : Win, w.used = true ∧ v = encW w
structure SesOk (d : Dmn) (s : Ses) : Prop where
  b0 : 0 ≤ s.born
  b1 : s.born ≤ d.now
  fe : s.fence = d.rules.rejm
  n0 : 0 ≤ s.next
  n1 : s.next ≤ 18446744073709543423
  wi : WinOk s.win
set_option maxRecDepth 10000 in
theorem sound_t {d : Dmn} {s : Ses} (h : SesOk d s) : ARet Pg I.burrowref24_sound [encD d, encS s] (.bl true) := by
  refine ACalls.intro T.burrowref24_sound (by simp [F.burrowref24_sound]) ?_
  have h1 := h.fe
  have h2 := h.n1
  simp [F.burrowref24_sound, argEnv, fpBx]
  refine callS.ret (past_t (d := d) h.b0 h.b1) (by simp) (by simp) (by simp) ?_
  rcases h.wi with hw | ⟨w, hu, hw⟩
  · simp [h1, h2, hw, zWn, widths]
    refine ⟨by rw [zr_eq]; rfl, ?_⟩
    refine RetS.plain [] ?_
    simp
    rw [zr_eq]; rfl
  · simp [h1, h2, hw, encW, wP, widths, hu]
    refine RetS.plain [] ?_
    simp
def decF : Nat → Nat → List UInt8
  | 0, n => [UInt8.ofNat (48 + n)]
  | f + 1, n => if n < 10 then [UInt8.ofNat (48 + n)] else decF f (n / 10) ++ [UInt8.ofNat (48 + n % 10)]
theorem decF_len : ∀ f n, 1 ≤ (decF f n).length ∧ (decF f n).length ≤ f + 1
  | 0, n => by simp [decF]
  | f + 1, n => by
    have := decF_len f (n / 10)
    simp only [decF]; split <;> simp <;> omega
theorem u8_n {n : Nat} (h : n < 256) : u8 (UInt8.ofNat n) = .int .u8 n := by
  simp only [u8]; congr 1; simp [UInt8.toNat_ofNat]; omega
theorem asB1 {x : Int} {n : Nat} (e : x = n) (h : n < 256) : asBytes [.int .u8 x] = some [UInt8.ofNat n] := by
  subst e; rw [← u8_n h]; exact asBytes_map [UInt8.ofNat n]
theorem Decimal : ∀ (f n : Nat), f ≤ 100 → n < 10 ^ (f + 1) → n < 1000000 → ARet Pg I.burrowref13_Decimal [.int .i64 n] (.str (decF f n)) := by
  intro f
  induction f with
  | zero =>
    intro n hf h h'
    have hn : (n : Int) < 10 := by simp at h; omega
    refine ACalls.intro T.burrowref13_Decimal (by simp [F.burrowref13_Decimal]) ?_
    have w1 : IntKind.i64.wrap (48 + (n : Int)) = 48 + (n : Int) := wrap_i64 (by omega)
    have w2 : IntKind.u8.wrap (48 + (n : Int)) = 48 + (n : Int) := wrap_u8 (by omega)
    simp [F.burrowref13_Decimal, argEnv, fpBx, hn, w1, w2, asB1 (x := 48 + (n : Int)) (n := 48 + n) (by omega) (by omega)]
    refine RetS.plain [] ?_
    simp [decF]
  | succ f ih =>
    intro n hf h h'
    refine ACalls.intro T.burrowref13_Decimal (by simp [F.burrowref13_Decimal]) ?_
    by_cases hn : (n : Int) < 10
    · have w1 : IntKind.i64.wrap (48 + (n : Int)) = 48 + (n : Int) := wrap_i64 (by omega)
      have w2 : IntKind.u8.wrap (48 + (n : Int)) = 48 + (n : Int) := wrap_u8 (by omega)
      simp [F.burrowref13_Decimal, argEnv, fpBx, hn, w1, w2, asB1 (x := 48 + (n : Int)) (n := 48 + n) (by omega) (by omega)]
      refine RetS.plain [] ?_
      have hn' : n < 10 := by omega
      simp [decF, hn']
    · have hl := decF_len f (n / 10)
      obtain ⟨q, hq⟩ : ∃ q, q = n / 10 := ⟨_, rfl⟩
      obtain ⟨t, ht⟩ : ∃ t, t = n % 10 := ⟨_, rfl⟩
      have hd : IntKind.i64.wrap ((n : Int).tdiv 10) = (q : Int) := by
        rw [show (10 : Int) = ((10 : Nat) : Int) from rfl, ← Int.ofNat_tdiv, hq]; exact wrap_i64 (by omega)
      have hd2 : IntKind.i64.wrap ((n : Int) / 10) = (q : Int) := by
        rw [show (n : Int) / 10 = ((n / 10 : Nat) : Int) by omega, hq]; exact wrap_i64 (by omega)
      have hm : (n : Int).tmod 10 = (t : Int) := by
        rw [show (10 : Int) = ((10 : Nat) : Int) from rfl, ← Int.ofNat_tmod, ht]
      have w1 : IntKind.i64.wrap (48 + (t : Int)) = 48 + (t : Int) := wrap_i64 (by omega)
      have w2 : IntKind.u8.wrap (48 + (t : Int)) = 48 + (t : Int) := wrap_u8 (by omega)
      have hi := ih q (by omega) (by rw [Nat.pow_succ] at h; omega) (by omega)
      simp [F.burrowref13_Decimal, argEnv, fpBx, hn, hd, hd2]
      refine callT.ret hi (by simp) (by simp) (by simp) ?_
      rw [← hq] at hl
      simp [hm, w1, w2, asB1 (x := 48 + (t : Int)) (n := 48 + t) (by omega) (by omega)]
      refine ⟨by omega, ?_⟩
      refine RetS.plain [] ?_
      have hn' : ¬ n < 10 := by omega
      simp [decF, hn', ← hq, ← ht]
theorem Timed_t {n : Int} (h : n = 0 ∨ 1000 ≤ n ∧ n ≤ 1073741824) : ARet Pg I.burrowref13_Timed [.int .i64 n] (.bl true) := by
  refine ACalls.intro T.burrowref13_Timed (by simp [F.burrowref13_Timed]) ?_
  rcases h with h | ⟨h1, h2⟩
  · simp [F.burrowref13_Timed, argEnv, fpBx, h]
    refine RetS.plain [] ?_
    simp
  · have h0 : ¬ n = 0 := by omega
    simp [F.burrowref13_Timed, argEnv, fpBx, h0, h1, h2]
    refine RetS.plain [] ?_
    simp
@[simp ↓] theorem binS_geq' (a b : List UInt8) (K : PV → Prop) : binS .geq a b K = K (.bl (!Op.bytesLess a b)) := _root_.id rfl
def fmtA (a : Adr) (n : Nat) : List UInt8 := ((a.ip.take n).map (fun b => [46] ++ decF 2 b.toNat)).flatten
theorem fmtA_le (a : Adr) : ∀ n, (fmtA a n).length ≤ 4 * n := by
  intro n
  unfold fmtA
  generalize a.ip = l
  induction l generalizing n with
  | nil => simp
  | cons x l ih =>
    cases n with
    | zero => simp
    | succ n =>
      have := ih n
      have h2 := decF_len 2 x.toNat
      simp at this ⊢
      omega
theorem fmtA_succ (a : Adr) {n : Nat} {b : UInt8} (h : a.ip[n]? = some b) : fmtA a (n + 1) = fmtA a n ++ ([46] ++ decF 2 b.toNat) := by
  unfold fmtA
  rw [List.take_add_one, h]; simp
theorem fmtA_pos (a : Adr) : 2 ≤ (fmtA a 4).length := by
  have h := a.h
  obtain ⟨x, l, e⟩ : ∃ x l, a.ip = x :: l := by
    cases hx : a.ip with
    | nil => rw [hx] at h; simp at h
    | cons x l => exact ⟨x, l, rfl⟩
  unfold fmtA
  rw [e]
  have h2 := decF_len 2 x.toNat
  simp
  omega
set_option maxRecDepth 10000 in
theorem FormatAddr {a : Adr} (h : ZFrom a 4) (h6 : a.six = false) : ARet Pg I.burrowref13_FormatAddr [encA a] (.str ((fmtA a 4).drop 1)) := by
  refine ACalls.intro T.burrowref13_FormatAddr (by simp [F.burrowref13_FormatAddr]) ?_
  simp [F.burrowref13_FormatAddr, argEnv, fpBx]
  refine callS.ret (burrowref09_Sound h) (by simp) (by simp) (by simp) ?_
  simp [h6]
  refine LpS.rng 4 (fun _ => True) [1, 2, 3, 4] (fun i => [(3, .str (fmtA a i)), (4, .int .i64 i)]) (fun i => []) [.keep [1, 2, 3, 4]] ?_
  simp [show fmtA a 0 = [] from rfl]
  refine ⟨fun i hi K hK => ?_, fun K => ?_⟩
  · have hi2 : i < a.ip.length := by rw [a.h]; omega
    have hx : a.ip[i]? = some a.ip[i] := List.getElem?_eq_getElem hi2
    have hb := (a.ip[i]).toNat_lt
    have hw : IntKind.i64.wrap ((a.ip[i]).toNat : Int) = ((a.ip[i]).toNat : Int) := wrap_i64 (by omega)
    have hi4 : (i : Int) < 4 := by omega
    have hl := fmtA_le a i
    have hl2 := decF_len 2 (a.ip[i]).toNat
    rw [fmtA_succ a hx] at hK
    have hi16 : (i : Int) < 16 := by omega
    simp [↓aw_lk, hi, hi4, hi16, hx, u8, hw, wrapi hi (by omega)]
    refine callS.ret (Decimal 2 (a.ip[i]).toNat (by omega) (by omega) (by omega)) (by simp) (by simp) (by simp) ?_
    simp [hw, wrapi hi (by omega)]
    refine ⟨by omega, by omega, [.keep [1, 2, 3, 4]], ?_⟩
    simp
    exact hK _ (by simp)
  · have hl := fmtA_le a 4
    have hp := fmtA_pos a
    simp [↓aw_lk, ↓aw_lk]
    refine ⟨by omega, ?_⟩
    refine RetS.plain [] ?_
    simp
theorem atOf_z (i : Nat) : ZFrom (atOf i).addr 4 := by
  intro j h1 h2
  simp only [atOf]
  rcases (by omega : j = 4 ∨ j = 5 ∨ j = 6 ∨ j = 7 ∨ j = 8 ∨ j = 9 ∨ j = 10 ∨ j = 11 ∨ j = 12 ∨ j = 13 ∨ j = 14 ∨ j = 15) with rfl | rfl | rfl | rfl | rfl | rfl | rfl | rfl | rfl | rfl | rfl | rfl <;> rfl
def fmtE (i : Nat) : List UInt8 := (fmtA (atOf i).addr 4).drop 1 ++ [58] ++ decF 3 (1000 + i)
theorem fmtE_pos (i : Nat) : fmtE i ≠ [] := by simp [fmtE]
set_option maxRecDepth 10000 in
theorem FormatEndpoint {i : Nat} (h : i < 3) : ARet Pg I.burrowref13_FormatEndpoint [encE (atOf i)] (.str (fmtE i)) := by
  refine ACalls.intro T.burrowref13_FormatEndpoint (by simp [F.burrowref13_FormatEndpoint]) ?_
  have hf := FormatAddr (atOf_z i) rfl
  have hl := fmtA_le (atOf i).addr 4
  have hp := fmtA_pos (atOf i).addr
  have hd := decF_len 3 (1000 + i)
  have he : fmtE i = (fmtA (atOf i).addr 4).drop 1 ++ [58] ++ decF 3 (1000 + i) := rfl
  rw [he]
  obtain ⟨m, hm⟩ : ∃ m, (fmtA (atOf i).addr 4).drop 1 = m := ⟨_, rfl⟩
  have hml : m.length = (fmtA (atOf i).addr 4).length - 1 := by rw [← hm, List.length_drop]
  rw [hm] at hf ⊢
  have hn : m ≠ [] := by intro e; rw [e] at hml; simp at hml; omega
  have p1 : (atOf i).port = 1000 + (i : Int) := rfl
  have p2 : ¬ (1000 + (i : Int)) < 1 := by omega
  have p3 : ¬ (65535 : Int) < 1000 + (i : Int) := by omega
  have p4 : (atOf i).addr.six = false := rfl
  have hdc := Decimal 3 (1000 + i) (by omega) (by omega) (by omega)
  rw [show ((1000 + i : Nat) : Int) = 1000 + (i : Int) by omega] at hdc
  simp [F.burrowref13_FormatEndpoint, argEnv, fpBx]
  refine callS.ret hf (by simp) (by simp) (by simp) ?_
  simp [hn, p1, p2, p3, p4]
  refine ⟨by omega, ?_⟩
  refine callS.ret hdc (by simp) (by simp) (by simp) ?_
  simp
  refine ⟨by omega, ?_⟩
  refine RetS.plain [] ?_
  simp
end Go.Ab
end E9s
