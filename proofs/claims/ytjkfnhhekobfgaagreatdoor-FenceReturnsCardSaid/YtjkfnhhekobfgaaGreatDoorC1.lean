/- The checks of routes, load and indices. No condition. -/
import Derived.Test.YtjkfnhhekobfgaaGreatDoorB9
set_option linter.all false
namespace Go.Ab
open Go.Ab
theorem cmpHost {i : Nat} (h : i + 1 < 3) : cmpB (hostA (UInt8.ofNat (i + 1)) 0).ip (hostA (UInt8.ofNat (i + 1 + 1)) 0).ip = -1 := by
  rcases (by omega : i = 0 ∨ i = 1) with rfl | rfl <;> decide +kernel
theorem viewCmp {va vb : PV} {pa pb : List Step} {la lb : List UInt8} {n : Nat} (ha : getP va pa = some (.ar 1 n (la.map u8))) (hb : getP vb pb = some (.ar 1 n (lb.map u8))) (ea : la.length = n) (eb : lb.length = n) :
    ACalls Pg I.bytes_Compare [.rs KB pa 0 n 0 1 .clip, .rs (KB + 1) pb 0 n 0 1 .clip] [.box va, .box vb] (fun r fp => r = .int .i64 (cmpB la lb) ∧ fp = [.box va, .box vb]) := by
  have ta : (la.map u8).take n = la.map u8 := List.take_of_length_le (by simp [ea])
  have tb : (lb.map u8).take n = lb.map u8 := List.take_of_length_le (by simp [eb])
  have h := ACalls.view (args := [.rs KB pa 0 n 0 1 .clip, .rs (KB + 1) pb 0 n 0 1 .clip]) (fp := [.box va, .box vb]) (Compare la lb false false)
    ⟨.inl (.inr ⟨KB, pa, 0, n, 0, 1, .clip, la.map u8, rfl, by simp [content, get, fpBx, ha, ta], (pureL_map (fun x => by simp [u8]) la).refs _, by omega, rfl⟩),
     .inl (.inr ⟨KB + 1, pb, 0, n, 0, 1, .clip, lb.map u8, rfl, by simp [content, get, fpBx, hb, tb], (pureL_map (fun x => by simp [u8]) lb).refs _, by omega, rfl⟩), trivial⟩ (fun r new e => by
    obtain ⟨rfl, rfl⟩ := e
    exact ⟨rfl, rfl⟩)
  refine h.mono ?_
  rintro r fp' ⟨r0, new, ⟨rfl, rfl⟩, rfl, rfl⟩
  exact ⟨by simp [ren], by simp⟩
set_option maxRecDepth 10000 in
theorem iLess_t {a b : Adr} (h6 : a.six = false) (h7 : b.six = false) (h : cmpB a.ip b.ip = -1) : ARet Pg I.inner_Less [encA a, encA b] (.bl true) := by
  refine ACalls.intro T.inner_Less (by simp [F.inner_Less]) ?_
  have hv := viewCmp (va := encA a) (vb := encA b) (pa := [.f 1 1]) (pb := [.f 1 1]) (la := a.ip) (lb := b.ip) (n := 16) (by simp) (by simp) a.h b.h
  rw [h] at hv
  simp [F.inner_Less, argEnv, fpBx, h6, h7]
  refine callS.gen [2, 3] [] [.box (encA a), .box (encA b)] hv (by simp [getAll]) (by simp) (by simp) (by simp [refsOkL, refsOk, inKs, idx]) (by simp [refsOkB, (pure_encA a).refs, (pure_encA b).refs]) (by simp [renL, ren, ren1, idx]) (by simp [renB, (pure_encA a).ren, (pure_encA b).ren]) (by simp [refsOkB, refsOk, (pure_encA a).refs, (pure_encA b).refs]) ?_
  simp [putAll, renB, ren, ren2, (pure_encA a).ren, (pure_encA b).ren]
  refine RetS.plain [] ?_
  simp
theorem hostA_ne {i : Nat} (h : i + 1 < 3) : PV.beq (encA (hostA (UInt8.ofNat (i + 1)) 0)) (encA (hostA (UInt8.ofNat (i + 1 + 1)) 0)) = false := by
  rcases (by omega : i = 0 ∨ i = 1) with rfl | rfl <;> decide +kernel
set_option maxRecDepth 10000 in
theorem rless_t {i : Nat} (h : i + 1 < 3) : ARet Pg I.routes_less [encX (pfxA (UInt8.ofNat (i + 1))), encX (pfxA (UInt8.ofNat (i + 1 + 1)))] (.bl true) := by
  refine ACalls.intro T.routes_less (by simp [F.routes_less]) ?_
  have hl := iLess_t (a := hostA (UInt8.ofNat (i + 1)) 0) (b := hostA (UInt8.ofNat (i + 1 + 1)) 0) rfl rfl (cmpHost h)
  have hn := hostA_ne h
  have f1 := fits_encA (hostA (UInt8.ofNat (i + 1)) 0)
  have f2 := fits_encA (hostA (UInt8.ofNat (i + 1 + 1)) 0)
  have e1 : (pfxA (UInt8.ofNat (i + 1))).addr = hostA (UInt8.ofNat (i + 1)) 0 := rfl
  have e2 : (pfxA (UInt8.ofNat (i + 1 + 1))).addr = hostA (UInt8.ofNat (i + 1 + 1)) 0 := rfl
  rw [← e1] at f1 hl hn
  rw [← e2] at f2 hl hn
  generalize pfxA (UInt8.ofNat (i + 1)) = x at *
  generalize pfxA (UInt8.ofNat (i + 1 + 1)) = y at *
  simp [F.routes_less, argEnv, fpBx, hn, f1, f2]
  refine callS.ret hl (by simp) (by simp) (by simp) ?_
  simp
  refine RetS.plain [] ?_
  simp
set_option maxRecDepth 10000 in
theorem routesValid_t {l : List Rte} (h : RtsOk l) : ARet Pg I.routes_Valid [encRts l] (.bl true) := by
  refine ACalls.intro T.routes_Valid (by simp [F.routes_Valid]) ?_
  have hl := h.1
  simp [F.routes_Valid, argEnv, fpBx]
  refine LpS.rng l.length (fun _ => True) [0, 2, 5, 6, 7] (fun i => [(7, .int .i64 i)]) (fun i => []) [.keep [0, 2, 5, 6, 7]] ?_
  simp
  refine ⟨fun i hi K hK => ?_, fun K => ?_⟩
  · have hx : l[i]? = some l[i] := List.getElem?_eq_getElem hi
    have he := h.2 i hi
    have hp : l[i].pfx = pfxA (UInt8.ofNat (i + 1)) := by rw [he]; rfl
    have hv : ARet Pg I.inner_Valid [encX l[i].pfx] (.bl true) := by rw [hp]; exact innerValid_n (k := 2) (hostA_z _) rfl (by omega) rfl
    by_cases hz : i = 0
    · subst hz
      simp [F.routes_Validl0, hx, hi]
      refine callT.ret hv (by simp) (by simp) (by simp) ?_
      simp
      refine ⟨[.keep [0, 2, 5, 6, 7], .dr 4], ?_⟩
      simp
      exact hK _ (by simp)
    · obtain ⟨j, hji⟩ : ∃ j, i = j + 1 := ⟨i - 1, by omega⟩
      have hj : j < l.length := by omega
      have hy : l[j]? = some l[j] := List.getElem?_eq_getElem hj
      have hq : l[j].pfx = pfxA (UInt8.ofNat (j + 1)) := by rw [h.2 j hj]; rfl
      have hb := rless_t (i := j) (by omega)
      have hp2 : l[i].pfx = pfxA (UInt8.ofNat (j + 1 + 1)) := by rw [hp]; rw [hji]
      rw [← hp2, ← hq] at hb
      have hw : IntKind.i64.wrap ((i : Int) - 1) = j := by rw [wrap_i64 (by omega)]; omega
      simp [F.routes_Validl0, hx, hy, hi, hj, hw, show 0 < i by omega]
      refine callT.ret hv (by simp) (by simp) (by simp) ?_
      simp [hx, hy, hi, hj, hw, show 0 < i by omega]
      refine callT.ret hb (by simp) (by simp) (by simp) ?_
      simp [wrapi hi (by omega)]
      refine ⟨[.keep [0, 2, 5, 6, 7], .dr 4], ?_⟩
      simp
      exact hK _ (by simp)
  · have hl8 : (l.length : Int) ≤ 16 := by omega
    simp [F.routes_Validl0, F.routes_Validc1, hl8]
    refine RetS.plain [] ?_
    simp [hl8]
end Go.Ab
namespace Go.Ab
open Go.Ab
theorem con_int0 (g : FuncId) {v : PV} (hv : Pure v) : ACalls Pg I.slices_ContainsFunc_int64_int64 [.sl 1 [] false, .fn (.func g) [] [.pt KB [] 0]] [.box v] (fun r fp => r = .bl false ∧ fp = [.box v]) :=
  con_no (L := []) T.slices_ContainsFunc_int64_int64 T.slices_IndexFunc_int64_int64 ⟨by simp, by simp⟩ hv (by simp)
theorem isSorted0 : ARet Pg I.slices_IsSorted_int64_int64 [encIs []] (.bl true) := by
  refine ACalls.intro T.slices_IsSorted_int64_int64 (by simp [F.slices_IsSorted_int64_int64]) ?_
  simp [F.slices_IsSorted_int64_int64, argEnv, fpBx]
  refine LpS.rng 0 (fun _ => True) [0, 2, 3] (fun i => []) (fun i => []) [.keep [0, 2, 3]] ?_
  simp
  intro K
  simp [F.slices_IsSorted_int64_int64l0, F.slices_IsSorted_int64_int64c1]
  refine RetS.plain [] ?_
  simp
set_option maxRecDepth 10000 in
theorem iload_t {d : Dmn} (h : VD d) : ARet Pg I.rules_load [encD d] (.bl true) := by
  refine ACalls.intro T.rules_load (by simp [F.rules_load]) ?_
  have h2 := h.rcn
  have h3 := h.buc
  simp [F.rules_load, argEnv, fpBx]
  refine callS.ret (iwithin_t h.s0 h.s1) (by simp) (by simp) (by simp) ?_
  simp [h2, h3]
  refine callS.ret isSorted0 (by simp) (by simp) (by simp) ?_
  simp [h2, h3]
  refine callS.gen [1] [] [.box (encD d)] (con_int0 I.rules_load_1 (pure_encD d)) (by simp [getAll]) (by simp) (by simp) (by simp [refsOkL, refsOk, inKs, idx, encIs]) (by simp [refsOkB, (pure_encD d).refs]) (by simp [renL, ren, ren1, idx, encIs]) (by simp [renB, (pure_encD d).ren]) (by simp [refsOkB, refsOk, (pure_encD d).refs]) ?_
  simp [putAll, renB, ren, ren2, (pure_encD d).ren, h3]
  refine LpS.rng 0 (fun _ => True) [1, 2, 35, 36, 37] (fun i => []) (fun i => []) [.keep [1, 2, 35, 36, 37]] ?_
  simp
  intro K
  simp [F.rules_loadl0, F.rules_loadc1]
  refine RetS.plain [] ?_
  simp
set_option maxRecDepth 10000 in
theorem indexValid_t {l : List Slt} (hl : l.length ≤ 32) (h : SortS l) : ARet Pg I.index_Valid [encSls l] (.bl true) := by
  refine ACalls.intro T.index_Valid (by simp [F.index_Valid]) ?_
  simp [F.index_Valid, argEnv, fpBx]
  refine LpS.rng l.length (fun _ => True) [0, 2, 5, 6, 7] (fun i => [(7, .int .i64 i)]) (fun i => []) [.keep [0, 2, 5, 6, 7]] ?_
  simp
  refine ⟨fun i hi K hK => ?_, fun K => ?_⟩
  · have hx : l[i]? = some l[i] := List.getElem?_eq_getElem hi
    have h0 := h.1 i hi
    by_cases hz : i = 0
    · subst hz
      simp [F.index_Validl0, hx, hi, h0]
      refine ⟨[.keep [0, 2, 5, 6, 7], .dr 4], ?_⟩
      simp
      exact hK _ (by simp)
    · obtain ⟨j, hji⟩ : ∃ j, i = j + 1 := ⟨i - 1, by omega⟩
      have hj : j < l.length := by omega
      have hy : l[j]? = some l[j] := List.getElem?_eq_getElem hj
      have hlt := h.2 j (by omega)
      have hnl : ¬ l[i].index ≤ l[j].index := by subst hji; omega
      have hw : IntKind.i64.wrap ((i : Int) - 1) = j := by rw [wrap_i64 (by omega)]; omega
      simp [F.index_Validl0, hx, hy, hi, hj, h0, hw, hnl, show 0 < i by omega, wrapi hi (by omega)]
      refine ⟨[.keep [0, 2, 5, 6, 7], .dr 4], ?_⟩
      simp
      exact hK _ (by simp)
  · simp [F.index_Validl0, F.index_Validc1]
    refine RetS.plain [] ?_
    simp [hl]
    omega
set_option maxRecDepth 10000 in
theorem equal_t {l : List Slt} (hl : l.length ≤ 1048576) : ARet Pg I.slices_Equal_api_Slot_api_Slot [encSls l, encSls l] (.bl true) := by
  refine ACalls.intro T.slices_Equal_api_Slot_api_Slot (by simp [F.slices_Equal_api_Slot_api_Slot]) ?_
  simp [F.slices_Equal_api_Slot_api_Slot, argEnv, fpBx]
  refine LpS.rng l.length (fun _ => True) [0, 1, 4, 11, 12, 13] (fun i => [(13, .int .i64 i)]) (fun i => []) [.keep [0, 1, 4, 11, 12, 13]] ?_
  simp
  refine ⟨fun i hi K hK => ?_, fun K => ?_⟩
  · have hx : l[i]? = some l[i] := List.getElem?_eq_getElem hi
    have hf := fits_encSl l[i]
    have hb := beq_encSl l[i]
    simp [F.slices_Equal_api_Slot_api_Slotl0, hx, hi, hf, hb, wrapi hi (by omega)]
    refine ⟨[.keep [0, 1, 4, 11, 12, 13]], ?_⟩
    simp
    exact hK _ (by simp)
  · simp [F.slices_Equal_api_Slot_api_Slotl0, F.slices_Equal_api_Slot_api_Slotc1]
    refine RetS.plain [] ?_
    simp
end Go.Ab
namespace Go.Ab
open Go.Ab
set_option maxRecDepth 10000 in
set_option maxHeartbeats 1000000 in
theorem ring_locals {l : List Plc} (h : l.length ≤ 8) (b : Bool) : ARet Pg I.ring_locals [.sl 77 (l.map encP) b] (encU (lcl l)) := by
  refine ACalls.intro T.ring_locals (by simp [F.ring_locals]) ?_
  simp [F.ring_locals, argEnv, fpBx, encU]
  refine LpS.rng l.length (fun _ => True) [2, 3, 6, 7, 8] (fun i => [(3, .rs 3 [] 0 (lcl (l.take i)).length (lcl (l.take i)).length 1 .tip), (8, .int .i64 i)]) (fun i => [(3, .arr 1 ((lcl (l.take i)).map (fun n : Int => PV.int .u32 n)))]) [.vt 3 3 1] ?_
  simp [show lcl [] = [] from rfl]
  refine ⟨fun i hi K hK => ?_, fun K => ?_⟩
  · have hx : l[i]? = some l[i] := List.getElem?_eq_getElem hi
    have hlen := lcl_le (l.take i)
    have hlen2 : (l.take i).length ≤ i := by rw [List.length_take]; omega
    rw [lcl_succ hi] at hK
    generalize lcl (l.take i) = out at *
    by_cases h1 : l[i].has = true
    · simp [F.ring_localsl0, hx, hi, h1, wrapi hi (by omega)]
      refine ⟨⟨by omega, by omega⟩, [.keep [2, 3, 6, 7, 8], .dr 5], ?_⟩
      simp [refsEnv, refsBx, refsOk, refsOkB]
      exact hK _ (by simp [h1])
    · simp [F.ring_localsl0, hx, hi, h1, wrapi hi (by omega)]
      refine ⟨[.keep [2, 3, 6, 7, 8], .dr 5], ?_⟩
      simp [refsEnv, refsBx, refsOk, refsOkB]
      exact hK _ (by simp [h1])
  · simp [F.ring_localsl0, F.ring_localsc1]
    refine RetS.plain [.keep [2], .fz 3, .wk 2] ?_
    simp
theorem ring_Locals (r : Rng) : ARet Pg I.ring_Locals [encR r] (encU (lcl [r.p, r.c, r.n])) := by
  refine ACalls.intro T.ring_Locals (by simp [F.ring_Locals]) ?_
  simp [F.ring_Locals, argEnv, fpBx]
  refine callS.ret (ring_locals (l := [r.p, r.c, r.n]) (by simp) false) (by simp) (by simp) (by simp) ?_
  simp
  refine RetS.plain [] ?_
  simp
theorem cmpSl {a b : Slt} (ha : 0 ≤ a.index ∧ a.index ≤ 1000) (hb : 0 ≤ b.index ∧ b.index ≤ 1000) : ARet Pg I.rules_Slots_1 [encSl a, encSl b] (.int .i64 (a.index - b.index)) := by
  refine ACalls.intro T.rules_Slots_1 (by simp [F.rules_Slots_1]) ?_
  have w1 : IntKind.i64.wrap a.index = a.index := wrap_i64 (by omega)
  have w2 : IntKind.i64.wrap b.index = b.index := wrap_i64 (by omega)
  have w3 : IntKind.i64.wrap (a.index - b.index) = a.index - b.index := wrap_i64 (by omega)
  simp [F.rules_Slots_1, argEnv, fpBx, w1, w2, w3]
  refine RetS.plain [] ?_
  simp
def pos (x : Slt) : List Slt → Nat
  | [] => 0
  | y :: l => if y.index ≤ x.index then pos x l + 1 else 0
def ins (x : Slt) : List Slt → List Slt
  | [] => [x]
  | y :: l => if y.index ≤ x.index then y :: ins x l else x :: y :: l
def srt (l : List Slt) : List Slt := l.foldl (fun a x => ins x a) []
def Srtd (l : List Slt) : Prop := l.Pairwise (fun a b => a.index ≤ b.index)
theorem ins_eq (x : Slt) : ∀ l : List Slt, ins x l = l.take (pos x l) ++ x :: l.drop (pos x l)
  | [] => rfl
  | y :: l => by
    simp only [ins, pos]
    split
    · rw [ins_eq x l]; simp
    · simp
theorem pos_le (x : Slt) : ∀ l : List Slt, pos x l ≤ l.length
  | [] => by simp [pos]
  | y :: l => by
    have := pos_le x l
    simp only [pos]; split <;> simp <;> omega
theorem pos_lt {x : Slt} : ∀ {l : List Slt} {j : Nat}, j < pos x l → (hj : j < l.length) → l[j].index ≤ x.index
  | [], j, h, hj => by simp at hj
  | y :: l, j, h, hj => by
    simp only [pos] at h
    split at h
    · rename_i hy
      cases j with
      | zero => exact hy
      | succ j => exact pos_lt (l := l) (j := j) (by omega) (by simpa using hj)
    · omega
theorem pos_gt {x : Slt} : ∀ {l : List Slt}, Srtd l → ∀ {j : Nat}, pos x l ≤ j → (hj : j < l.length) → x.index < l[j].index
  | [], _, j, _, hj => by simp at hj
  | y :: l, h, j, hp, hj => by
    have h1 := List.pairwise_cons.1 h
    simp only [pos] at hp
    split at hp
    · cases j with
      | zero => omega
      | succ j => exact pos_gt (l := l) h1.2 (j := j) (by omega) (by simpa using hj)
    · rename_i hy
      cases j with
      | zero => show x.index < y.index; omega
      | succ j =>
        have hj2 : j < l.length := by simpa using hj
        have := h1.1 l[j] (List.getElem_mem hj2)
        show x.index < l[j].index
        omega
theorem ins_perm (x : Slt) (l : List Slt) : (ins x l).Perm (x :: l) := by
  rw [ins_eq]
  refine List.perm_middle.trans (List.Perm.cons x ?_)
  rw [List.take_append_drop]
theorem ins_srt {x : Slt} : ∀ {l : List Slt}, Srtd l → Srtd (ins x l)
  | [], _ => by simp [ins, Srtd]
  | y :: l, h => by
    have h1 := List.pairwise_cons.1 h
    simp only [ins]
    split
    · rename_i hy
      refine List.pairwise_cons.2 ⟨fun z hz => ?_, ins_srt h1.2⟩
      rcases List.mem_cons.1 ((ins_perm x l).mem_iff.1 hz) with e | hz
      · rw [e]; exact hy
      · exact h1.1 z hz
    · rename_i hy
      refine List.pairwise_cons.2 ⟨fun z hz => ?_, h⟩
      rcases List.mem_cons.1 hz with e | hz
      · rw [e]; omega
      · have := h1.1 z hz; omega
theorem srt_snoc (l : List Slt) (x : Slt) : srt (l ++ [x]) = ins x (srt l) := by simp [srt]
theorem fold_perm : ∀ (l a : List Slt), (l.foldl (fun a x => ins x a) a).Perm (a ++ l)
  | [], a => by simp
  | x :: l, a => by
    refine (fold_perm l (ins x a)).trans ?_
    refine ((ins_perm x a).append_right l).trans ?_
    exact (List.perm_middle (l₁ := a) (a := x) (l₂ := l)).symm
theorem fold_srt : ∀ (l a : List Slt), Srtd a → Srtd (l.foldl (fun a x => ins x a) a)
  | [], a, h => h
  | x :: l, a, h => fold_srt l _ (ins_srt h)
theorem srt_perm (l : List Slt) : (srt l).Perm l := by simpa [srt] using fold_perm l []
theorem srt_srt (l : List Slt) : Srtd (srt l) := fold_srt l [] .nil
theorem uniq : ∀ {a b : List Slt}, a.Pairwise (fun x y => x.index < y.index) → Srtd b → a.Perm b → a = b
  | [], b, _, _, h => by rw [h.nil_eq]
  | x :: a, [], _, _, h => by have := h.length_eq; simp at this
  | x :: a, y :: b, ha, hb, h => by
    have h1 := List.pairwise_cons.1 ha
    have h2 := List.pairwise_cons.1 hb
    have hxy : x = y := by
      have hy : y ∈ x :: a := h.mem_iff.2 (by simp)
      have hx : x ∈ y :: b := h.mem_iff.1 (by simp)
      rcases List.mem_cons.1 hy with e | hy
      · exact e.symm
      · rcases List.mem_cons.1 hx with e | hx
        · exact e
        · have := h1.1 y hy
          have := h2.1 x hx
          omega
    subst hxy
    rw [uniq h1.2 h2.2 (h.cons_inv)]
end Go.Ab
namespace Go.Ab
open Go.Ab
def dAt (L : List Slt) (i : Nat) : List Slt := srt (L.take (i + 1)) ++ L.drop (i + 1)
theorem srt_len (l : List Slt) : (srt l).length = l.length := (srt_perm l).length_eq
theorem dAt0 (L : List Slt) : dAt L 0 = L := by
  cases L with
  | nil => rfl
  | cons x l => simp [dAt, srt, ins]
def sAt (pre rest : List Slt) (x : Slt) (k : Nat) : List Slt := pre.take k ++ x :: (pre.drop k ++ rest)
theorem sAt_x {pre rest : List Slt} {x : Slt} {k : Nat} (h : k ≤ pre.length) : (sAt pre rest x k)[k]? = some x := by
  unfold sAt
  rw [List.getElem?_append_right (by rw [List.length_take]; omega), List.length_take, show k - min k pre.length = 0 by omega]; rfl
theorem sAt_p {pre rest : List Slt} {x : Slt} {k : Nat} (h : k < pre.length) : (sAt pre rest x (k + 1))[k]? = some pre[k] := by
  unfold sAt
  rw [List.getElem?_append_left (by rw [List.length_take]; omega), List.getElem?_take, if_pos (by omega), List.getElem?_eq_getElem h]
theorem sAt_sw {pre rest : List Slt} {x : Slt} {k : Nat} (h : k < pre.length) : ((sAt pre rest x (k + 1)).set (k + 1) pre[k]).set k x = sAt pre rest x k := by
  unfold sAt
  have e1 : pre.take (k + 1) = pre.take k ++ [pre[k]] := List.take_succ_eq_append_getElem h
  have e2 : pre.drop k = pre[k] :: pre.drop (k + 1) := List.drop_eq_getElem_cons h
  have hl : (pre.take k).length = k := by rw [List.length_take]; omega
  rw [e1, e2, List.append_assoc, List.set_append_right _ _ (by omega), hl, show k + 1 - k = 1 by omega]
  simp only [List.singleton_append, List.set_cons_succ, List.set_cons_zero]
  rw [List.set_append_right _ _ (by omega), hl, Nat.sub_self, List.set_cons_zero]
  rfl
theorem sAt_len {pre rest : List Slt} {x : Slt} {k : Nat} : (sAt pre rest x k).length = pre.length + 1 + rest.length := by
  unfold sAt; simp [List.length_take]; omega
theorem dAt_s {L : List Slt} {i : Nat} (h : i + 1 < L.length) : dAt L i = sAt (srt (L.take (i + 1))) (L.drop (i + 2)) L[i + 1] (i + 1) := by
  unfold dAt sAt
  have hl : (srt (L.take (i + 1))).length = i + 1 := by rw [srt_len, List.length_take]; omega
  generalize srt (L.take (i + 1)) = pre at *
  have t1 : pre.take (i + 1) = pre := List.take_of_length_le (by omega)
  have t2 : pre.drop (i + 1) = [] := List.drop_of_length_le (by omega)
  rw [t1, t2, List.drop_eq_getElem_cons h]
  rfl
theorem dAt_e {L : List Slt} {i : Nat} (h : i + 1 < L.length) : dAt L (i + 1) = sAt (srt (L.take (i + 1))) (L.drop (i + 2)) L[i + 1] (pos L[i + 1] (srt (L.take (i + 1)))) := by
  unfold dAt sAt
  rw [List.take_succ_eq_append_getElem h, srt_snoc, ins_eq]
  simp
set_option maxRecDepth 10000 in
set_option maxHeartbeats 2000000 in
theorem isort {L : List Slt} (hL : L.length ≤ 32) (hb : ∀ s ∈ L, 0 ≤ s.index ∧ s.index ≤ 1000) :
    ACalls Pg I.slices_insertionSortCmpFunc_api_Slot [.rs KB [] 0 L.length L.length 34 .tip, .int .i64 0, .int .i64 L.length, .fn (.func I.rules_Slots_1) [] []] [.arr 34 (L.map encSl)]
      (fun r fp => r = .tup [] ∧ fp = [.arr 34 ((srt L).map encSl)]) := by
  refine ACalls.intro T.slices_insertionSortCmpFunc_api_Slot (by simp [F.slices_insertionSortCmpFunc_api_Slot]) ?_
  have w0 : IntKind.i64.wrap (0 + 1) = 1 := wrap_i64 (by omega)
  simp [F.slices_insertionSortCmpFunc_api_Slot, argEnv, fpBx]
  refine LpS.rng (L.length - 1) (fun _ => True) [0, 1, 2, 3, 8] (fun i => [(8, .int .i64 ((i : Int) + 1))]) (fun i => [(KB, .arr 34 ((dAt L i).map encSl))]) [.keep [0, 1, 2, 3, 8]] ?_
  simp [dAt0]
  refine ⟨fun i hi K hK => ?_, fun K => ?_⟩
  · have h1 : i + 1 < L.length := by omega
    have hi64 : IntKind.i64.wrap ((i : Int) + 1 + 1) = (i : Int) + 1 + 1 := wrap_i64 (by omega)
    have hlt : (i : Int) + 1 < L.length := by omega
    rw [dAt_s h1]
    rw [dAt_e h1] at hK
    have hpm : ∀ s ∈ srt (L.take (i + 1)), 0 ≤ s.index ∧ s.index ≤ 1000 := fun s hs => hb s (List.mem_of_mem_take ((srt_perm _).mem_iff.1 hs))
    have hl : (srt (L.take (i + 1))).length = i + 1 := by rw [srt_len, List.length_take]; omega
    have hs := srt_srt (L.take (i + 1))
    have hx := hb _ (List.getElem_mem h1)
    have hrest : (L.drop (i + 2)).length = L.length - (i + 2) := by simp
    generalize srt (L.take (i + 1)) = pre at *
    generalize L[i + 1] = x at *
    generalize L.drop (i + 2) = rest at *
    have hp := pos_le x pre
    simp [F.slices_insertionSortCmpFunc_api_Slotl2, hlt]
    refine LpS.rng (i + 1 - pos x pre) (fun _ => True) [0, 1, 2, 3, 8, 9] (fun t => [(9, .int .i64 ((i : Int) + 1 - t))]) (fun t => [(KB, .arr 34 ((sAt pre rest x (i + 1 - t)).map encSl))]) [.keep [0, 1, 2, 3, 8, 9]] ?_
    simp
    refine ⟨fun t ht K2 hK2 => ?_, fun K2 => ?_⟩
    · obtain ⟨k, hk⟩ : ∃ k, i + 1 - t = k + 1 := ⟨i - t, by omega⟩
      have hk1 : (i : Int) + 1 - t = (k : Int) + 1 := by omega
      have hk2 : i - t = k := by omega
      have hk3 : (i : Int) + 1 - ((t : Int) + 1) = k := by omega
      rw [hk2, hk3] at hK2
      rw [hk, hk1]
      have hkp : k < pre.length := by omega
      have hgt := pos_gt (x := x) hs (j := k) (by omega) hkp
      have hbk := hpm _ (List.getElem_mem hkp)
      have hn := sAt_len (pre := pre) (rest := rest) (x := x) (k := k + 1)
      have g1 : (sAt pre rest x (k + 1))[k + 1]? = some x := sAt_x (by omega)
      have g2 : (sAt pre rest x (k + 1))[k]? = some pre[k] := sAt_p hkp
      have hsw := sAt_sw (pre := pre) (rest := rest) (x := x) hkp
      have hc := cmpSl hx hbk
      have wk1 : IntKind.i64.wrap (k : Int) = (k : Int) := wrap_i64 (by omega)
      have hn' : (sAt pre rest x (k + 1)).length = L.length := by omega
      have hk4 : (k : Int) + 1 < L.length := by omega
      have hk5 : (k : Int) < L.length := by omega
      have hk6 : k < L.length := by omega
      have hk7 : k + 1 < L.length := by omega
      have hk8 : (0 : Int) ≤ (k : Int) + 1 := by omega
      have hto : ((k : Int) + 1).toNat = k + 1 := by omega
      have hpos : (0 : Int) < (k : Int) + 1 := by omega
      have hneg : x.index - pre[k].index < 0 := by omega
      generalize pre[k] = y at *
      simp [F.slices_insertionSortCmpFunc_api_Slotl0, hpos, wk1, hto, g1, g2, hn', hk4, hk6, hk8, -getElem?_pos]
      refine callT.ret hc (by simp) (by simp) (by simp) ?_
      simp [hneg, wk1, hto, g1, g2, hn', hk4, hk6, hk8, -getElem?_pos]
      refine DrS.run [KB] rfl ?_
      simp [hneg, wk1, hto, g1, g2, hn', hk4, hk6, hk8, -getElem?_pos]
      have hmap : ((List.map encSl (sAt pre rest x (k + 1))).set (k + 1) (encSl y)).set k (encSl x) = List.map encSl (sAt pre rest x k) := by
        rw [← List.map_set, ← List.map_set, hsw]
      rw [hmap]
      refine ⟨[.keep [0, 1, 2, 3, 8, 9]], ?_⟩
      simp
      exact hK2 _ (by simp)
    · have he : i + 1 - (i + 1 - pos x pre) = pos x pre := by omega
      have he2 : (i : Int) + 1 - ((i + 1 - pos x pre : Nat) : Int) = (pos x pre : Int) := by omega
      rw [he, he2]
      by_cases h0 : pos x pre = 0
      · rw [h0] at hK ⊢
        simp [F.slices_insertionSortCmpFunc_api_Slotl0, F.slices_insertionSortCmpFunc_api_Slotc1, hi64]
        refine ⟨[.keep [0, 1, 2, 3, 8]], ?_⟩
        simp
        exact hK _ (by simp)
      · obtain ⟨k, hk⟩ : ∃ k, pos x pre = k + 1 := ⟨pos x pre - 1, by omega⟩
        have hkp : k < pre.length := by omega
        have hle := pos_lt (x := x) (l := pre) (j := k) (by omega) hkp
        have hbk := hpm _ (List.getElem_mem hkp)
        rw [hk] at hK ⊢
        have hn := sAt_len (pre := pre) (rest := rest) (x := x) (k := k + 1)
        have g1 : (sAt pre rest x (k + 1))[k + 1]? = some x := sAt_x (by omega)
        have g2 : (sAt pre rest x (k + 1))[k]? = some pre[k] := sAt_p hkp
        have hc := cmpSl hx hbk
        have wk1 : IntKind.i64.wrap (k : Int) = (k : Int) := wrap_i64 (by omega)
        have hn' : (sAt pre rest x (k + 1)).length = L.length := by omega
        have hk4 : (k : Int) + 1 < L.length := by omega
        have hk6 : k < L.length := by omega
        have hk8 : (0 : Int) ≤ (k : Int) + 1 := by omega
        have hto : ((k : Int) + 1).toNat = k + 1 := by omega
        have hpos : (0 : Int) < (k : Int) + 1 := by omega
        have hneg : ¬ x.index - pre[k].index < 0 := by omega
        generalize pre[k] = y at *
        simp [F.slices_insertionSortCmpFunc_api_Slotl0, hpos, wk1, hto, g1, g2, hn', hk4, hk6, hk8, -getElem?_pos]
        refine callT.ret hc (by simp) (by simp) (by simp) ?_
        simp [hneg, F.slices_insertionSortCmpFunc_api_Slotc1, hi64]
        refine ⟨[.keep [0, 1, 2, 3, 8]], ?_⟩
        simp
        exact hK _ (by simp)
  · have hd : dAt L (L.length - 1) = srt L := by
      unfold dAt
      by_cases h0 : L.length = 0
      · rw [List.length_eq_zero_iff.1 h0]; rfl
      · rw [List.take_of_length_le (by omega), List.drop_of_length_le (by omega), List.append_nil]
    have hge : ¬ ((L.length - 1 : Nat) : Int) + 1 < L.length := by omega
    rw [hd]
    simp [F.slices_insertionSortCmpFunc_api_Slotl2, hge]
    refine RetS.with [] [KB] ?_
    simp [refsOkB, renB, refsOk, ren, renL, refsOkL, tupOf]
end Go.Ab
namespace Go.Ab
open Go.Ab
theorem pureSls (l : List Slt) : PureL (l.map encSl) := pureL_map pure_encSl l
set_option maxRecDepth 10000 in
theorem stable {L : List Slt} (hL : L.length < 20) (hb : ∀ s ∈ L, 0 ≤ s.index ∧ s.index ≤ 1000) :
    ACalls Pg I.slices_stableCmpFunc_api_Slot [.rs KB [] 0 L.length L.length 34 .tip, .int .i64 L.length, .fn (.func I.rules_Slots_1) [] []] [.arr 34 (L.map encSl)]
      (fun r fp => r = .tup [] ∧ fp = [.arr 34 ((srt L).map encSl)]) := by
  refine ACalls.intro T.slices_stableCmpFunc_api_Slot (by simp [F.slices_stableCmpFunc_api_Slot]) ?_
  have h20 : ¬ (20 : Int) ≤ L.length := by omega
  have h20' : ¬ (20 : Int) < L.length := by omega
  simp [F.slices_stableCmpFunc_api_Slot, argEnv, fpBx]
  refine LpS.rng 0 (fun _ => True) [0, 1, 2, 6, 7, 8] (fun i => []) (fun i => []) [.keep [0, 1, 2, 6, 7, 8]] ?_
  simp
  intro K
  simp [F.slices_stableCmpFunc_api_Slotl0, F.slices_stableCmpFunc_api_Slotc4, h20]
  refine callS.gen [KB] [] [.arr 34 (L.map encSl)] (isort (L := L) (by omega) hb) (by simp [getAll]) (by simp) (by simp) (by simp [refsOkL, refsOk, inKs, idx]) (by simp [refsOkB, (pureSls L).refs]) (by simp [renL, ren, ren1, idx]) (by simp [renB, (pureSls L).ren]) (by simp [refsOkB, refsOk, refsOkL, (pureSls (srt L)).refs]) ?_
  simp [putAll, renB, ren, renL, ren2, (pureSls (srt L)).ren]
  refine LpS.rng 0 (fun _ => True) [0, 1, 2, 6, 7, 8] (fun i => []) (fun i => []) [.keep [0, 1, 2, 6, 7, 8]] ?_
  simp
  intro K
  simp [F.slices_stableCmpFunc_api_Slotl3, h20']
  refine RetS.with [] [KB] ?_
  simp [refsOkB, renB, refsOk, ren, renL, refsOkL, tupOf]
theorem SortStable {L : List Slt} (hL : L.length < 20) (hb : ∀ s ∈ L, 0 ≤ s.index ∧ s.index ≤ 1000) :
    ACalls Pg I.slices_SortStableFunc_api_Slot_api_Slot [.rs KB [] 0 L.length L.length 34 .tip, .fn (.func I.rules_Slots_1) [] []] [.arr 34 (L.map encSl)]
      (fun r fp => r = .tup [] ∧ fp = [.arr 34 ((srt L).map encSl)]) := by
  refine ACalls.intro T.slices_SortStableFunc_api_Slot_api_Slot (by simp [F.slices_SortStableFunc_api_Slot_api_Slot]) ?_
  simp [F.slices_SortStableFunc_api_Slot_api_Slot, argEnv, fpBx]
  refine callS.gen [KB] [] [.arr 34 (L.map encSl)] (stable (L := L) hL hb) (by simp [getAll]) (by simp) (by simp) (by simp [refsOkL, refsOk, inKs, idx]) (by simp [refsOkB, (pureSls L).refs]) (by simp [renL, ren, ren1, idx]) (by simp [renB, (pureSls L).ren]) (by simp [refsOkB, refsOk, refsOkL, (pureSls (srt L)).refs]) ?_
  simp [putAll, renB, ren, renL, ren2, (pureSls (srt L)).ren]
  refine RetS.with [] [KB] ?_
  simp [refsOkB, renB, refsOk, ren, renL, refsOkL, tupOf]
end Go.Ab
namespace Go.Ab
open Go.Ab
def gl (l : List Per) (i : Nat) : List Slt := (l.take i).flatMap slOf
theorem gl_succ {l : List Per} {i : Nat} (h : i < l.length) : gl l (i + 1) = gl l i ++ slOf l[i] := by
  unfold gl
  rw [List.take_succ_eq_append_getElem h, List.flatMap_append]
  simp
theorem gl_le (l : List Per) (i : Nat) : (gl l i).length ≤ 3 * i := cnt_le l i
def ml (p : Per) (X : List Int) (j : Nat) : List Slt := (X.take j).map (fun x => ⟨x, p.pub, true⟩)
theorem ml_succ (p : Per) {X : List Int} {j : Nat} (h : j < X.length) : ml p X (j + 1) = ml p X j ++ [⟨X[j], p.pub, true⟩] := by
  unfold ml; rw [List.take_succ_eq_append_getElem h, List.map_append]; rfl
theorem ml_len (p : Per) {X : List Int} {j : Nat} (h : j ≤ X.length) : (ml p X j).length = j := by
  unfold ml; simp; omega
theorem ml_all (p : Per) (X : List Int) : ml p X X.length = X.map (fun x => (⟨x, p.pub, true⟩ : Slt)) := by
  unfold ml; rw [List.take_length]
set_option maxRecDepth 10000 in
set_option maxHeartbeats 2000000 in
theorem iSlots {d : Dmn} (h : VD d) (hb : Bd d) : ARet Pg I.rules_Slots [encD d] (encSls d.slots) := by
  refine ACalls.intro T.rules_Slots (by simp [F.rules_Slots]) ?_
  have hl := h.pks.1
  simp [F.rules_Slots, argEnv, fpBx]
  refine LpS.rng d.peers.length (fun _ => True) [1, 2, 3, 9, 10, 11] (fun i => [(3, .rs 3 [] 0 (gl d.peers i).length (gl d.peers i).length 34 .tip), (11, .int .i64 i)]) (fun i => [(3, .arr 34 ((gl d.peers i).map encSl))]) [.keep [1, 2, 3, 9, 10, 11], .vt 3 3 34] ?_
  simp [show gl d.peers 0 = [] from rfl]
  refine ⟨fun i hi K hK => ?_, fun K => ?_⟩
  · have hx : d.peers[i]? = some d.peers[i] := List.getElem?_eq_getElem hi
    have hh := (h.per _ (List.getElem_mem hi)).hand
    have h2 : zHnd.has = false := rfl
    have hA := gl_le d.peers i
    rw [gl_succ hi] at hK
    have hsl : slOf d.peers[i] = (lc3 d.peers[i].ring).map (fun x => ⟨x, d.peers[i].pub, true⟩) := rfl
    have hl3 := lc3_le d.peers[i].ring
    generalize d.peers[i] = p at *
    generalize gl d.peers i = A at *
    simp [F.rules_Slotsl2, hx, hi, hh, h2, -getElem?_pos]
    refine callS.ret (ring_Locals p.ring) (by simp) (by simp) (by simp) ?_
    simp
    have hX : lc3 p.ring = lcl [p.ring.p, p.ring.c, p.ring.n] := rfl
    rw [hX] at hsl hl3
    rw [hsl] at hK
    generalize lcl [p.ring.p, p.ring.c, p.ring.n] = X at *
    refine LpS.rng X.length (fun _ => True) [1, 2, 3, 5, 9, 10, 11, 29, 30, 31] (fun j => [(3, .rs 3 [] 0 (A.length + j) (A.length + j) 34 .tip), (31, .int .i64 j)]) (fun j => [(3, .arr 34 ((A ++ ml p X j).map encSl))]) [.keep [1, 2, 3, 5, 9, 10, 11, 29, 30, 31]] ?_
    simp [show ml p X 0 = [] from rfl]
    refine ⟨fun j hj K2 hK2 => ?_, fun K2 => ?_⟩
    · have hy : X[j]? = some X[j] := List.getElem?_eq_getElem hj
      have hlen := ml_len p (X := X) (j := j) (by omega)
      rw [ml_succ p hj] at hK2
      generalize X[j] = x at *
      generalize ml p X j = M at *
      simp [F.rules_Slotsl0, hy, hj, wrapi hj (by omega), encU, hlen, -getElem?_pos]
      have hs : PV.st 34 [.int .u32 x, encK p.pub, .bl true] = encSl ⟨x, p.pub, true⟩ := rfl
      rw [hs]
      refine ⟨by omega, [.keep [1, 2, 3, 5, 9, 10, 11, 29, 30, 31]], ?_⟩
      simp
      exact hK2 _ (by simp [encU]; try omega)
    · have hlen := ml_len p (X := X) (j := X.length) (by omega)
      simp [F.rules_Slotsl0, F.rules_Slotsc1, wrapi hi (by omega)]
      refine ⟨[.keep [1, 2, 3, 9, 10, 11], .dr 5], ?_⟩
      simp [refsEnv, refsBx, refsOk, refsOkB]
      exact hK _ (by simp [ml_all])
  · have hg : gl d.peers d.peers.length = d.peers.flatMap slOf := by unfold gl; rw [List.take_length]
    have hpm := h.sls.pm
    rw [← hg] at hpm
    have hlen := h.sls.len hl
    have hpl := hpm.length_eq
    have hsrt : srt (gl d.peers d.peers.length) = d.slots := (uniq (List.pairwise_iff_getElem.2 fun a b ha hb' hab => h.sls.so.lt' hab hb') (srt_srt _) (hpm.trans (srt_perm _).symm)).symm
    have hss := SortStable (L := gl d.peers d.peers.length) (by omega) (fun s hs => hb s (hpm.mem_iff.2 hs))
    rw [hsrt] at hss
    generalize gl d.peers d.peers.length = L at *
    simp [F.rules_Slotsl2, F.rules_Slotsc3]
    refine callS.gen [3] [] [.arr 34 (L.map encSl)] hss (by simp [getAll]) (by simp) (by simp) (by simp [refsOkL, refsOk, inKs, idx]) (by simp [refsOkB, (pureSls L).refs]) (by simp [renL, ren, ren1, idx]) (by simp [renB, (pureSls L).ren]) (by simp [refsOkB, refsOk, refsOkL, (pureSls d.slots).refs]) ?_
    simp [putAll, renB, ren, renL, ren2, (pureSls d.slots).ren]
    refine RetS.plain [.keep [2], .fz 3, .wk 2] ?_
    simp [hpl, encSls]
    exact List.take_of_length_le (by simp [hpl])
set_option maxRecDepth 10000 in
theorem islots_t {d : Dmn} (h : VD d) (hb : Bd d) : ARet Pg I.rules_slots [encD d] (.bl true) := by
  refine ACalls.intro T.rules_slots (by simp [F.rules_slots]) ?_
  have hlen := h.sls.len h.pks.1
  simp [F.rules_slots, argEnv, fpBx]
  refine callT.ret (indexValid_t (l := d.slots) (by omega) h.sls.so) (by simp) (by simp) (by simp) ?_
  simp
  refine callT.ret (iSlots h hb) (by simp) (by simp) (by simp) ?_
  simp
  refine callT.ret (equal_t (l := d.slots) (by omega)) (by simp) (by simp) (by simp) ?_
  simp
  refine RetS.plain [] ?_
  simp
end Go.Ab
