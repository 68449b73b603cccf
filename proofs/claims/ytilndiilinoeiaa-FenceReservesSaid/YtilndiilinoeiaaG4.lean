/- The checks of the document on indices. -/
import Derived.Test.YtilndiilinoeiaaG3
set_option linter.all false
namespace Go.Ab
open Go.Ab
def lc3 (r : Rng) : List Int := lcl [r.p, r.c, r.n]
def slOf (p : Per) : List Slt := (lc3 p.ring).map (fun x => ⟨x, p.pub, true⟩)
theorem lc3_le (r : Rng) : (lc3 r).length ≤ 3 := lcl_le _
structure SlsOk (d : Dmn) : Prop where
  so : SortS d.slots
  pm : d.slots.Perm (d.peers.flatMap slOf)
theorem SortS.lt {l : List Slt} (h : SortS l) : ∀ (k i : Nat) (hk : i + k + 1 < l.length), l[i].index < l[i + k + 1].index
  | 0, i, hk => h.2 i hk
  | k + 1, i, hk => Int.lt_trans (SortS.lt h k i (by omega)) (h.2 (i + k + 1) (by omega))
theorem SortS.lt' {l : List Slt} (h : SortS l) {i j : Nat} (hij : i < j) (hj : j < l.length) : l[i].index < l[j].index := by
  obtain ⟨k, rfl⟩ : ∃ k, j = i + k + 1 := ⟨j - i - 1, by omega⟩
  exact h.lt k i hj
theorem SortS.nodup {l : List Slt} (h : SortS l) : (l.map (fun s => s.index)).Nodup := by
  rw [List.nodup_iff_pairwise_ne, List.pairwise_map, List.pairwise_iff_getElem]
  intro i j hi hj hij e
  have := h.lt' hij hj
  omega
theorem slOf_idx (p : Per) : (slOf p).map (fun s => s.index) = lc3 p.ring := by simp [slOf, Function.comp_def]
theorem SlsOk.nd {d : Dmn} (h : SlsOk d) : (d.peers.flatMap (fun p => lc3 p.ring)).Nodup := by
  have h1 := h.so.nodup
  have h2 : (d.slots.map (fun s => s.index)).Perm (d.peers.flatMap (fun p => lc3 p.ring)) := by
    have := h.pm.map (fun s => s.index)
    rw [List.map_flatMap] at this
    simpa [slOf_idx] using this
  exact h2.nodup_iff.1 h1
theorem nd_flat {α β : Type} {f : α → List β} : ∀ {l : List α}, (l.flatMap f).Nodup → ∀ x ∈ l, (f x).Nodup
  | y :: l, h, x, hx => by
    rw [List.flatMap_cons, List.nodup_append] at h
    rcases List.mem_cons.1 hx with rfl | hx
    · exact h.1
    · exact nd_flat h.2.1 x hx
theorem SlsOk.nd1 {d : Dmn} (h : SlsOk d) {p : Per} (hp : p ∈ d.peers) : (lc3 p.ring).Nodup := nd_flat h.nd p hp
theorem flat_le {l : List Per} : (l.flatMap slOf).length ≤ 3 * l.length := by
  induction l with
  | nil => simp
  | cons p l ih =>
    rw [List.flatMap_cons, List.length_append, List.length_cons]
    have : (slOf p).length ≤ 3 := by rw [slOf, List.length_map]; exact lc3_le _
    omega
theorem SlsOk.len {d : Dmn} (h : SlsOk d) (hp : d.peers.length ≤ 3) : d.slots.length ≤ 9 := by
  have h1 := h.pm.length_eq
  have h2 := flat_le (l := d.peers)
  omega
theorem SlsOk.find {d : Dmn} (h : SlsOk d) (hp : d.peers.length ≤ 3) {p : Per} (hm : p ∈ d.peers) {x : Int} (hx : x ∈ lc3 p.ring) :
    ARet Pg I.burrowref14_FindSlot [encSls d.slots, .int .u32 x] (.tup [encSl ⟨x, p.pub, true⟩, .bl true]) := by
  have hmem : (⟨x, p.pub, true⟩ : Slt) ∈ d.slots := by
    rw [h.pm.mem_iff, List.mem_flatMap]
    exact ⟨p, hm, by rw [slOf, List.mem_map]; exact ⟨x, hx, rfl⟩⟩
  obtain ⟨f, hf, he⟩ := List.mem_iff_getElem.1 hmem
  have hl := h.len hp
  have := FindSlot_yes (l := d.slots) (by omega) (x := x) hf (by rw [he]) (fun j hj hjf => by have := h.so.lt' hjf hf; rw [he] at this; simp at this; omega)
  rw [he] at this
  exact this
def cnt (l : List Per) (i : Nat) : Nat := ((l.take i).flatMap slOf).length
theorem cnt_succ {l : List Per} {i : Nat} (h : i < l.length) : cnt l (i + 1) = cnt l i + (lc3 l[i].ring).length := by
  unfold cnt
  rw [List.take_succ_eq_append_getElem h, List.flatMap_append, List.length_append]
  simp [slOf]
theorem cnt_le (l : List Per) (i : Nat) : cnt l i ≤ 3 * i := by
  have := flat_le (l := l.take i)
  rw [List.length_take] at this
  unfold cnt; omega
set_option maxRecDepth 10000 in
set_option maxHeartbeats 2000000 in
theorem slots_t {d : Dmn} (h : SlsOk d) (hp : PksOk d.peers) (hh : ∀ p ∈ d.peers, PerOk d p) : ARet Pg I.burrowref24_slots [encD d] (.bl true) := by
  refine ACalls.intro T.burrowref24_slots (by simp [F.burrowref24_slots]) ?_
  have hl := h.len hp.1
  have hpl := hp.1
  have hv := ValidSlots (by omega) h.so
  simp [F.burrowref24_slots, argEnv, fpBx]
  refine callS.ret hv (by simp) (by simp) (by simp) ?_
  simp
  refine LpS.rng d.peers.length (fun _ => True) [1, 2, 3, 22, 23, 24] (fun i => [(3, .int .i64 (cnt d.peers i)), (24, .int .i64 i)]) (fun i => []) [.keep [1, 2, 3, 22, 23, 24]] ?_
  simp [show cnt d.peers 0 = 0 from rfl]
  refine ⟨fun i hi K hK => ?_, fun K => ?_⟩
  · have hx : d.peers[i]? = some d.peers[i] := List.getElem?_eq_getElem hi
    have hm := List.getElem_mem hi
    have h5 := (hh _ hm).hand
    have h6 : d.peers[i].hand.has = false := by rw [h5]; rfl
    have hnd := h.nd1 hm
    have hfn : ∀ x ∈ lc3 d.peers[i].ring, ARet Pg I.burrowref14_FindSlot [encSls d.slots, .int .u32 x] (.tup [encSl ⟨x, d.peers[i].pub, true⟩, .bl true]) := fun x hx => h.find hpl hm hx
    have hLc := burrowref22_Locals d.peers[i].ring
    have hc := cnt_succ hi
    have hcl := cnt_le d.peers i
    have hl3 := lc3_le d.peers[i].ring
    have e3 : lcl [d.peers[i].ring.p, d.peers[i].ring.c, d.peers[i].ring.n] = lc3 d.peers[i].ring := rfl
    rw [e3] at hLc
    generalize lc3 d.peers[i].ring = L at *
    rw [hc] at hK
    simp [F.burrowref24_slotsl6, hx, hi, h6]
    refine callS.ret hLc (by simp) (by simp) (by simp) ?_
    simp
    refine LpS.rng L.length (fun _ => True) [1, 2, 3, 5, 22, 23, 24, 57, 58, 59] (fun j => [(3, .int .i64 ((cnt d.peers i : Int) + j)), (59, .int .i64 j)]) (fun i => []) [.keep [1, 2, 3, 5, 22, 23, 24, 57, 58, 59]] ?_
    simp
    refine ⟨fun j hj K2 hK2 => ?_, fun K2 => ?_⟩
    · have hy : L[j]? = some L[j] := List.getElem?_eq_getElem hj
      have hf := hfn _ (List.getElem_mem hj)
      have hw3 : IntKind.i64.wrap ((cnt d.peers i : Int) + j + 1) = (cnt d.peers i : Int) + ((j : Int) + 1) := by rw [wrap_i64 (by omega)]; omega
      simp [F.burrowref24_slotsl0, hy, hj]
      refine callS.ret hf (by simp) (by simp) (by simp) ?_
      simp [beq_K, hw3, wrapi hj (by omega)]
      refine ⟨[.keep [1, 2, 3, 5, 22, 23, 24, 57, 58, 59], .dr 10], ?_⟩
      simp
      exact hK2 _ (by simp)
    · simp [F.burrowref24_slotsl0, F.burrowref24_slotsc4]
      refine callS.ret hLc (by simp) (by simp) (by simp) ?_
      simp
      refine LpS.rng L.length (fun _ => True) [1, 2, 3, 5, 12, 22, 23, 24, 90, 91, 92] (fun j => [(92, .int .i64 j)]) (fun i => []) [.keep [1, 2, 3, 5, 12, 22, 23, 24, 90, 91, 92]] ?_
      simp
      refine ⟨fun j hj K3 hK3 => ?_, fun K3 => ?_⟩
      · have hy : L[j]? = some L[j] := List.getElem?_eq_getElem hj
        simp [F.burrowref24_slotsl3, hy, hj, encU, show j ≤ L.length by omega]
        refine LpS.rng j (fun _ => True) [1, 2, 3, 5, 12, 14, 22, 23, 24, 90, 91, 92, 99, 100, 101] (fun m => [(101, .int .i64 m)]) (fun i => []) [.keep [1, 2, 3, 5, 12, 14, 22, 23, 24, 90, 91, 92, 99, 100, 101]] ?_
        simp
        refine ⟨fun m hm2 K4 hK4 => ?_, fun K4 => ?_⟩
        · have hml : m < L.length := by omega
          have hm' : m < min j L.length := by omega
          have hxm : L[m]? = some L[m] := List.getElem?_eq_getElem hml
          have hne : ¬ L[j] = L[m] := by
            intro e
            exact List.pairwise_iff_getElem.1 (List.nodup_iff_pairwise_ne.1 hnd) m j hml hj hm2 e.symm
          simp [F.burrowref24_slotsl1, hxm, hm2, hm', hml, hne, wrapi hm2 (by omega)]
          refine ⟨[.keep [1, 2, 3, 5, 12, 14, 22, 23, 24, 90, 91, 92, 99, 100, 101]], ?_⟩
          simp
          exact hK4 _ (by simp)
        · simp [F.burrowref24_slotsl1, F.burrowref24_slotsc2, wrapi hj (by omega)]
          refine ⟨[.keep [1, 2, 3, 5, 12, 22, 23, 24, 90, 91, 92]], ?_⟩
          simp
          exact hK3 _ (by simp [encU])
      · simp [F.burrowref24_slotsl3, F.burrowref24_slotsc5, wrapi hi (by omega)]
        refine ⟨[.keep [1, 2, 3, 22, 23, 24], .dr 5], ?_⟩
        simp
        exact hK _ (by simp)
  · have hcn : cnt d.peers d.peers.length = d.slots.length := by
      unfold cnt; rw [List.take_length]; exact h.pm.length_eq.symm
    simp [F.burrowref24_slotsl6, F.burrowref24_slotsc7, hcn]
    refine RetS.plain [] ?_
    simp
end Go.Ab
