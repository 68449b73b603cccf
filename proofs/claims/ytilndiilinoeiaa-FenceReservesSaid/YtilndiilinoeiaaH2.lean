/- Adding peers keeps a made daemon valid. No program in sight. -/
import Derived.Test.YtilndiilinoeiaaH1
set_option linter.all false
namespace Go.Ab
open Go.Ab
/-- a made daemon with i peers ahead of its sessions -/
structure VP (d : Dmn) (i : Nat) : Prop where
  vm : VM d i
  sl : d.slots = []
  len : d.peers.length = i
  rg : ∀ p ∈ d.peers, slOf p = []
def addP (d : Dmn) (p : Per) (i : Nat) (T : List Tmr) : Dmn := { d with peers := d.peers ++ [p], routes := d.routes ++ [rt i], timers := T }
theorem VP.add {d : Dmn} {i : Nat} (h : VP d i) (hi : i < 3) {p : Per} (hp : PerOk d p) (hk : p.pub = kOf i) (hr : slOf p = []) {T : List Tmr}
    (hT : T = d.timers ∨ ∃ a, d.now < a ∧ a ≤ 4398046511104 ∧ p.kal ≠ 0 ∧ T = setT d.timers ⟨a, kOf i, 4⟩) : VP (addP d p i T) (i + 1) := by
  obtain ⟨⟨v, t⟩, hsl, hlen, hrg⟩ := h
  have hlen' : (addP d p i T).peers.length = i + 1 := by show (d.peers ++ [p]).length = i + 1; simp [hlen]
  have hget : ∀ (j : Nat) (hj : j < d.peers.length) (hj' : j < (addP d p i T).peers.length), (addP d p i T).peers[j] = d.peers[j] := by
    intro j hj hj'
    show (d.peers ++ [p])[j] = d.peers[j]
    exact List.getElem_append_left hj
  have hlast : ∀ (hj' : i < (addP d p i T).peers.length), (addP d p i T).peers[i] = p := by
    intro hj'
    have : (d.peers ++ [p])[d.peers.length]'(by simp) = p := by simp
    show (d.peers ++ [p])[i]'(by simpa [hlen] using hj') = p
    simp only [← hlen, List.getElem_concat_length]
  have t0 : TisOk' (addP d p i T) d.timers i := by
    obtain ⟨a, b, c, e⟩ := t
    refine ⟨a, fun x hx => ?_, c, e⟩
    obtain ⟨r1, r2, r3, r4, j, hj, r5, r6⟩ := b x hx
    exact ⟨r1, r2, r3, r4, j, by rw [hlen']; omega, r5, fun hk => by rw [hget j hj]; exact r6 hk⟩
  have t1 : TisOk' (addP d p i T) (addP d p i T).timers (i + 1) := by
    show TisOk' (addP d p i T) T (i + 1)
    rcases hT with rfl | ⟨a, a1, a2, a3, e⟩
    · obtain ⟨a, b, c, e⟩ := t0
      exact ⟨a, b, c, by omega⟩
    · have := t0.set (by rw [hlen']; omega) (t := ⟨a, kOf i, 4⟩) (by show (2 : Int) ≤ 4; omega) (by show (4 : Int) ≤ 5; omega) a1 a2 (i := i) (by rw [hlen']; omega) rfl (fun _ => by rw [hlast]; exact a3)
      rw [← e] at this
      exact this
  have hrg' : ∀ q ∈ (addP d p i T).peers, slOf q = [] := by
    intro q hq
    rcases List.mem_append.1 (show q ∈ d.peers ++ [p] from hq) with hq | hq
    · exact hrg q hq
    · rw [List.mem_singleton.1 hq]; exact hr
  refine ⟨⟨?_, t1⟩, hsl, hlen', hrg'⟩
  constructor
  · exact v.ru
  · exact v.n0
  · exact v.n1
  · exact v.p0
  · exact v.p1
  · exact v.bad
  · refine ⟨by rw [hlen']; omega, fun j hj => ?_⟩
    rw [hlen'] at hj
    by_cases e : j < d.peers.length
    · rw [hget j e]; exact v.pks.2 j e
    · have : j = i := by omega
      subst this
      rw [hlast]; exact hk
  · intro q hq
    refine PerOk.of (d := d) (e := addP d p i T) rfl rfl ?_
    rcases List.mem_append.1 (show q ∈ d.peers ++ [p] from hq) with hq | hq
    · exact v.per q hq
    · rw [List.mem_singleton.1 hq]; exact hp
  · have hrl := v.rtl
    refine ⟨?_, fun j hj => ?_⟩
    · show (d.routes ++ [rt i]).length ≤ 3; simp; omega
    · have hj2 : j < (d.routes ++ [rt i]).length := hj
      show (d.routes ++ [rt i])[j] = rt j
      by_cases e : j < d.routes.length
      · rw [List.getElem_append_left e]; exact v.rts.2 j e
      · have : j = d.routes.length := by simp at hj2; omega
        have h2 : j = i := by omega
        rw [List.getElem_append_right (by omega)]
        simp [h2]
  · show (d.routes ++ [rt i]).length = (d.peers ++ [p]).length
    have hrl := v.rtl
    simp; omega
  · constructor
    · show SortS d.slots; exact v.sls.so
    · show d.slots.Perm ((d.peers ++ [p]).flatMap slOf)
      rw [hsl]
      have : (d.peers ++ [p]).flatMap slOf = [] := by
        rw [List.flatMap_eq_nil_iff]
        exact hrg'
      rw [this]
  · exact t1.toT (by omega)
  · exact v.s0
  · exact v.s1
  · exact v.rcn
  · exact v.buc
end Go.Ab
