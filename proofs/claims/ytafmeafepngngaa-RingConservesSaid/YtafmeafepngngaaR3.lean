/- No session is lost: the law's body. -/
import Derived.Test.YtafmeafepngngaaR2
set_option linter.all false
namespace Go.Ab
open Go.Ab

def ses (i : Nat) : Ses := { S0 with loc := 100 + i }
def allL (r : Rng) : List Int := locs [r.p, r.c, r.n]
/-- one call: the ring behind it, what was added, what was dropped -/
def one (r : Rng) (i x : Nat) : Rng × List Int × List Int :=
  if x % 3 = 0 then ((bgn r (ses i)).1, [100 + (i : Int)], (bgn r (ses i)).2)
  else if x % 3 = 1 then ((ans r (ses i)).1, [100 + (i : Int)], (ans r (ses i)).2)
  else match (allL r).getLast? with
    | some y => ((cnf r y).1, [], (cnf r y).2.2)
    | none => (r, [], [])
def sts (l : List UInt8) : Nat → Rng
  | 0 => R0
  | i + 1 => (one (sts l i) i ((l[i]?).getD 0).toNat).1

theorem locs_cons (p : Plc) (l : List Plc) : locs (p :: l) = (if p.has = true then [p.ses.loc] else []) ++ locs l := by
  by_cases h : p.has = true <;> simp [locs, h]
theorem locs_nil : locs [] = [] := rfl
theorem cons_bgn (r : Rng) (s : Ses) (y : Int) : cnt y [allL r, [s.loc]] = cnt y [allL (bgn r s).1, (bgn r s).2] := by
  by_cases h : r.n.has = true <;> by_cases h1 : r.p.has = true <;> by_cases h2 : r.c.has = true <;>
    simp [bgn, h, h1, h2, cnt, allL, locs_cons, locs_nil, kept, P0, List.count_cons] <;> omega
theorem cons_ans (r : Rng) (s : Ses) (y : Int) : cnt y [allL r, [s.loc]] = cnt y [allL (ans r s).1, (ans r s).2] := by
  by_cases h : r.n.has = true <;> by_cases h1 : r.p.has = true <;> by_cases h2 : r.c.has = true <;>
    simp [ans, h, h1, h2, cnt, allL, locs_cons, locs_nil, kept, P0, List.count_cons] <;> omega
theorem cons_cnf (r : Rng) (x : Int) (y : Int) : cnt y [allL r, []] = cnt y [allL (cnf r x).1, (cnf r x).2.2] := by
  by_cases h : r.n.has = true ∧ r.n.ses.loc = x
  · by_cases h1 : r.p.has = true <;> by_cases h2 : r.c.has = true <;>
      simp [cnf, h, h1, h2, cnt, allL, locs_cons, locs_nil, kept, P0, List.count_cons] <;> omega
  · simp [cnf, h]
theorem cons_one (r : Rng) (i x : Nat) (y : Int) : cnt y [allL r, (one r i x).2.1] = cnt y [allL (one r i x).1, (one r i x).2.2] := by
  unfold one
  split
  · exact cons_bgn r (ses i) y
  · split
    · exact cons_ans r (ses i) y
    · split
      · exact cons_cnf r _ y
      · rfl
theorem allL_len (r : Rng) : (allL r).length ≤ 3 := locs_len [r.p, r.c, r.n]
theorem dr_len (r : Rng) (i x : Nat) : (one r i x).2.2.length ≤ 3 ∧ (one r i x).2.1.length ≤ 1 := by
  unfold one bgn ans cnf
  have h1 := locs_len [r.p, r.c]
  have h2 := locs_len [r.p]
  have h3 := locs_len [r.p, r.n]
  simp at h1 h2 h3
  split
  · split <;> simp <;> omega
  · split
    · simp; omega
    · split
      · split <;> simp; omega
      · simp
end Go.Ab
