/- A reckoning that finds that a function returns a value of a shape. No condition. -/
import Derived.Test.YtdfkcobijmbidaaGreatA5
import Derived.Test.YtdfkcobijmbidaaGreatA4
set_option linter.all false
namespace Go.Ab
inductive AV where
  | un
  | no
  | bl (b : Option Bool)
  | int (k : IntKind) (n : Option Int)
  | str (l : List UInt8)
  | st (w : Nat) (l : List AV)
  | ar (sz n : Nat) (l : List AV)
  | tup (l : List AV)
  | sl (sz : Nat) (l : List AV) (c : Bool)
  | rs (k : Nat) (p : List Step) (off len tot sz : Nat) (c : CapK)
  | pt (k : Nat) (p : List Step) (tot : Nat)
  | fp (sz : Nat) (l : List AV) (p : List Step)
  | np
  | gd (b : Bool) (v : AV)
  deriving Inhabited
mutual
def gm : AV → PV → Prop
  | .un, _ => True
  | .no, v => v = .un
  | .bl b, .bl x => ∀ y, b = some y → x = y
  | .int k n, .int k' m => k' = k ∧ ∀ y, n = some y → m = y
  | .str l, .str m => m = l
  | .st w l, .st w' m => w' = w ∧ gmL l m
  | .ar sz n l, .ar sz' n' m => (sz' = sz ∧ n' = n) ∧ gmL l m
  | .tup l, .tup m => gmL l m
  | .sl sz l c, .sl sz' m c' => (sz' = sz ∧ c' = c) ∧ gmL l m
  | .rs k p off len tot sz c, v => v = .rs k p off len tot sz c
  | .pt k p tot, v => v = .pt k p tot
  | .fp sz l p, .fp sz' m p' => (sz' = sz ∧ p' = p) ∧ gmL l m
  | .np, v => v = .np
  | .gd b v, .gd b' p => b' = b ∧ gm v p
  | _, _ => False
def gmL : List AV → List PV → Prop
  | [], [] => True
  | a :: l, p :: m => gm a p ∧ gmL l m
  | _, _ => False
end
theorem gmL.length : ∀ {l : List AV} {m : List PV}, gmL l m → m.length = l.length
  | [], [], _ => rfl
  | [], _ :: _, h => by simp [gmL] at h
  | _ :: _, [], h => by simp [gmL] at h
  | a :: l, p :: m, h => by simp only [gmL] at h; simp [gmL.length h.2]
theorem gmL.at : ∀ {l : List AV} {m : List PV} {i : Nat} {a : AV}, gmL l m → l[i]? = some a → ∃ p, m[i]? = some p ∧ gm a p
  | [], _, i, a, _, h => by simp at h
  | _ :: _, [], _, _, h, _ => by simp [gmL] at h
  | b :: l, p :: m, 0, a, h, ha => by simp at ha; subst ha; simp only [gmL] at h; exact ⟨p, rfl, h.1⟩
  | b :: l, p :: m, i + 1, a, h, ha => by simp only [gmL] at h; simp at ha; simpa using gmL.at h.2 ha
theorem gmL.set : ∀ {l : List AV} {m : List PV} {i : Nat} {a : AV} {p : PV}, gmL l m → gm a p → gmL (l.set i a) (m.set i p)
  | [], [], _, _, _, _, _ => by simp [gmL]
  | [], _ :: _, _, _, _, h, _ => by simp [gmL] at h
  | _ :: _, [], _, _, _, h, _ => by simp [gmL] at h
  | b :: l, q :: m, 0, a, p, h, ha => by simp only [gmL] at h; simp [gmL, ha, h.2]
  | b :: l, q :: m, i + 1, a, p, h, ha => by simp only [gmL] at h; simp [gmL, h.1, gmL.set h.2 ha]
theorem gmL.take : ∀ {l : List AV} {m : List PV} (i : Nat), gmL l m → gmL (l.take i) (m.take i)
  | [], [], _, _ => by simp [gmL]
  | [], _ :: _, _, h => by simp [gmL] at h
  | _ :: _, [], _, h => by simp [gmL] at h
  | b :: l, q :: m, 0, h => by simp [gmL]
  | b :: l, q :: m, i + 1, h => by simp only [gmL] at h; simp [gmL, h.1, gmL.take i h.2]
theorem gmL.drop : ∀ {l : List AV} {m : List PV} (i : Nat), gmL l m → gmL (l.drop i) (m.drop i)
  | [], [], _, _ => by simp [gmL]
  | [], _ :: _, _, h => by simp [gmL] at h
  | _ :: _, [], _, h => by simp [gmL] at h
  | b :: l, q :: m, 0, h => by simpa using h
  | b :: l, q :: m, i + 1, h => by simp only [gmL] at h; simpa using gmL.drop i h.2
theorem gmL.append : ∀ {l : List AV} {m : List PV} {l' : List AV} {m' : List PV}, gmL l m → gmL l' m' → gmL (l ++ l') (m ++ m')
  | [], [], _, _, _, h => by simpa using h
  | [], _ :: _, _, _, h, _ => by simp [gmL] at h
  | _ :: _, [], _, _, h, _ => by simp [gmL] at h
  | b :: l, q :: m, _, _, h, h' => by simp only [gmL] at h; simp [gmL, h.1, gmL.append h.2 h']
theorem gmL.rep {a : AV} {p : PV} (h : gm a p) : ∀ n, gmL (List.replicate n a) (List.replicate n p)
  | 0 => by simp [gmL]
  | n + 1 => by simp [List.replicate_succ, gmL, h, gmL.rep h n]
def AV.width : AV → Option Nat
  | .un => none
  | .st w _ => some w
  | .ar sz n _ => some (n * sz)
  | _ => some 1
def AV.agg : AV → Option Bool
  | .un => none
  | .st .. | .ar .. => some true
  | _ => some false
def AV.cel : AV → Bool
  | .un | .no | .tup _ | .gd .. => false
  | _ => true
def awL : List AV → Option Nat
  | [] => some 0
  | a :: l => match a.width, awL l with | some x, some y => some (x + y) | _, _ => none
theorem gm.width {a : AV} {p : PV} (h : gm a p) {w : Nat} (hw : a.width = some w) : p.width = w := by
  cases a <;> simp [AV.width] at hw <;> subst hw <;> cases p <;> simp [gm] at h <;> simp [PV.width, h]
theorem gm.agg {a : AV} {p : PV} (h : gm a p) {w : Bool} (hw : a.agg = some w) : p.isAgg = w := by
  cases a <;> simp [AV.agg] at hw <;> subst hw <;> cases p <;> simp [gm] at h <;> simp [PV.isAgg]
theorem gm.cel {a : AV} {p : PV} (h : gm a p) (hw : a.cel = true) : p.cellular = true := by
  cases a <;> simp [AV.cel] at hw <;> cases p <;> simp [gm] at h <;> simp [PV.cellular]
theorem gmL.widths : ∀ {l : List AV} {m : List PV} {w : Nat}, gmL l m → awL l = some w → widths m = w
  | [], [], w, _, h => by simp [awL] at h; subst h; rfl
  | [], _ :: _, _, h, _ => by simp [gmL] at h
  | _ :: _, [], _, h, _ => by simp [gmL] at h
  | a :: l, p :: m, w, h, hw => by
    simp only [gmL] at h
    simp only [awL] at hw
    split at hw <;> simp only [Option.some.injEq, reduceCtorEq] at hw
    rename_i x y h1 h2
    subst hw
    simp only [Ab.widths, h.1.width h1, gmL.widths h.2 h2]
def getA : AV → List Step → Option AV
  | v, [] => some v
  | .st _ l, .f i o :: r => if awL (l.take i) = some o then (match l[i]? with | some c => getA c r | none => none) else none
  | .ar sz _ l, .i j s :: r => if s = sz then (match l[j]? with | some c => getA c r | none => none) else none
  | .ar sz _ l, .w o n s :: r => if s = sz ∧ o + n ≤ l.length then getA (.ar sz n ((l.drop o).take n)) r else none
  | _, _ => none
def setA : AV → List Step → AV → Option AV
  | v, [], x => match x.width, v.width with | some a, some b => if a = b then some x else none | _, _ => none
  | .st w l, .f i o :: r, x => if awL (l.take i) = some o then (match l[i]? with | some c => (match setA c r x with | some c' => some (.st w (l.set i c')) | none => none) | none => none) else none
  | .ar sz n l, .i j s :: r, x => if s = sz then (match l[j]? with | some c => (match setA c r x with | some c' => some (.ar sz n (l.set j c')) | none => none) | none => none) else none
  | _, _, _ => none
theorem getA_gm : ∀ {r : List Step} {a b : AV} {p : PV}, gm a p → getA a r = some b → ∃ q, getP p r = some q ∧ gm b q
  | [], a, b, p, h, hb => by
    have : getA a [] = some a := by cases a <;> rfl
    rw [this] at hb
    cases hb
    exact ⟨p, by cases p <;> rfl, h⟩
  | .f i o :: r, a, b, p, h, hb => by
    cases a <;> simp only [getA, reduceCtorEq] at hb
    rename_i w l
    split at hb
    · rename_i ho
      split at hb
      · rename_i c hc
        cases p <;> simp only [gm] at h
        rename_i w' m
        obtain ⟨q, hq, hg⟩ := h.2.at hc
        obtain ⟨x, hx, hgx⟩ := getA_gm hg hb
        refine ⟨x, ?_, hgx⟩
        simp only [getP, (h.2.take i).widths ho, if_true, hq, hx]
      · simp at hb
    · simp at hb
  | .i j s :: r, a, b, p, h, hb => by
    cases a <;> simp only [getA, reduceCtorEq] at hb
    rename_i sz n l
    split at hb
    · rename_i ho
      split at hb
      · rename_i c hc
        cases p <;> simp only [gm] at h
        rename_i sz' n' m
        obtain ⟨q, hq, hg⟩ := h.2.at hc
        obtain ⟨x, hx, hgx⟩ := getA_gm hg hb
        refine ⟨x, ?_, hgx⟩
        simp only [getP, h.1.1, ho, if_true, hq, hx]
      · simp at hb
    · simp at hb
  | .w o n s :: r, a, b, p, h, hb => by
    cases a <;> simp only [getA, reduceCtorEq] at hb
    rename_i sz n0 l
    split at hb
    · rename_i ho
      cases p <;> simp only [gm] at h
      rename_i sz' n' m
      have hl := h.2.length
      obtain ⟨x, hx, hgx⟩ := getA_gm (p := .ar sz' n ((m.drop o).take n)) (by simp only [gm]; exact ⟨⟨h.1.1, trivial⟩, (h.2.drop o).take n⟩) hb
      refine ⟨x, ?_, hgx⟩
      simp only [getP]
      rw [if_pos ⟨by rw [h.1.1]; exact ho.1, by omega⟩]
      exact hx
    · simp at hb
theorem setA_gm : ∀ {r : List Step} {a x b : AV} {p q : PV}, gm a p → gm x q → setA a r x = some b → ∃ p', setP p r q = some p' ∧ gm b p'
  | [], a, x, b, p, q, h, hx, hb => by
    have e : setA a [] x = match x.width, a.width with | some u, some v => if u = v then some x else none | _, _ => none := by cases a <;> rfl
    rw [e] at hb
    split at hb
    · rename_i u v h1 h2
      split at hb <;> simp only [Option.some.injEq, reduceCtorEq] at hb
      subst hb
      rename_i huv
      refine ⟨q, ?_, hx⟩
      have e2 : setP p [] q = if q.width = p.width then some q else none := by cases p <;> rfl
      rw [e2, hx.width h1, h.width h2, if_pos huv]
    · simp at hb
  | .f i o :: r, a, x, b, p, q, h, hx, hb => by
    cases a <;> simp only [setA, reduceCtorEq] at hb
    rename_i w l
    split at hb
    · rename_i ho
      split at hb
      · rename_i c hc
        split at hb <;> simp only [Option.some.injEq, reduceCtorEq] at hb
        rename_i c' hc'
        subst hb
        cases p <;> simp only [gm] at h
        rename_i w' m
        obtain ⟨y, hy, hg⟩ := h.2.at hc
        obtain ⟨z, hz, hgz⟩ := setA_gm hg hx hc'
        refine ⟨.st w' (m.set i z), ?_, ?_⟩
        · simp only [setP, (h.2.take i).widths ho, if_true, hy, hz]
        · simp only [gm]; exact ⟨h.1, h.2.set hgz⟩
      · simp at hb
    · simp at hb
  | .i j s :: r, a, x, b, p, q, h, hx, hb => by
    cases a <;> simp only [setA, reduceCtorEq] at hb
    rename_i sz n l
    split at hb
    · rename_i ho
      split at hb
      · rename_i c hc
        split at hb <;> simp only [Option.some.injEq, reduceCtorEq] at hb
        rename_i c' hc'
        subst hb
        cases p <;> simp only [gm] at h
        rename_i sz' n' m
        obtain ⟨y, hy, hg⟩ := h.2.at hc
        obtain ⟨z, hz, hgz⟩ := setA_gm hg hx hc'
        refine ⟨.ar sz' n' (m.set j z), ?_, ?_⟩
        · simp only [setP, h.1.1, ho, if_true, hy, hz]
        · simp only [gm]; exact ⟨h.1, h.2.set hgz⟩
      · simp at hb
    · simp at hb
  | .w o n s :: r, a, x, b, p, q, h, hx, hb => by cases a <;> simp [setA] at hb
inductive AB where
  | box (v : AV)
  | arr (sz : Nat) (l : List AV)
def AB.tot : AB → Nat
  | .box _ => 0
  | .arr _ l => l.length
def gB : AB → Blk → Prop
  | .box a, .box p => gm a p
  | .arr sz l, .arr sz' m => sz' = sz ∧ gmL l m
  | _, _ => False
theorem gB.tot {a : AB} {b : Blk} (h : gB a b) : b.tot = a.tot := by
  cases a <;> cases b <;> simp only [gB] at h
  · rfl
  · exact h.2.length
def getAB : AB → List Step → Option AV
  | .box v, p => getA v p
  | .arr sz l, .i j s :: r => if s = sz then (match l[j]? with | some c => getA c r | none => none) else none
  | .arr sz l, .w o n s :: r => if s = sz ∧ o + n ≤ l.length then getA (.ar sz n ((l.drop o).take n)) r else none
  | .arr _ _, _ => none
def setAB : AB → List Step → AV → Option AB
  | .box v, p, x => match setA v p x with | some v' => some (.box v') | none => none
  | .arr sz l, .i j s :: r, x => if s = sz then (match l[j]? with | some c => (match setA c r x with | some c' => some (.arr sz (l.set j c')) | none => none) | none => none) else none
  | .arr _ _, _, _ => none
theorem getAB_gm {r : List Step} {a : AB} {b : AV} {p : Blk} (h : gB a p) (hb : getAB a r = some b) : ∃ q, getB p r = some q ∧ gm b q := by
  cases a <;> cases p <;> simp only [gB] at h
  · obtain ⟨q, h1, h2⟩ := getA_gm h (by simpa only [getAB] using hb)
    exact ⟨q, by simpa only [getB] using h1, h2⟩
  · match r, hb with
    | [], hb => simp [getAB] at hb
    | .f _ _ :: _, hb => simp [getAB] at hb
    | .i j s :: r, hb =>
      simp only [getAB] at hb
      split at hb
      · rename_i ho
        split at hb
        · rename_i c hc
          obtain ⟨q, hq, hg⟩ := h.2.at hc
          obtain ⟨x, hx, hgx⟩ := getA_gm hg hb
          exact ⟨x, by simp only [getB, h.1, ho, if_true, hq, hx], hgx⟩
        · simp at hb
      · simp at hb
    | .w o n s :: r, hb =>
      simp only [getAB] at hb
      split at hb
      · rename_i sz l sz' m ho
        have hl := h.2.length
        obtain ⟨x, hx, hgx⟩ := getA_gm (p := .ar sz' n ((m.drop o).take n)) (by simp only [gm]; exact ⟨⟨h.1, trivial⟩, (h.2.drop o).take n⟩) hb
        refine ⟨x, ?_, hgx⟩
        simp only [getB]
        rw [if_pos ⟨by rw [h.1]; exact ho.1, by omega⟩]
        exact hx
      · simp at hb
theorem setAB_gm {r : List Step} {a b : AB} {x : AV} {q : PV} {p : Blk} (h : gB a p) (hx : gm x q) (hb : setAB a r x = some b) : ∃ p', setB p r q = some p' ∧ gB b p' := by
  cases a <;> cases p <;> simp only [gB] at h
  · simp only [setAB] at hb
    split at hb <;> simp only [Option.some.injEq, reduceCtorEq] at hb
    rename_i v' hv
    subst hb
    obtain ⟨z, h1, h2⟩ := setA_gm h hx hv
    exact ⟨.box z, by simp only [setB, h1], h2⟩
  · match r, hb with
    | [], hb => simp [setAB] at hb
    | .f _ _ :: _, hb => simp [setAB] at hb
    | .w _ _ _ :: _, hb => simp [setAB] at hb
    | .i j s :: r, hb =>
      simp only [setAB] at hb
      split at hb
      · rename_i ho
        split at hb
        · rename_i c hc
          split at hb <;> simp only [Option.some.injEq, reduceCtorEq] at hb
          rename_i c' hc'
          subst hb
          obtain ⟨y, hy, hg⟩ := h.2.at hc
          obtain ⟨z, hz, hgz⟩ := setA_gm hg hx hc'
          refine ⟨_, by simp only [setB, h.1, ho, if_true, hy, hz]; rfl, ?_⟩
          simp [gB, h.1, h.2.set hgz]
        · simp at hb
      · simp at hb
mutual
def ofP : PV → AV
  | .bl b => .bl (some b)
  | .int k n => .int k (some n)
  | .str l => .str l
  | .st w l => .st w (ofPL l)
  | .ar sz n l => .ar sz n (ofPL l)
  | .sl sz l c => .sl sz (ofPL l) c
  | .np => .np
  | _ => .un
def ofPL : List PV → List AV
  | [] => []
  | p :: l => ofP p :: ofPL l
end
mutual
theorem gm_ofP : ∀ p : PV, gm (ofP p) p
  | .bl b => by simp [ofP, gm]
  | .int k n => by simp [ofP, gm]
  | .str l => by simp [ofP, gm]
  | .st w l => by simp [ofP, gm, gmL_ofPL l]
  | .ar sz n l => by simp [ofP, gm, gmL_ofPL l]
  | .sl sz l c => by simp [ofP, gm, gmL_ofPL l]
  | .np => by simp [ofP, gm]
  | .un | .tup _ | .rs .. | .pt .. | .fp .. | .fn .. | .nf | .gd .. | .ifc .. | .ni | .mp .. => by simp [ofP, gm]
theorem gmL_ofPL : ∀ l : List PV, gmL (ofPL l) l
  | [] => by simp [ofPL, gmL]
  | p :: l => by simp [ofPL, gmL, gm_ofP p, gmL_ofPL l]
end
mutual
def AV.pure : AV → Bool
  | .bl _ | .int .. | .str _ | .np => true
  | .st _ l | .ar _ _ l | .sl _ l _ => pureA l
  | _ => false
def pureA : List AV → Bool
  | [] => true
  | a :: l => a.pure && pureA l
end
mutual
theorem gm.refs : ∀ {a : AV} {p : PV}, gm a p → a.pure = true → refsOk (fun _ => false) p = true
  | .bl _, p, h, _ => by cases p <;> simp [gm] at h <;> rfl
  | .int _ _, p, h, _ => by cases p <;> simp [gm] at h <;> rfl
  | .str _, p, h, _ => by cases p <;> simp [gm] at h <;> rfl
  | .np, p, h, _ => by simp only [gm] at h; subst h; rfl
  | .st _ l, p, h, hp => by
    cases p <;> simp only [gm] at h
    simp only [refsOk]; exact gmL.refs h.2 (by simpa [AV.pure] using hp)
  | .ar _ _ l, p, h, hp => by
    cases p <;> simp only [gm] at h
    simp only [refsOk]; exact gmL.refs h.2 (by simpa [AV.pure] using hp)
  | .sl _ l _, p, h, hp => by
    cases p <;> simp only [gm] at h
    simp only [refsOk]; exact gmL.refs h.2 (by simpa [AV.pure] using hp)
  | .un, _, _, hp | .no, _, _, hp | .tup _, _, _, hp | .rs .., _, _, hp | .pt .., _, _, hp | .fp .., _, _, hp | .gd .., _, _, hp => by simp [AV.pure] at hp
theorem gmL.refs : ∀ {l : List AV} {m : List PV}, gmL l m → pureA l = true → refsOkL (fun _ => false) m = true
  | [], [], _, _ => rfl
  | [], _ :: _, h, _ => by simp [gmL] at h
  | _ :: _, [], h, _ => by simp [gmL] at h
  | a :: l, p :: m, h, hp => by
    simp only [gmL] at h
    simp only [pureA, Bool.and_eq_true] at hp
    simp [refsOkL, h.1.refs hp.1, h.2.refs hp.2]
end
theorem gm.pureP [Tabs] {a : AV} {p : PV} (h : gm a p) (hp : a.pure = true) : Pure p := Pure.of (h.refs hp)
theorem gmL.pureL [Tabs] {l : List AV} {m : List PV} (h : gmL l m) (hp : pureA l = true) : PureL m := PureL.of (h.refs hp)
end Go.Ab
namespace Go.Ab
variable [Tabs]
variable {P : Program}
structure AS where
  env : List (Nat × AV)
  bx : List (Nat × AB)
def Srt {α : Type} : List (Nat × α) → Prop
  | [] => True
  | (k, _) :: r => (∀ j x, get r j = some x → k < j) ∧ Srt r
theorem Srt.put {α : Type} : ∀ {l : List (Nat × α)} (n : Nat) (x : α), Srt l → Srt (put l n x)
  | [], n, x, _ => by simp [Ab.put, Srt, get]
  | (k, v) :: r, n, x, h => by
    obtain ⟨h1, h2⟩ := h
    simp only [Ab.put]
    split
    · rename_i hk; subst hk; exact ⟨h1, h2⟩
    · split
      · rename_i hk hlt
        refine ⟨fun j y hj => ?_, h1, h2⟩
        simp only [get] at hj
        split at hj
        · omega
        · have := h1 j y hj; omega
      · rename_i hk hlt
        refine ⟨fun j y hj => ?_, h2.put n x⟩
        rw [get_put] at hj
        split at hj
        · omega
        · exact h1 j y hj
theorem Srt.mem {α : Type} : ∀ {l : List (Nat × α)} {k : Nat} {x : α}, Srt l → (k, x) ∈ l → get l k = some x
  | [], _, _, _, h => by simp at h
  | (k, v) :: r, n, x, hs, h => by
    rcases List.mem_cons.1 h with h | h
    · cases h; simp [get]
    · have := hs.2.mem h
      simp only [get]
      rw [if_neg, this]
      intro e
      have := hs.1 n x this
      omega
structure gS (σ : AS) (s : St) : Prop where
  env : ∀ k a, get σ.env k = some a → ∃ p, get s.env k = some p ∧ gm a p
  none : ∀ k, get σ.bx k = none → get s.bx k = none
  bx : ∀ k b, get σ.bx k = some b → ∃ blk, get s.bx k = some blk ∧ gB b blk
  se : Srt s.env
  sb : Srt s.bx
def AS.put (σ : AS) (d : Option Nat) (a : AV) : AS :=
  match d with
  | some d => { σ with env := Ab.put σ.env d a }
  | none => σ
theorem gS.put {σ : AS} {s : St} (h : gS σ s) (d : Option Nat) {a : AV} {p : PV} (ha : gm a p) : gS (σ.put d a) (s.put d p) := by
  cases d with
  | none => exact h
  | some d =>
    refine ⟨fun k b hb => ?_, h.none, h.bx, h.se.put _ _, h.sb⟩
    simp only [AS.put, get_put] at hb
    simp only [St.put, get_put]
    split at hb
    · rename_i e; cases hb; rw [if_pos e]; exact ⟨p, rfl, ha⟩
    · rename_i e; rw [if_neg e]; exact h.env k b hb
theorem gS.putB {σ : AS} {s : St} (h : gS σ s) (k : Nat) {b : AB} {blk : Blk} (hb : gB b blk) : gS { σ with bx := Ab.put σ.bx k b } { s with bx := Ab.put s.bx k blk } := by
  refine ⟨h.env, fun j hj => ?_, fun j c hc => ?_, h.se, h.sb.put _ _⟩
  · simp only [get_put] at hj ⊢
    split at hj
    · simp at hj
    · rename_i e; rw [if_neg e]; exact h.none j hj
  · simp only [get_put] at hc ⊢
    split at hc
    · rename_i e; cases hc; rw [if_pos e]; exact ⟨blk, rfl, hb⟩
    · rename_i e; rw [if_neg e]; exact h.bx j c hc
def vxA (σ : AS) : AX → Option AV
  | .t n => get σ.env n
  | .c p => some (ofP p)
theorem vxA_gm {σ : AS} {s : St} (h : gS σ s) {x : AX} {a : AV} (hx : vxA σ x = some a) : gm a (vx s x) := by
  cases x with
  | t n =>
    obtain ⟨p, h1, h2⟩ := h.env n a hx
    simp only [vx, h1, Option.getD_some]; exact h2
  | c p => simp only [vxA, Option.some.injEq] at hx; subst hx; exact gm_ofP p
def vgA (g : Bool) (σ : AS) (x : AX) : Option AV :=
  match vxA σ x with
  | some (.gd b v) => if g && !b then none else some v
  | some .un => none
  | r => r
theorem vgA_gm {σ : AS} {s : St} (h : gS σ s) {g : Bool} {x : AX} {a : AV} (hx : vgA g σ x = some a) : ∃ p, gm a p ∧ ∀ K : PV → Prop, K p → vg g s x K := by
  unfold vgA at hx
  split at hx
  · rename_i b v hv
    split at hx <;> simp only [Option.some.injEq, reduceCtorEq] at hx
    rename_i hb
    subst hx
    have := vxA_gm h hv
    unfold vg
    generalize vx s x = q at this
    cases q <;> simp only [gm] at this
    rename_i b' p
    refine ⟨p, this.2, fun K hK => ⟨fun hg => ?_, hK⟩⟩
    rw [this.1]
    cases b <;> simp_all
  · simp at hx
  · rename_i r h1 h2
    have := vxA_gm h hx
    refine ⟨vx s x, this, fun K hK => ?_⟩
    unfold vg
    generalize vx s x = q at this hK
    cases q <;> first | exact hK | skip
    cases a <;> simp only [gm] at this
    · exact absurd hx h2
    all_goals first | exact (h1 _ _ hx).elim | exact absurd this (by simp)
def vgsA (g : Bool) (σ : AS) : List AX → Option (List AV)
  | [] => some []
  | x :: r => match vgA g σ x, vgsA g σ r with | some a, some l => some (a :: l) | _, _ => none
theorem vgsA_gm {σ : AS} {s : St} (h : gS σ s) {g : Bool} : ∀ {xs : List AX} {l : List AV}, vgsA g σ xs = some l → ∃ ps, gmL l ps ∧ ∀ K : List PV → Prop, K ps → vgs g s xs K
  | [], l, hx => by simp only [vgsA, Option.some.injEq] at hx; subst hx; exact ⟨[], by simp [gmL], fun K hK => hK⟩
  | x :: r, l, hx => by
    simp only [vgsA] at hx
    split at hx <;> simp only [Option.some.injEq, reduceCtorEq] at hx
    rename_i a l' h1 h2
    subst hx
    obtain ⟨p, g1, g2⟩ := vgA_gm h h1
    obtain ⟨ps, g3, g4⟩ := vgsA_gm h h2
    exact ⟨p :: ps, by simp [gmL, g1, g3], fun K hK => g2 _ (g4 _ hK)⟩
def vgpA (g : Bool) (σ : AS) : List (Nat × AX) → Option (List (Nat × AV))
  | [] => some []
  | (i, x) :: r => match vgA g σ x, vgpA g σ r with | some a, some l => some ((i, a) :: l) | _, _ => none
def setPartsA : List AV → List (Nat × AV) → Option (List AV)
  | l, [] => some l
  | l, (i, p) :: r => match l[i]? with
    | some q => (match p.width, q.width with | some a, some b => if a = b ∧ p.cel = true then setPartsA (l.set i p) r else none | _, _ => none)
    | none => none
theorem vgpA_gm {σ : AS} {s : St} (h : gS σ s) {g : Bool} : ∀ {xs : List (Nat × AX)} {l : List (Nat × AV)}, vgpA g σ xs = some l → ∃ ps : List (Nat × PV), (ps.map (·.1) = l.map (·.1) ∧ gmL (l.map (·.2)) (ps.map (·.2))) ∧ ∀ K : List (Nat × PV) → Prop, K ps → vgp g s xs K
  | [], l, hx => by simp only [vgpA, Option.some.injEq] at hx; subst hx; exact ⟨[], by simp [gmL], fun K hK => hK⟩
  | (i, x) :: r, l, hx => by
    simp only [vgpA] at hx
    split at hx <;> simp only [Option.some.injEq, reduceCtorEq] at hx
    rename_i a l' h1 h2
    subst hx
    obtain ⟨p, g1, g2⟩ := vgA_gm h h1
    obtain ⟨ps, ⟨g3, g5⟩, g4⟩ := vgpA_gm h h2
    exact ⟨(i, p) :: ps, by simp [gmL, g1, g3, g5], fun K hK => g2 _ (g4 _ hK)⟩
theorem setPartsA_gm : ∀ {qs : List (Nat × AV)} {ps : List (Nat × PV)} {l l' : List AV} {m : List PV}, gmL l m → ps.map (·.1) = qs.map (·.1) → gmL (qs.map (·.2)) (ps.map (·.2)) → setPartsA l qs = some l' → ∃ m', setParts m ps = some m' ∧ gmL l' m'
  | [], [], l, l', m, h, _, _, hs => by simp only [setPartsA, Option.some.injEq] at hs; subst hs; exact ⟨m, rfl, h⟩
  | [], _ :: _, _, _, _, _, h, _, _ => by simp at h
  | _ :: _, [], _, _, _, _, h, _, _ => by simp at h
  | (i, a) :: qs, (j, p) :: ps, l, l', m, h, hi, hg, hs => by
    simp only [List.map_cons, List.cons.injEq, gmL] at hi hg
    obtain ⟨rfl, hi⟩ := hi
    simp only [setPartsA] at hs
    split at hs
    · rename_i q hq
      split at hs
      · rename_i x y h1 h2
        split at hs
        · rename_i hxy
          obtain ⟨q', h3, h4⟩ := h.at hq
          obtain ⟨m', h5, h6⟩ := setPartsA_gm (h.set hg.1) hi hg.2 hs
          refine ⟨m', ?_, h6⟩
          simp only [setParts, h3]
          rw [if_pos ⟨by rw [hg.1.width h1, h4.width h2]; exact hxy.1, hg.1.cel hxy.2⟩]
          exact h5
        · simp at hs
      · simp at hs
    · simp at hs
def onI (a b : Option Int) (f : Int → Int → Int) : Option Int := match a, b with | some x, some y => some (f x y) | _, _ => none
def onB (a b : Option Int) (f : Int → Int → Bool) : Option Bool := match a, b with | some x, some y => some (f x y) | _, _ => none
def binIA (op : BinOp) (k : IntKind) (a b : Option Int) : Option AV :=
  match op with
  | .add => some (.int k (onI a b fun x y => k.wrap (x + y)))
  | .sub => some (.int k (onI a b fun x y => k.wrap (x - y)))
  | .mul => some (.int k (onI a b fun x y => k.wrap (x * y)))
  | .quo => (match b with | some y => if y ≠ 0 then some (.int k (onI a b fun x y => k.wrap (x.tdiv y))) else none | none => none)
  | .rem => (match b with | some y => if y ≠ 0 then some (.int k (onI a b fun x y => x.tmod y)) else none | none => none)
  | .and => some (.int k (onI a b fun x y => bits .and k x y))
  | .or => some (.int k (onI a b fun x y => bits .or k x y))
  | .xor => some (.int k (onI a b fun x y => bits .xor k x y))
  | .andNot => some (.int k (onI a b fun x y => bits .andNot k x y))
  | .eql => some (.bl (onB a b fun x y => x == y))
  | .neq => some (.bl (onB a b fun x y => x != y))
  | .lss => some (.bl (onB a b fun x y => decide (x < y)))
  | .leq => some (.bl (onB a b fun x y => decide (x ≤ y)))
  | .gtr => some (.bl (onB a b fun x y => decide (x > y)))
  | .geq => some (.bl (onB a b fun x y => decide (x ≥ y)))
  | .shl => (match b with | some y => if 0 ≤ y then some (.int k (onI a b fun x y => k.wrap (x * 2 ^ min y.toNat k.bits))) else none | none => none)
  | .shr => (match b with | some y => if 0 ≤ y then some (.int k (onI a b fun x y => x.fdiv (2 ^ min y.toNat k.bits))) else none | none => none)
theorem onI_gm {a b : Option Int} {x y : Int} {f : Int → Int → Int} (ha : ∀ z, a = some z → x = z) (hb : ∀ z, b = some z → y = z) : ∀ z, onI a b f = some z → f x y = z := by
  intro z hz
  unfold onI at hz
  split at hz <;> simp only [Option.some.injEq, reduceCtorEq] at hz
  rw [← hz, ha _ rfl, hb _ rfl]
theorem onB_gm {a b : Option Int} {x y : Int} {f : Int → Int → Bool} (ha : ∀ z, a = some z → x = z) (hb : ∀ z, b = some z → y = z) : ∀ z, onB a b f = some z → f x y = z := by
  intro z hz
  unfold onB at hz
  split at hz <;> simp only [Option.some.injEq, reduceCtorEq] at hz
  rw [← hz, ha _ rfl, hb _ rfl]
theorem gm_int {k : IntKind} {a : Option Int} {x : Int} (h : ∀ z, a = some z → x = z) : gm (.int k a) (.int k x) := by simp only [gm, true_and]; exact h
theorem gm_bl {a : Option Bool} {x : Bool} (h : ∀ z, a = some z → x = z) : gm (.bl a) (.bl x) := by simp only [gm]; exact h
theorem binIA_gm {op : BinOp} {k : IntKind} {a b : Option Int} {x y : Int} {r : AV} (ha : ∀ z, a = some z → x = z) (hb : ∀ z, b = some z → y = z) (h : binIA op k a b = some r) : ∃ p, gm r p ∧ ∀ K : PV → Prop, K p → binI op k x y K := by
  cases op <;> simp only [binIA, Option.some.injEq] at h
  case quo | rem | shl | shr =>
    split at h
    · rename_i z
      split at h <;> simp only [Option.some.injEq, reduceCtorEq] at h
      rename_i hz
      subst h
      have := hb z rfl
      exact ⟨_, gm_int (onI_gm ha hb), fun K hK => ⟨by rw [this]; exact hz, hK⟩⟩
    · simp at h
  all_goals
    subst h
    first | exact ⟨_, gm_int (onI_gm ha hb), fun K hK => hK⟩ | exact ⟨_, gm_bl (onB_gm ha hb), fun K hK => hK⟩
mutual
def fitA : Sh → AV → Bool
  | .b, .bl _ => true
  | .i k, .int k' _ => decide (k = k')
  | .s, .str _ => true
  | .st l, .st w m => decide (w = shWL l) && fitAL l m
  | .ar n e, .ar sz k m => decide (sz = shW e ∧ k = n ∧ m.length = n) && fitAA e m
  | _, _ => false
def fitAL : List Sh → List AV → Bool
  | [], [] => true
  | x :: l, y :: m => fitA x y && fitAL l m
  | _, _ => false
def fitAA : Sh → List AV → Bool
  | _, [] => true
  | e, y :: m => fitA e y && fitAA e m
end
mutual
theorem fitA_gm : ∀ {x : Sh} {a : AV} {p : PV}, gm a p → fitA x a = true → fits x p = true
  | .b, a, p, h, hf => by cases a <;> simp [fitA] at hf; cases p <;> simp [gm] at h; rfl
  | .i k, a, p, h, hf => by cases a <;> simp [fitA] at hf; cases p <;> simp [gm] at h; simp [fits, hf, h.1]
  | .s, a, p, h, hf => by cases a <;> simp [fitA] at hf; cases p <;> simp [gm] at h; rfl
  | .st l, a, p, h, hf => by
    cases a <;> simp only [fitA, Bool.and_eq_true, decide_eq_true_eq, reduceCtorEq] at hf
    cases p <;> simp only [gm] at h
    simp [fits, h.1, hf.1, fitAL_gm h.2 hf.2]
  | .ar n e, a, p, h, hf => by
    cases a <;> simp only [fitA, Bool.and_eq_true, decide_eq_true_eq, reduceCtorEq] at hf
    cases p <;> simp only [gm] at h
    have hl := h.2.length
    simp [fits, h.1.1, h.1.2, hf.1.1, hf.1.2.1, hl, hf.1.2.2, fitAA_gm h.2 hf.2]
theorem fitAL_gm : ∀ {l : List Sh} {m : List AV} {ps : List PV}, gmL m ps → fitAL l m = true → fitsL l ps = true
  | [], [], [], _, _ => rfl
  | [], [], _ :: _, h, _ => by simp [gmL] at h
  | [], _ :: _, _, _, hf => by simp [fitAL] at hf
  | _ :: _, [], _, _, hf => by simp [fitAL] at hf
  | _ :: _, _ :: _, [], h, _ => by simp [gmL] at h
  | x :: l, y :: m, p :: ps, h, hf => by
    simp only [gmL] at h
    simp only [fitAL, Bool.and_eq_true] at hf
    simp [fitsL, fitA_gm h.1 hf.1, fitAL_gm h.2 hf.2]
theorem fitAA_gm : ∀ {e : Sh} {m : List AV} {ps : List PV}, gmL m ps → fitAA e m = true → fitsA e ps = true
  | _, [], [], _, _ => rfl
  | _, [], _ :: _, h, _ => by simp [gmL] at h
  | _, _ :: _, [], h, _ => by simp [gmL] at h
  | e, y :: m, p :: ps, h, hf => by
    simp only [gmL] at h
    simp only [fitAA, Bool.and_eq_true] at hf
    simp [fitsA, fitA_gm h.1 hf.1, fitAA_gm h.2 hf.2]
end
def binVA (op : BinOp) (eqs : ET) (p q : AV) : Option AV :=
  match eqs, p, q with
  | .no, .int k a, .int k' b => if op = .shl ∨ op = .shr ∨ k = k' then binIA op k a b else none
  | .bl, .bl a, .bl b => (match op with
    | .eql => some (.bl (match a, b with | some x, some y => some (x == y) | _, _ => none))
    | .neq => some (.bl (match a, b with | some x, some y => some (!(x == y)) | _, _ => none))
    | _ => none)
  | .sh x, p, q => if fitA x p = true ∧ fitA x q = true then (match op with | .eql | .neq => some (.bl none) | _ => none) else none
  | _, _, _ => none
theorem binVA_gm {s : St} {op : BinOp} {e : ET} {a b r : AV} {p q : PV} (ha : gm a p) (hb : gm b q) (h : binVA op e a b = some r) : ∃ v, gm r v ∧ ∀ K : PV → Prop, K v → binV s op e p q K := by
  unfold binVA at h
  split at h
  · rename_i k x k' y
    split at h <;> (try simp only [reduceCtorEq] at h)
    rename_i hk
    cases p <;> simp only [gm] at ha
    cases q <;> simp only [gm] at hb
    obtain ⟨v, h1, h2⟩ := binIA_gm ha.2 hb.2 h
    refine ⟨v, ?_, fun K hK => ⟨?_, ?_⟩⟩
    · exact h1
    · rw [ha.1, hb.1]; exact hk
    · rw [ha.1]; exact h2 K hK
  · rename_i x y
    cases p <;> simp only [gm] at ha
    cases q <;> simp only [gm] at hb
    rename_i u v
    split at h <;> simp only [Option.some.injEq, reduceCtorEq] at h
    · subst h
      refine ⟨.bl (u == v), fun z hz => ?_, fun K hK => hK⟩
      split at hz <;> simp only [Option.some.injEq, reduceCtorEq] at hz
      rw [← hz, ha _ rfl, hb _ rfl]
    · subst h
      refine ⟨.bl (!(u == v)), fun z hz => ?_, fun K hK => hK⟩
      split at hz <;> simp only [Option.some.injEq, reduceCtorEq] at hz
      rw [← hz, ha _ rfl, hb _ rfl]
  · rename_i x p' q'
    split at h <;> (try simp only [reduceCtorEq] at h)
    rename_i hf
    have h1 := fitA_gm ha hf.1
    have h2 := fitA_gm hb hf.2
    split at h <;> simp only [Option.some.injEq, reduceCtorEq] at h <;> subst h
    · exact ⟨.bl (PV.beq p q), by simp [gm], fun K hK => ⟨⟨h1, h2⟩, hK⟩⟩
    · exact ⟨.bl (!PV.beq p q), by simp [gm], fun K hK => ⟨⟨h1, h2⟩, hK⟩⟩
  · simp at h
end Go.Ab
namespace Go.Ab
variable [Tabs]
variable {P : Program}
def loA (g : Bool) (σ : AS) (x : Option AX) (dflt most : Nat) : Option Nat :=
  match x with
  | none => some dflt
  | some x => match vgA g σ x with
    | some (.int _ (some h)) => if 0 ≤ h ∧ h ≤ most then some h.toNat else none
    | _ => none
def lohiA (g : Bool) (σ : AS) (lo hi : Option AX) (len cap : Nat) : Option (Nat × Nat) :=
  match loA g σ hi len cap with
  | some h => (match loA g σ lo 0 h with | some l => some (l, h) | none => none)
  | none => none
theorem vgA_int {σ : AS} {s : St} (h : gS σ s) {g : Bool} {x : AX} {k : IntKind} {n : Int} (hx : vgA g σ x = some (.int k (some n))) : ∀ K : PV → Prop, K (.int k n) → vg g s x K := by
  obtain ⟨p, h1, h2⟩ := vgA_gm h hx
  cases p <;> simp only [gm] at h1
  obtain ⟨rfl, h3⟩ := h1
  rw [h3 n rfl] at h2
  exact h2
theorem lohiA_gm {σ : AS} {s : St} (h : gS σ s) {g : Bool} {lo hi : Option AX} {len cap a b : Nat} (hx : lohiA g σ lo hi len cap = some (a, b)) : ∀ K : Nat → Nat → Prop, K a b → lohi g s lo hi len cap K := by
  intro K hK
  unfold lohiA at hx
  split at hx
  · rename_i h' hh
    split at hx <;> simp only [Option.some.injEq, Prod.mk.injEq, reduceCtorEq] at hx
    rename_i l' hl
    obtain ⟨rfl, rfl⟩ := hx
    have hlo : ∀ J : Nat → Prop, J l' → (match lo with | none => fun (J : Nat → Prop) => J 0 | some x => fun J => vg g s x fun p => intK p fun l => (0 ≤ l ∧ l ≤ h') ∧ J l.toNat) J := by
      intro J hJ
      cases lo with
      | none => simp only [loA, Option.some.injEq] at hl; subst hl; exact hJ
      | some x =>
        simp only [loA] at hl
        split at hl
        · rename_i k n hv
          split at hl <;> simp only [Option.some.injEq, reduceCtorEq] at hl
          rename_i hc
          subst hl
          exact vgA_int h hv _ ⟨hc, hJ⟩
        · simp at hl
    cases hi with
    | none =>
      simp only [loA, Option.some.injEq] at hh; subst hh
      exact hlo _ hK
    | some x =>
      simp only [loA] at hh
      split at hh
      · rename_i k n hv
        split at hh <;> simp only [Option.some.injEq, reduceCtorEq] at hh
        rename_i hc
        subst hh
        exact vgA_int h hv _ ⟨hc, hlo _ hK⟩
      · simp at hh
  · simp at hx
def intsA : List AV → Option (List (Option Int))
  | [] => some []
  | .int _ n :: r => (match intsA r with | some l => some (n :: l) | none => none)
  | _ => none
def foldA (mx : Bool) : Option Int → List (Option Int) → Option Int
  | a, [] => a
  | a, b :: r => foldA mx (onI a b fun x y => if mx then max x y else min x y) r
theorem foldA_gm {mx : Bool} : ∀ {r : List AV} {l : List (Option Int)} {ps : List PV} {a : Option Int} {x : Int}, intsA r = some l → gmL r ps → (∀ z, a = some z → x = z) → ∃ y, (∀ z, foldA mx a l = some z → y = z) ∧ ∀ K : Int → Prop, K y → mmInt mx x ps K
  | [], l, [], a, x, h, _, ha => by
    simp only [intsA, Option.some.injEq] at h; subst h
    exact ⟨x, by simpa only [foldA] using ha, fun K hK => hK⟩
  | [], _, _ :: _, _, _, _, h, _ => by simp [gmL] at h
  | _ :: _, _, [], _, _, _, h, _ => by simp [gmL] at h
  | b :: r, l, p :: ps, a, x, h, hg, ha => by
    cases b <;> simp only [intsA, reduceCtorEq] at h
    rename_i k n
    split at h <;> simp only [Option.some.injEq, reduceCtorEq] at h
    rename_i l' hl
    subst h
    simp only [gmL] at hg
    cases p <;> simp only [gm, false_and] at hg
    rename_i k' m
    obtain ⟨y, h1, h2⟩ := foldA_gm (mx := mx) (a := onI a n fun x y => if mx then max x y else min x y) (x := if mx then max x m else min x m) hl hg.2 (onI_gm ha hg.1.2)
    exact ⟨y, by simpa only [foldA] using h1, fun K hK => h2 K hK⟩
def blkA (σ : AS) (k tot : Nat) : Option AB := match get σ.bx k with | some b => if tot = b.tot then some b else none | none => none
theorem blkA_gm {σ : AS} {s : St} (h : gS σ s) {k tot : Nat} {b : AB} (hb : blkA σ k tot = some b) : ∃ blk, get s.bx k = some blk ∧ tot = blk.tot ∧ gB b blk := by
  unfold blkA at hb
  split at hb
  · rename_i b' hg
    split at hb <;> simp only [Option.some.injEq, reduceCtorEq] at hb
    rename_i ht; subst hb
    obtain ⟨blk, h1, h2⟩ := h.bx k _ hg
    exact ⟨blk, h1, by rw [h2.tot]; exact ht, h2⟩
  · simp at hb
def okW (u : AV) (w : Nat) (agg : Bool) : Option AV := match u.width, u.agg with | some a, some b => if a = w ∧ b = agg then some u else none | _, _ => none
theorem okW_gm {u r : AV} {w : Nat} {agg : Bool} {q : PV} (h : okW u w agg = some r) (hq : gm u q) : u = r ∧ q.width = w ∧ q.isAgg = agg := by
  unfold okW at h
  split at h
  · rename_i a b h1 h2
    split at h <;> simp only [Option.some.injEq, reduceCtorEq] at h
    rename_i hc
    exact ⟨h, by rw [hq.width h1]; exact hc.1, by rw [hq.agg h2]; exact hc.2⟩
  · simp at h
def evA (g : Bool) (σ : AS) : AK → Option AV
  | .mv x => vgA g σ x
  | .pick c a b => match vgA g σ c, vxA σ a, vxA σ b with
    | some (.bl x), some (.bl ya), some (.bl yb) => some (.bl (match x with | some x => bif x then ya else yb | none => none))
    | some (.bl x), some (.bl ya), some (.gd gb (.bl yb)) => if gb = true ∨ x = some true then some (.bl (match x with | some x => bif x then ya else yb | none => none)) else none
    | some (.bl x), some (.gd ga (.bl ya)), some (.bl yb) => if ga = true ∨ x = some false then some (.bl (match x with | some x => bif x then ya else yb | none => none)) else none
    | some (.bl (some true)), some (.bl ya), some .no => some (.bl ya)
    | some (.bl (some false)), some .no, some (.bl yb) => some (.bl yb)
    | _, _, _ => none
  | .build z parts => match vgpA g σ parts, ofP z with
    | some ps, .st w l => (match setPartsA l ps with | some l' => some (.st w l') | none => none)
    | some ps, .ar sz n l => (match setPartsA l ps with | some l' => some (.ar sz n l') | none => none)
    | _, _ => none
  | .load agg w x => match vgA g σ x with
    | some (.pt k p tot) => (match blkA σ k tot with | some b => (match getAB b p with | some u => okW u w agg | none => none) | none => none)
    | some (.fp sz l p) => (match getAB (.arr sz l) p with | some u => okW u w agg | none => none)
    | _ => none
  | .nilCheck x => match vgA g σ x with
    | some (.pt k p tot) => (match blkA σ k tot with | some _ => some (.pt k p tot) | none => none)
    | some (.fp sz l p) => some (.fp sz l p)
    | _ => none
  | .bin op eqs x y => match vgA g σ x, vgA g σ y with | some p, some q => binVA op eqs p q | _, _ => none
  | .un op x => match op, vgA g σ x with
    | .not, some (.bl b) => some (.bl (b.map fun y => !y))
    | .neg, some (.int k n) => some (.int k (n.map fun y => k.wrap (0 - y)))
    | .xor, some (.int k n) => some (.int k (n.map fun y => bits .xor k (if k.signed then -1 else k.max) y))
    | _, _ => none
  | .convI k x => match vgA g σ x with | some (.int _ n) => some (.int k (n.map fun y => k.wrap y)) | _ => none
  | .slice (.sl sz) x lo hi none => match vgA g σ x with
    | some (.sl sz' l clip) => if sz' = sz then (match lohiA g σ lo hi l.length l.length with | some (a, b) => some (.sl sz ((l.take b).drop a) (clip && decide (b = l.length))) | none => none) else none
    | some (.rs k p off len tot sz' c) => if sz' = sz then (match blkA σ k tot with
      | some _ => (match lohiA g σ lo hi len len with | some (a, b) => some (.rs k p (off + a) (b - a) tot sz (if b = len then c else (match c with | .tip => .tip | _ => .any))) | none => none)
      | none => none) else none
    | _ => none
  | .slice (.ar n sz) x lo hi none => match vgA g σ x with
    | some (.pt k p tot) => (match blkA σ k tot with
      | some _ => (match lohiA g σ lo hi n n with | some (a, b) => some (.rs k p a (b - a) tot sz (if b = n then .clip else .any)) | none => none)
      | none => none)
    | _ => none
  | .fieldA i off x => match vgA g σ x with
    | some (.pt k p tot) => (match blkA σ k tot with | some _ => some (.pt k (p ++ [.f i off]) tot) | none => none)
    | some (.fp sz l p) => some (.fp sz l (p ++ [.f i off]))
    | _ => none
  | .s2a n sz x => match vgA g σ x with
    | some (.sl sz' l _) => if sz' = sz ∧ 0 < n ∧ n ≤ l.length then some (.fp sz l [.w 0 n sz]) else none
    | some (.rs k p off len tot sz' _) => (match blkA σ k tot with | some _ => if sz' = sz ∧ 0 < n ∧ n ≤ len then some (.pt k (p ++ [.w off n sz]) tot) else none | none => none)
    | _ => none
  | .field i off agg w x => match vgA g σ x with
    | some (.st _ l) => (match l[i]? with | some c => if awL (l.take i) = some off then okW c w agg else none | none => none)
    | _ => none
  | .indexA (.sl sz) x i => match vgA g σ x, vgA g σ i with
    | some (.sl sz' l _), some (.int _ (some j)) => if sz' = sz ∧ 0 ≤ j ∧ j < l.length then some (.fp sz l [.i j.toNat sz]) else none
    | some (.rs k p off len tot sz' _), some (.int _ (some j)) => (match blkA σ k tot with | some _ => if sz' = sz ∧ 0 ≤ j ∧ j < len then some (.pt k (p ++ [.i (off + j.toNat) sz]) tot) else none | none => none)
    | _, _ => none
  | .indexA (.ar n sz) x i => match vgA g σ x, vgA g σ i with
    | some (.pt k p tot), some (.int _ (some j)) => if 0 ≤ j ∧ j < n then (match blkA σ k tot with | some _ => some (.pt k (p ++ [.i j.toNat sz]) tot) | none => none) else none
    | some (.fp sz' l p), some (.int _ (some j)) => if 0 ≤ j ∧ j < n then some (.fp sz' l (p ++ [.i j.toNat sz])) else none
    | _, _ => none
  | .index agg n w x i => match vgA g σ x, vgA g σ i with
    | some (.ar sz n' l), some (.int _ (some j)) => (match l[j.toNat]? with | some c => if 0 ≤ j ∧ j < n ∧ n' = n ∧ sz = w ∧ c.agg = some agg then some c else none | none => none)
    | _, _ => none
  | .extract i x => match vxA σ x with | some (.tup l) => l[i]? | _ => none
  | .len x => match vgA g σ x with
    | some (.sl _ l _) => some (.int .i64 (some l.length))
    | some (.rs k _ _ len tot _ _) => (match blkA σ k tot with | some _ => some (.int .i64 (some len)) | none => none)
    | _ => none
  | .lenS x => match vgA g σ x with | some (.str b) => some (.int .i64 (some b.length)) | _ => none
  | .lenC n => some (.int .i64 (some n))
  | .mm mx xs => match vgsA g σ xs with
    | some (.int k a :: r) => (match intsA r with | some l => some (.int k (foldA mx a l)) | none => none)
    | _ => none
  | _ => none
theorem map_gm {n : Option Int} {m : Int} {f : Int → Int} (h : ∀ y, n = some y → m = y) : ∀ z, n.map f = some z → f m = z := by
  intro z hz
  cases n with
  | none => simp at hz
  | some y => simp at hz; rw [h y rfl]; exact hz
theorem bif_gm {x ya yb : Option Bool} {u v w : Bool} (hx : ∀ z, x = some z → u = z) (ha : ∀ z, ya = some z → v = z) (hb : ∀ z, yb = some z → w = z) :
    ∀ z, (match x with | some x => bif x then ya else yb | none => none) = some z → (bif u then v else w) = z := by
  intro z hz
  cases x with
  | none => simp at hz
  | some x =>
    rw [hx x rfl]
    cases x
    · exact hb z hz
    · exact ha z hz
theorem gm_tup {l : List AV} {p : PV} (h : gm (.tup l) p) : ∃ m, p = .tup m ∧ gmL l m := by
  cases p <;> simp only [gm] at h
  exact ⟨_, rfl, h⟩
theorem evA_gm {σ : AS} {s : St} (h : gS σ s) {g : Bool} : ∀ {k : AK} {r : AV}, evA g σ k = some r → ∃ p, gm r p ∧ ∀ K : PV → Prop, K p → ev g s k K := by
  intro k r hr
  cases k with
  | mv x => exact vgA_gm h hr
  | pick c a b =>
    simp only [evA] at hr
    split at hr
    · rename_i x ya yb h1 h2 h3
      simp only [Option.some.injEq] at hr; subst hr
      obtain ⟨pc, g1, g2⟩ := vgA_gm h h1
      have ha := vxA_gm h h2
      have hb := vxA_gm h h3
      cases pc <;> simp only [gm] at g1
      cases hva : vx s a <;> rw [hva] at ha <;> simp only [gm] at ha
      cases hvb : vx s b <;> rw [hvb] at hb <;> simp only [gm] at hb
      refine ⟨_, gm_bl (bif_gm g1 ha hb), fun K hK => g2 _ ?_⟩
      simp only [hva, hvb]
      exact hK
    · rename_i x ya gb yb h1 h2 h3
      split at hr <;> simp only [Option.some.injEq, reduceCtorEq] at hr
      rename_i hc
      subst hr
      obtain ⟨pc, g1, g2⟩ := vgA_gm h h1
      have ha := vxA_gm h h2
      have hb := vxA_gm h h3
      cases pc <;> simp only [gm] at g1
      rename_i u
      cases hva : vx s a <;> rw [hva] at ha <;> simp only [gm] at ha
      cases hvb : vx s b <;> rw [hvb] at hb <;> simp only [gm] at hb
      rename_i gb' q
      cases q <;> simp only [gm, and_false] at hb
      refine ⟨_, gm_bl (bif_gm g1 ha hb.2), fun K hK => g2 _ ?_⟩
      simp only [hva, hvb]
      refine ⟨fun hu => ?_, hK⟩
      rcases hc with hc | hc
      · rw [hb.1]; exact hc
      · have := g1 true hc; rw [this] at hu; cases hu
    · rename_i x ga ya yb h1 h2 h3
      split at hr <;> simp only [Option.some.injEq, reduceCtorEq] at hr
      rename_i hc
      subst hr
      obtain ⟨pc, g1, g2⟩ := vgA_gm h h1
      have ha := vxA_gm h h2
      have hb := vxA_gm h h3
      cases pc <;> simp only [gm] at g1
      rename_i u
      cases hvb : vx s b <;> rw [hvb] at hb <;> simp only [gm] at hb
      cases hva : vx s a <;> rw [hva] at ha <;> simp only [gm] at ha
      rename_i ga' q
      cases q <;> simp only [gm, and_false] at ha
      refine ⟨_, gm_bl (bif_gm g1 ha.2 hb), fun K hK => g2 _ ?_⟩
      simp only [hva, hvb]
      refine ⟨fun hu => ?_, hK⟩
      rcases hc with hc | hc
      · rw [ha.1]; exact hc
      · have := g1 false hc; rw [this] at hu; cases hu
    · rename_i ya h1 h2 h3
      simp only [Option.some.injEq] at hr; subst hr
      obtain ⟨pc, g1, g2⟩ := vgA_gm h h1
      have ha := vxA_gm h h2
      have hb := vxA_gm h h3
      cases pc <;> simp only [gm] at g1
      rename_i u
      have hu := g1 true rfl
      subst hu
      cases hva : vx s a <;> rw [hva] at ha <;> simp only [gm] at ha
      simp only [gm] at hb
      rename_i v
      refine ⟨_, gm_bl ha, fun K hK => g2 _ ?_⟩
      simp only [hva, hb]
      exact ⟨by trivial, hK⟩
    · rename_i yb h1 h2 h3
      simp only [Option.some.injEq] at hr; subst hr
      obtain ⟨pc, g1, g2⟩ := vgA_gm h h1
      have ha := vxA_gm h h2
      have hb := vxA_gm h h3
      cases pc <;> simp only [gm] at g1
      rename_i u
      have hu := g1 false rfl
      subst hu
      cases hvb : vx s b <;> rw [hvb] at hb <;> simp only [gm] at hb
      simp only [gm] at ha
      refine ⟨_, gm_bl hb, fun K hK => g2 _ ?_⟩
      simp only [hvb, ha]
      exact ⟨by trivial, hK⟩
    · simp at hr
  | build z parts =>
    simp only [evA] at hr
    have hz := gm_ofP z
    split at hr
    · rename_i ps w l h1 h2
      split at hr <;> simp only [Option.some.injEq, reduceCtorEq] at hr
      rename_i l' h3
      subst hr
      obtain ⟨qs, ⟨g1, g2⟩, g3⟩ := vgpA_gm h h1
      rw [h2] at hz
      cases z <;> simp only [gm] at hz
      obtain ⟨m', g4, g5⟩ := setPartsA_gm hz.2 g1 g2 h3
      exact ⟨.st _ m', by simp only [gm]; exact ⟨hz.1, g5⟩, fun K hK => g3 _ (by simp only [g4]; exact hK)⟩
    · rename_i ps sz n l h1 h2
      split at hr <;> simp only [Option.some.injEq, reduceCtorEq] at hr
      rename_i l' h3
      subst hr
      obtain ⟨qs, ⟨g1, g2⟩, g3⟩ := vgpA_gm h h1
      rw [h2] at hz
      cases z <;> simp only [gm] at hz
      obtain ⟨m', g4, g5⟩ := setPartsA_gm hz.2 g1 g2 h3
      exact ⟨.ar _ _ m', by simp only [gm]; exact ⟨hz.1, g5⟩, fun K hK => g3 _ (by simp only [g4]; exact hK)⟩
    · simp at hr
  | load agg w x =>
    simp only [evA] at hr
    split at hr
    · rename_i k p tot h1
      split at hr
      · rename_i b hb
        split at hr
        · rename_i u hu
          obtain ⟨q, g1, g2⟩ := vgA_gm h h1
          simp only [gm] at g1; subst g1
          obtain ⟨blk, b1, b2, b3⟩ := blkA_gm h hb
          obtain ⟨v, c1, c2⟩ := getAB_gm b3 hu
          obtain ⟨rfl, d1, d2⟩ := okW_gm hr c2
          exact ⟨v, c2, fun K hK => g2 _ (by simp only [b1, c1]; exact ⟨⟨b2, d1, d2⟩, hK⟩)⟩
        · simp at hr
      · simp at hr
    · rename_i sz l p h1
      split at hr
      · rename_i u hu
        obtain ⟨q, g1, g2⟩ := vgA_gm h h1
        cases q <;> simp only [gm] at g1
        obtain ⟨⟨rfl, rfl⟩, g3⟩ := g1
        rename_i sz m p
        obtain ⟨v, c1, c2⟩ := getAB_gm (p := .arr sz m) (a := .arr sz l) (by simp only [gB]; exact ⟨trivial, g3⟩) hu
        obtain ⟨rfl, d1, d2⟩ := okW_gm hr c2
        exact ⟨v, c2, fun K hK => g2 _ (by simp only [c1]; exact ⟨⟨d1, d2⟩, hK⟩)⟩
      · simp at hr
    · simp at hr
  | nilCheck x =>
    simp only [evA] at hr
    split at hr
    · rename_i k p tot h1
      split at hr <;> simp only [Option.some.injEq, reduceCtorEq] at hr
      rename_i b hb
      subst hr
      obtain ⟨q, g1, g2⟩ := vgA_gm h h1
      simp only [gm] at g1; subst g1
      obtain ⟨blk, b1, b2, b3⟩ := blkA_gm h hb
      exact ⟨.pt k p tot, by simp only [gm], fun K hK => g2 _ (by simp only [b1]; exact ⟨b2, hK⟩)⟩
    · rename_i sz l p h1
      simp only [Option.some.injEq] at hr; subst hr
      obtain ⟨q, g1, g2⟩ := vgA_gm h h1
      have g1' := g1
      cases q <;> simp only [gm] at g1
      exact ⟨_, g1', fun K hK => g2 _ hK⟩
    · simp at hr
  | bin op eqs x y =>
    simp only [evA] at hr
    split at hr
    · rename_i p q h1 h2
      obtain ⟨u, g1, g2⟩ := vgA_gm h h1
      obtain ⟨v, g3, g4⟩ := vgA_gm h h2
      obtain ⟨w, g5, g6⟩ := binVA_gm (s := s) g1 g3 hr
      exact ⟨w, g5, fun K hK => g2 _ (g4 _ (g6 K hK))⟩
    · simp at hr
  | un op x =>
    simp only [evA] at hr
    split at hr
    · rename_i b h1
      simp only [Option.some.injEq] at hr; subst hr
      obtain ⟨u, g1, g2⟩ := vgA_gm h h1
      cases u <;> simp only [gm] at g1
      rename_i x
      refine ⟨.bl (!x), gm_bl fun z hz => ?_, fun K hK => g2 _ hK⟩
      cases b with
      | none => simp at hz
      | some y => rw [g1 y rfl]; simpa using hz
    · rename_i k n h1
      simp only [Option.some.injEq] at hr; subst hr
      obtain ⟨u, g1, g2⟩ := vgA_gm h h1
      cases u <;> simp only [gm] at g1
      obtain ⟨rfl, g1⟩ := g1
      exact ⟨_, gm_int (map_gm g1), fun K hK => g2 _ hK⟩
    · rename_i k n h1
      simp only [Option.some.injEq] at hr; subst hr
      obtain ⟨u, g1, g2⟩ := vgA_gm h h1
      cases u <;> simp only [gm] at g1
      obtain ⟨rfl, g1⟩ := g1
      exact ⟨_, gm_int (map_gm g1), fun K hK => g2 _ hK⟩
    · simp at hr
  | convI k x =>
    simp only [evA] at hr
    split at hr <;> simp only [Option.some.injEq, reduceCtorEq] at hr
    rename_i k' n h1
    subst hr
    obtain ⟨u, g1, g2⟩ := vgA_gm h h1
    cases u <;> simp only [gm] at g1
    exact ⟨_, gm_int (map_gm g1.2), fun K hK => g2 _ hK⟩
  | slice kd x lo hi mx =>
    cases mx with
    | some m => cases kd <;> simp [evA] at hr
    | none =>
      cases kd with
      | str => simp [evA] at hr
      | sl sz =>
        simp only [evA] at hr
        split at hr
        · rename_i sz' l clip h1
          split at hr
          · rename_i hs
            split at hr <;> simp only [Option.some.injEq, reduceCtorEq] at hr
            rename_i a b hl
            subst hr hs
            obtain ⟨u, g1, g2⟩ := vgA_gm h h1
            cases u <;> simp only [gm] at g1
            obtain ⟨⟨rfl, rfl⟩, g3⟩ := g1
            rename_i sz m c
            have hlen := g3.length
            refine ⟨.sl sz ((m.take b).drop a) (c && decide (b = m.length)), ?_, fun K hK => g2 _ ?_⟩
            · simp only [gm, hlen, true_and]
              first | exact (g3.take b).drop a | exact ⟨trivial, (g3.take b).drop a⟩
            · simp only
              rw [hlen]
              refine lohiA_gm h hl _ ⟨by trivial, ?_⟩
              rw [← hlen]; exact hK
          · simp at hr
        · rename_i k p off len tot sz' c h1
          split at hr
          · rename_i hs
            split at hr
            · rename_i bb hb
              split at hr <;> simp only [Option.some.injEq, reduceCtorEq] at hr
              rename_i a b hl
              subst hr hs
              obtain ⟨u, g1, g2⟩ := vgA_gm h h1
              simp only [gm] at g1; subst g1
              obtain ⟨blk, b1, b2, b3⟩ := blkA_gm h hb
              refine ⟨.rs _ _ _ _ _ _ _, by simp only [gm]; rfl, fun K hK => g2 _ ?_⟩
              simp only [b1]
              exact ⟨⟨b2, by trivial⟩, lohiA_gm h hl _ hK⟩
            · simp at hr
          · simp at hr
        · simp at hr
      | ar n sz =>
        simp only [evA] at hr
        split at hr
        · rename_i k p tot h1
          split at hr
          · rename_i bb hb
            split at hr <;> simp only [Option.some.injEq, reduceCtorEq] at hr
            rename_i a b hl
            subst hr
            obtain ⟨u, g1, g2⟩ := vgA_gm h h1
            simp only [gm] at g1; subst g1
            obtain ⟨blk, b1, b2, b3⟩ := blkA_gm h hb
            refine ⟨.rs _ _ _ _ _ _ _, by simp only [gm]; rfl, fun K hK => g2 _ ?_⟩
            simp only [b1]
            exact ⟨b2, by trivial, lohiA_gm h hl _ hK⟩
          · simp at hr
        · simp at hr
  | fieldA i off x =>
    simp only [evA] at hr
    split at hr
    · rename_i k p tot h1
      split at hr <;> simp only [Option.some.injEq, reduceCtorEq] at hr
      rename_i b hb
      subst hr
      obtain ⟨q, g1, g2⟩ := vgA_gm h h1
      simp only [gm] at g1; subst g1
      obtain ⟨blk, b1, b2, b3⟩ := blkA_gm h hb
      exact ⟨.pt k (p ++ [.f i off]) tot, by simp only [gm], fun K hK => g2 _ (by simp only [b1]; exact ⟨b2, hK⟩)⟩
    · rename_i sz l p h1
      simp only [Option.some.injEq] at hr; subst hr
      obtain ⟨q, g1, g2⟩ := vgA_gm h h1
      cases q <;> simp only [gm] at g1
      rename_i sz' m p'
      refine ⟨.fp sz' m (p' ++ [.f i off]), by simp only [gm]; exact ⟨⟨g1.1.1, by rw [g1.1.2]⟩, g1.2⟩, fun K hK => g2 _ hK⟩
    · simp at hr
  | s2a n sz x =>
    simp only [evA] at hr
    split at hr
    · rename_i sz' l c h1
      split at hr <;> simp only [Option.some.injEq, reduceCtorEq] at hr
      rename_i hc
      subst hr
      obtain ⟨q, g1, g2⟩ := vgA_gm h h1
      cases q <;> simp only [gm] at g1
      have hlen := g1.2.length
      rename_i sz2 m c2
      refine ⟨.fp sz m [.w 0 n sz], by simp only [gm]; exact ⟨⟨trivial, trivial⟩, g1.2⟩, fun K hK => g2 _ ?_⟩
      exact ⟨⟨g1.1.1.trans hc.1, hc.2.1, by rw [hlen]; exact hc.2.2⟩, hK⟩
    · rename_i k p off len tot sz' c h1
      split at hr
      · rename_i b hb
        split at hr <;> simp only [Option.some.injEq, reduceCtorEq] at hr
        rename_i hc
        subst hr
        obtain ⟨q, g1, g2⟩ := vgA_gm h h1
        simp only [gm] at g1; subst g1
        obtain ⟨blk, b1, b2, b3⟩ := blkA_gm h hb
        exact ⟨.pt k (p ++ [.w off n sz]) tot, by simp only [gm], fun K hK => g2 _ (by simp only [b1]; exact ⟨⟨b2, hc.1, hc.2.1, hc.2.2⟩, hK⟩)⟩
      · simp at hr
    · simp at hr
  | field i off agg w x =>
    simp only [evA] at hr
    split at hr
    · rename_i w' l h1
      split at hr
      · rename_i c hc
        split at hr
        · rename_i ho
          obtain ⟨q, g1, g2⟩ := vgA_gm h h1
          cases q <;> simp only [gm] at g1
          obtain ⟨v, c1, c2⟩ := g1.2.at hc
          obtain ⟨rfl, d1, d2⟩ := okW_gm hr c2
          exact ⟨v, c2, fun K hK => g2 _ (by simp only [c1]; exact ⟨⟨(g1.2.take i).widths ho, d1, d2⟩, hK⟩)⟩
        · simp at hr
      · simp at hr
    · simp at hr
  | indexA kd x i =>
    cases kd with
    | str => simp [evA] at hr
    | sl sz =>
      simp only [evA] at hr
      split at hr
      · rename_i sz' l c k' j h1 h2
        split at hr <;> simp only [Option.some.injEq, reduceCtorEq] at hr
        rename_i hc
        subst hr
        obtain ⟨q, g1, g2⟩ := vgA_gm h h1
        have g3 := vgA_int h h2
        cases q <;> simp only [gm] at g1
        have hlen := g1.2.length
        rename_i sz2 m c2
        refine ⟨.fp sz m [.i j.toNat sz], by simp only [gm]; exact ⟨⟨trivial, trivial⟩, g1.2⟩, fun K hK => g2 _ (g3 _ ?_)⟩
        exact ⟨⟨g1.1.1.trans hc.1, hc.2.1, by rw [hlen]; exact hc.2.2⟩, hK⟩
      · rename_i k p off len tot sz' c k' j h1 h2
        split at hr
        · rename_i b hb
          split at hr <;> simp only [Option.some.injEq, reduceCtorEq] at hr
          rename_i hc
          subst hr
          obtain ⟨q, g1, g2⟩ := vgA_gm h h1
          have g3 := vgA_int h h2
          simp only [gm] at g1; subst g1
          obtain ⟨blk, b1, b2, b3⟩ := blkA_gm h hb
          refine ⟨.pt _ _ _, by simp only [gm]; rfl, fun K hK => g2 _ (g3 _ ?_)⟩
          simp only [intK, b1]
          exact ⟨⟨b2, hc⟩, hK⟩
        · simp at hr
      · simp at hr
    | ar n sz =>
      simp only [evA] at hr
      split at hr
      · rename_i k p tot k' j h1 h2
        split at hr
        · rename_i hc
          split at hr <;> simp only [Option.some.injEq, reduceCtorEq] at hr
          rename_i b hb
          subst hr
          obtain ⟨q, g1, g2⟩ := vgA_gm h h1
          have g3 := vgA_int h h2
          simp only [gm] at g1; subst g1
          obtain ⟨blk, b1, b2, b3⟩ := blkA_gm h hb
          refine ⟨.pt _ _ _, by simp only [gm]; rfl, fun K hK => g2 _ (g3 _ ?_)⟩
          simp only [intK, b1]
          exact ⟨hc, b2, hK⟩
        · simp at hr
      · rename_i sz' l p k' j h1 h2
        split at hr <;> simp only [Option.some.injEq, reduceCtorEq] at hr
        rename_i hc
        subst hr
        obtain ⟨q, g1, g2⟩ := vgA_gm h h1
        have g3 := vgA_int h h2
        cases q <;> simp only [gm] at g1
        rename_i sz2 m p2
        refine ⟨.fp sz2 m (p2 ++ [.i j.toNat sz]), by simp only [gm]; exact ⟨⟨g1.1.1, by rw [g1.1.2]⟩, g1.2⟩, fun K hK => g2 _ (g3 _ ⟨hc, hK⟩)⟩
      · simp at hr
  | index agg n w x i =>
    simp only [evA] at hr
    split at hr
    · rename_i sz n' l k' j h1 h2
      split at hr
      · rename_i c hc
        split at hr <;> simp only [Option.some.injEq, reduceCtorEq] at hr
        rename_i ho
        subst hr
        obtain ⟨q, g1, g2⟩ := vgA_gm h h1
        have g3 := vgA_int h h2
        cases q <;> simp only [gm] at g1
        obtain ⟨v, c1, c2⟩ := g1.2.at hc
        refine ⟨v, c2, fun K hK => g2 _ (g3 _ ?_)⟩
        simp only [intK, c1]
        exact ⟨⟨ho.1, ho.2.1, by rw [g1.1.2]; exact ho.2.2.1, by rw [g1.1.1]; exact ho.2.2.2.1, c2.agg ho.2.2.2.2⟩, hK⟩
      · simp at hr
    · simp at hr
  | extract i x =>
    simp only [evA] at hr
    split at hr
    · rename_i l h1
      obtain ⟨m, g1, g2⟩ := gm_tup (vxA_gm h h1)
      obtain ⟨v, c1, c2⟩ := g2.at hr
      exact ⟨v, c2, fun K hK => by simp only [ev, g1, c1]; exact hK⟩
    · simp at hr
  | len x =>
    simp only [evA] at hr
    split at hr
    · rename_i sz l c h1
      simp only [Option.some.injEq] at hr; subst hr
      obtain ⟨q, g1, g2⟩ := vgA_gm h h1
      cases q <;> simp only [gm] at g1
      exact ⟨_, gm_int (fun z hz => by cases hz; rw [g1.2.length]), fun K hK => g2 _ hK⟩
    · rename_i k p off len tot sz c h1
      split at hr <;> simp only [Option.some.injEq, reduceCtorEq] at hr
      rename_i b hb
      subst hr
      obtain ⟨q, g1, g2⟩ := vgA_gm h h1
      simp only [gm] at g1; subst g1
      obtain ⟨blk, b1, b2, b3⟩ := blkA_gm h hb
      exact ⟨_, gm_int (fun z hz => by cases hz; rfl), fun K hK => g2 _ (by simp only [b1]; exact ⟨b2, hK⟩)⟩
    · simp at hr
  | lenS x =>
    simp only [evA] at hr
    split at hr <;> simp only [Option.some.injEq, reduceCtorEq] at hr
    rename_i b h1
    subst hr
    obtain ⟨q, g1, g2⟩ := vgA_gm h h1
    cases q <;> simp only [gm] at g1
    subst g1
    exact ⟨_, gm_int (fun z hz => by cases hz; rfl), fun K hK => g2 _ hK⟩
  | lenC n =>
    simp only [evA, Option.some.injEq] at hr; subst hr
    exact ⟨_, gm_int (fun z hz => by cases hz; rfl), fun K hK => hK⟩
  | mm mx xs =>
    simp only [evA] at hr
    split at hr
    · rename_i k a r' h1
      split at hr <;> simp only [Option.some.injEq, reduceCtorEq] at hr
      rename_i l hl
      subst hr
      obtain ⟨ps, g1, g2⟩ := vgsA_gm h h1
      cases ps <;> simp only [gmL] at g1
      rename_i p ps
      cases p <;> simp only [gm, false_and] at g1
      obtain ⟨⟨rfl, g3⟩, g4⟩ := g1
      obtain ⟨y, d1, d2⟩ := foldA_gm (mx := mx) hl g4 g3
      exact ⟨_, gm_int d1, fun K hK => g2 _ (d2 _ hK)⟩
    · simp at hr
  | _ => simp [evA] at hr
end Go.Ab
namespace Go.Ab
variable [Tabs]
variable {P : Program}
mutual
def wkAv : AV → AV
  | .sl sz l _ => .sl sz (wkAL l) false
  | .st w l => .st w (wkAL l)
  | .ar z n l => .ar z n (wkAL l)
  | .tup l => .tup (wkAL l)
  | p => p
def wkAL : List AV → List AV
  | [] => []
  | p :: l => wkAv p :: wkAL l
end
mutual
theorem wkAv_gm : ∀ {a : AV} {p : PV}, gm a p → gm (wkAv a) (wk p)
  | .un, p, _ => by simp [wkAv, gm]
  | .no, p, h => by simp only [gm] at h; subst h; simp [wkAv, wk, gm]
  | .bl _, p, h => by cases p <;> simp only [gm] at h; simpa only [wkAv, wk, gm] using h
  | .int _ _, p, h => by cases p <;> simp only [gm] at h; simpa only [wkAv, wk, gm] using h
  | .str _, p, h => by cases p <;> simp only [gm] at h; simpa only [wkAv, wk, gm] using h
  | .st _ l, p, h => by cases p <;> simp only [gm] at h; simp only [wkAv, wk, gm]; exact ⟨h.1, wkAL_gm h.2⟩
  | .ar _ _ l, p, h => by cases p <;> simp only [gm] at h; simp only [wkAv, wk, gm]; exact ⟨h.1, wkAL_gm h.2⟩
  | .tup l, p, h => by cases p <;> simp only [gm] at h; simp only [wkAv, wk, gm]; exact wkAL_gm h
  | .sl _ l _, p, h => by cases p <;> simp only [gm] at h; simp only [wkAv, wk, gm]; exact ⟨⟨h.1.1, trivial⟩, wkAL_gm h.2⟩
  | .rs .., p, h => by simp only [gm] at h; subst h; simp [wkAv, wk, gm]
  | .pt .., p, h => by simp only [gm] at h; subst h; simp [wkAv, wk, gm]
  | .np, p, h => by simp only [gm] at h; subst h; simp [wkAv, wk, gm]
  | .fp .., p, h => by cases p <;> simp only [gm] at h; simpa only [wkAv, wk, gm] using h
  | .gd .., p, h => by cases p <;> simp only [gm] at h; simpa only [wkAv, wk, gm] using h
theorem wkAL_gm : ∀ {l : List AV} {m : List PV}, gmL l m → gmL (wkAL l) (wkL m)
  | [], [], _ => by simp [wkAL, wkL, gmL]
  | [], _ :: _, h => by simp [gmL] at h
  | _ :: _, [], h => by simp [gmL] at h
  | a :: l, p :: m, h => by simp only [gmL] at h; simp [wkAL, wkL, gmL, wkAv_gm h.1, wkAL_gm h.2]
end
def wkbA : AB → AV → AV
  | .arr _ _, v => wkAv v
  | .box _, v => v
theorem wkbA_gm {b : AB} {blk : Blk} {a : AV} {p : PV} (hb : gB b blk) (h : gm a p) : gm (wkbA b a) (wkb blk p) := by
  cases b <;> cases blk <;> simp only [gB] at hb
  · exact h
  · exact wkAv_gm h
def contentA (σ : AS) : AV → Option (Nat × List AV)
  | .sl sz l _ => some (sz, l)
  | .rs k p off len tot sz _ => match get σ.bx k with
    | some (.arr sz' l) => if tot = l.length ∧ p = [] ∧ sz = sz' ∧ off + len ≤ l.length then some (sz, (l.drop off).take len) else none
    | some (.box v) => (match getA v p with | some (.ar sz' n l) => if tot = 0 ∧ sz = sz' ∧ off + len ≤ n then some (sz, (l.drop off).take len) else none | _ => none)
    | none => none
  | _ => none
theorem contentA_gm {σ : AS} {s : St} (h : gS σ s) {a : AV} {p : PV} (hp : gm a p) {sz : Nat} {l : List AV} (hc : contentA σ a = some (sz, l)) : ∃ m, gmL l m ∧ ∀ K : Nat → List PV → Prop, K sz m → content s p K := by
  cases a <;> simp only [contentA, reduceCtorEq, Option.some.injEq, Prod.mk.injEq] at hc
  · cases p <;> simp only [gm] at hp
    obtain ⟨rfl, rfl⟩ := hc
    exact ⟨_, hp.2, fun K hK => by rw [← hp.1.1] at hK; exact hK⟩
  · simp only [gm] at hp; subst hp
    split at hc
    · rename_i sz' l' hb
      split at hc <;> simp only [Option.some.injEq, Prod.mk.injEq, reduceCtorEq] at hc
      rename_i ho
      obtain ⟨rfl, rfl⟩ := hc
      obtain ⟨blk, h1, h2⟩ := h.bx _ _ hb
      cases blk <;> simp only [gB] at h2
      have hl := h2.2.length
      refine ⟨_, (h2.2.drop _).take _, fun K hK => ?_⟩
      simp only [content, h1]
      exact ⟨⟨by rw [hl]; exact ho.1, ho.2.1, by rw [h2.1]; exact ho.2.2.1, by rw [hl]; exact ho.2.2.2⟩, hK⟩
    · rename_i v hb
      split at hc
      · rename_i sz' n l' hg
        split at hc <;> simp only [Option.some.injEq, Prod.mk.injEq, reduceCtorEq] at hc
        rename_i ho
        obtain ⟨rfl, rfl⟩ := hc
        obtain ⟨blk, h1, h2⟩ := h.bx _ _ hb
        cases blk <;> simp only [gB] at h2
        obtain ⟨q, g1, g2⟩ := getA_gm h2 hg
        cases q <;> simp only [gm] at g2
        refine ⟨_, (g2.2.drop _).take _, fun K hK => ?_⟩
        simp only [content, h1, g1]
        exact ⟨⟨ho.1, by rw [g2.1.1]; exact ho.2.1, by rw [g2.1.2]; exact ho.2.2⟩, hK⟩
      · simp at hc
    · simp at hc
def srcA (σ : AS) (str : Bool) (sz : Nat) (q : AV) : Option (List AV) :=
  if str then (match q with | .str bs => if sz = 1 then some (bs.map fun b => .int .u8 (some b.toNat)) else none | _ => none)
  else match contentA σ q with | some (sz', ys) => if ys.isEmpty = true ∨ sz' = sz then some ys else none | none => none
theorem strA_gm (bs : List UInt8) : gmL (bs.map fun b => AV.int .u8 (some (b.toNat : Int))) (bs.map u8) := by
  induction bs with
  | nil => simp [gmL]
  | cons b bs ih => simp [gmL, gm, u8, ih]
theorem srcA_gm {σ : AS} {s : St} (h : gS σ s) {str : Bool} {sz : Nat} {a : AV} {p : PV} (hp : gm a p) {l : List AV} (hc : srcA σ str sz a = some l) : ∃ m, gmL l m ∧ ∀ K : List PV → Prop, K m → src s str sz p K := by
  unfold srcA at hc
  split at hc
  · rename_i hs
    split at hc <;> (try simp only [reduceCtorEq] at hc)
    rename_i bs
    split at hc <;> simp only [Option.some.injEq, reduceCtorEq] at hc
    rename_i h1
    subst hc h1
    cases p <;> simp only [gm] at hp
    subst hp
    exact ⟨_, strA_gm _, fun K hK => by unfold src; rw [if_pos hs]; exact ⟨rfl, hK⟩⟩
  · rename_i hs
    split at hc <;> (try simp only [reduceCtorEq] at hc)
    rename_i sz' ys hy
    split at hc <;> simp only [Option.some.injEq, reduceCtorEq] at hc
    rename_i ho
    subst hc
    obtain ⟨m, g1, g2⟩ := contentA_gm h hp hy
    refine ⟨m, g1, fun K hK => ?_⟩
    unfold src
    rw [if_neg hs]
    refine g2 _ ⟨?_, hK⟩
    rcases ho with ho | ho
    · left
      have := g1.length
      rw [List.isEmpty_iff.1 ho] at this
      exact List.length_eq_zero_iff.1 this
    · exact .inr ho
def exA (σ : AS) (d : Option Nat) : AK → Option AS
  | .alloc z => match d with | some k => if (get σ.bx k).isNone = true then some { env := put σ.env k (.pt k [] 0), bx := put σ.bx k (.box (ofP z)) } else none | none => none
  | .box x => match d, vgA true σ x with | some k, some a => if (get σ.bx k).isNone = true ∧ a.cel = true then some { env := put σ.env k (.pt k [] 0), bx := put σ.bx k (.box a) } else none | _, _ => none
  | .store n x y => match vgA true σ x, vgA true σ y with
    | some (.pt k pth tot), some v => (match blkA σ k tot with
      | some b => (match setAB b pth (wkbA b v) with | some b' => if v.width = some n ∧ v.cel = true then some { σ with bx := put σ.bx k b' } else none | none => none)
      | none => none)
    | _, _ => none
  | .buildSlice own sz z n parts => match vgpA true σ parts with
    | some ps => (match setPartsA (List.replicate n (ofP z)) (ps.map fun x => (x.1, wkAv x.2)) with
      | some l => if own = true then (match d with
          | some k => if (get σ.bx k).isNone = true then some { env := put σ.env k (.rs k [] 0 n n sz .tip), bx := put σ.bx k (.arr sz l) } else none
          | none => none) else some (σ.put d (.sl sz l true))
      | none => none)
    | none => none
  | .makeSlice sz bytes z len cap => match d, vgA true σ len, vgA true σ cap with
    | some k, some (.int _ (some l)), some (.int _ (some c)) => if (get σ.bx k).isNone = true ∧ 0 ≤ l ∧ l ≤ c ∧ c * bytes ≤ 281474976710656 ∧ c ≤ 9223372036854775807 then
        some { env := put σ.env k (.rs k [] 0 l.toNat l.toNat sz .tip), bx := put σ.bx k (.arr sz (List.replicate l.toNat (ofP z))) } else none
    | _, _, _ => none
  | .append sz bytes str x y => match d, vgA true σ x, vgA true σ y with
    | some d, some p, some q => (match srcA σ str sz q with
      | some ys => (match p with
        | .sl sz0 l true => if (get σ.bx d).isNone = true ∧ (l.isEmpty = true ∨ (sz0 = sz ∧ ys.isEmpty = false)) ∧ (l.length + ys.length) * bytes ≤ 140737488355328 ∧ l.length + ys.length ≤ 9223372036854775807 then
            some { env := put σ.env d (.rs d [] 0 (l.length + ys.length) (l.length + ys.length) sz .tip), bx := put σ.bx d (.arr sz (l ++ ys)) } else none
        | .rs k [] 0 len tot sz' .tip => (match get σ.bx k with
          | some (.arr sz'' l) => if tot = l.length ∧ len = l.length ∧ sz' = sz ∧ sz'' = sz ∧ (l.length + ys.length) * bytes ≤ 140737488355328 ∧ l.length + ys.length ≤ 9223372036854775807 then
            some { env := put σ.env d (.rs k [] 0 (l.length + ys.length) (l.length + ys.length) sz .tip), bx := put σ.bx k (.arr sz (l ++ ys)) } else none
          | _ => none)
        | _ => none)
      | none => none)
    | _, _, _ => none
  | .copy sz x y => match vgA true σ x, vgA true σ y with
    | some (.rs k pth off len tot sz' _), some q => (match srcA σ (match q with | .str _ => true | _ => false) sz q with
      | some ys => (match get σ.bx k with
        | some (.arr sz'' l) => if tot = l.length ∧ pth = [] ∧ sz' = sz ∧ sz'' = sz ∧ off + len ≤ l.length then
            some (AS.put { σ with bx := put σ.bx k (.arr sz (l.take off ++ ys.take (min ys.length len) ++ l.drop (off + min ys.length len))) } d (.int .i64 (some (min ys.length len : Nat)))) else none
        | some (.box v) => (match getA v pth with
          | some (.ar sz'' n l) => (match setA v pth (.ar sz'' n (l.take off ++ ys.take (min ys.length len) ++ l.drop (off + min ys.length len))) with
            | some v' => if tot = 0 ∧ sz' = sz ∧ sz'' = sz ∧ off + len ≤ n then some (AS.put { σ with bx := put σ.bx k (.box v') } d (.int .i64 (some (min ys.length len : Nat)))) else none
            | none => none)
          | _ => none)
        | none => none)
      | none => none)
    | _, _ => none
  | .convB x => match vgA true σ x with | some (.str bs) => some (σ.put d (.sl 1 (bs.map fun b => .int .u8 (some b.toNat)) false)) | _ => none
  | _ => none
def dk : Option Nat → List Nat
  | some d => [d]
  | none => []
def tkA (σ : AS) (d : Option Nat) : AK → List Nat
  | .store _ x _ => match vgA true σ x with | some (.pt k _ _) => [k] | _ => []
  | .append _ _ _ x _ => match vgA true σ x with | some (.rs k _ _ _ _ _ _) => [k] | _ => dk d
  | .copy _ x _ => match vgA true σ x with | some (.rs k _ _ _ _ _ _) => [k] | _ => []
  | .buildSlice own .. => if own = true then dk d else []
  | .alloc _ | .box _ | .makeSlice .. | .call .. => dk d
  | _ => []
def Kp (l : List Nat) (s s' : St) : Prop := ∀ k, k ∉ l → get s'.bx k = get s.bx k
theorem Kp.new {s : St} {k : Nat} {e : List (Nat × PV)} {b : Blk} : Kp [k] s { env := e, bx := Ab.put s.bx k b } := by
  intro j hj
  simp only [get_put]
  rw [if_neg]
  rintro rfl; simp at hj
theorem Kp.same {s : St} {l : List Nat} {d : Option Nat} {p : PV} : Kp l s (s.put d p) := by cases d <;> exact fun _ _ => rfl
theorem Kp.put {s s' : St} {l : List Nat} {d : Option Nat} {p : PV} (h : Kp l s s') : Kp l s (s'.put d p) := by cases d <;> exact h
theorem gS.new {σ : AS} {s : St} (h : gS σ s) (k : Nat) {a : AV} {p : PV} {b : AB} {blk : Blk} (ha : gm a p) (hb : gB b blk) : gS { env := Ab.put σ.env k a, bx := Ab.put σ.bx k b } { env := Ab.put s.env k p, bx := Ab.put s.bx k blk } :=
  (h.putB k hb).put (some k) ha
theorem none_of {α : Type} {o : Option α} (h : o.isNone = true) : o = none := by cases o <;> simp_all
theorem exA_gm {σ σ' : AS} {s : St} (h : gS σ s) {d : Option Nat} {k : AK} (hr : exA σ d k = some σ') : ∃ s', gS σ' s' ∧ Kp (tkA σ d k) s s' ∧ ∀ K : St → Prop, K s' → ex s d k K := by
  cases k with
  | alloc z =>
    simp only [exA] at hr
    split at hr <;> (try simp only [reduceCtorEq] at hr)
    split at hr <;> simp only [Option.some.injEq, reduceCtorEq] at hr
    rename_i k hn
    subst hr
    exact ⟨_, h.new k (p := .pt k [] 0) (by simp only [gm]) (b := .box (ofP z)) (blk := .box z) (by simp only [gB]; exact gm_ofP z), Kp.new, fun K hK => ⟨h.none k (none_of hn), hK⟩⟩
  | box x =>
    simp only [exA] at hr
    split at hr <;> (try simp only [reduceCtorEq] at hr)
    rename_i k a h1
    split at hr <;> simp only [Option.some.injEq, reduceCtorEq] at hr
    rename_i hn
    subst hr
    obtain ⟨p, g1, g2⟩ := vgA_gm h h1
    exact ⟨_, h.new k (p := .pt k [] 0) (by simp only [gm]) (b := .box a) (blk := .box p) (by simp only [gB]; exact g1), Kp.new, fun K hK => g2 _ ⟨⟨h.none k (none_of hn.1), g1.cel hn.2⟩, hK⟩⟩
  | store n x y =>
    simp only [exA] at hr
    split at hr <;> (try simp only [reduceCtorEq] at hr)
    rename_i k pth tot v h1 h2
    split at hr <;> (try simp only [reduceCtorEq] at hr)
    rename_i b hb
    split at hr <;> (try simp only [reduceCtorEq] at hr)
    rename_i b' hb'
    split at hr <;> simp only [Option.some.injEq, reduceCtorEq] at hr
    rename_i hn
    subst hr
    obtain ⟨p, g1, g2⟩ := vgA_gm h h1
    simp only [gm] at g1; subst g1
    obtain ⟨q, g3, g4⟩ := vgA_gm h h2
    obtain ⟨blk, b1, b2, b3⟩ := blkA_gm h hb
    obtain ⟨blk', c1, c2⟩ := setAB_gm b3 (wkbA_gm b3 g3) hb'
    refine ⟨_, h.putB k c2, by simp only [tkA, h1]; exact Kp.new, fun K hK => g2 _ (g4 _ ?_)⟩
    simp only [b1, c1]
    exact ⟨⟨b2, g3.width hn.1, g3.cel hn.2⟩, hK⟩
  | buildSlice own sz z n parts =>
    simp only [exA] at hr
    split at hr <;> (try simp only [reduceCtorEq] at hr)
    rename_i ps h1
    split at hr <;> (try simp only [reduceCtorEq] at hr)
    rename_i l hl
    obtain ⟨qs, ⟨g1, g2⟩, g3⟩ := vgpA_gm h h1
    have hmm : ∀ {as : List (Nat × AV)} {bs : List (Nat × PV)}, gmL (as.map (·.2)) (bs.map (·.2)) → gmL ((as.map fun x => (x.1, wkAv x.2)).map (·.2)) ((bs.map fun x => (x.1, wk x.2)).map (·.2)) := by
      intro as
      induction as with
      | nil => intro bs h; cases bs with | nil => simp [gmL] | cons b bs => simp [gmL] at h
      | cons a as ih =>
        intro bs h
        cases bs with
        | nil => simp [gmL] at h
        | cons b bs =>
          simp only [List.map_cons, gmL] at h ⊢
          exact ⟨wkAv_gm h.1, ih h.2⟩
    obtain ⟨m, g4, g5⟩ := setPartsA_gm (gmL.rep (gm_ofP z) n) (ps := qs.map fun x => (x.1, wk x.2)) (by simp only [List.map_map]; simpa [Function.comp_def] using g1) (hmm g2) hl
    split at hr
    · rename_i ho
      split at hr <;> (try simp only [reduceCtorEq] at hr)
      rename_i k
      split at hr <;> simp only [Option.some.injEq, reduceCtorEq] at hr
      rename_i hn
      subst hr
      refine ⟨_, h.new k (p := .rs k [] 0 n n sz .tip) (by simp only [gm]) (b := .arr sz l) (blk := .arr sz m) (by simp only [gB, true_and]; exact g5), by simp only [tkA, ho, if_true, dk]; exact Kp.new, fun K hK => g3 _ ?_⟩
      simp only [g4, ho, if_true]
      exact ⟨h.none k (none_of hn), hK⟩
    · rename_i ho
      simp only [Option.some.injEq] at hr
      subst hr
      refine ⟨_, h.put d (p := .sl sz m true) (by simp only [gm, true_and]; exact g5), Kp.same, fun K hK => g3 _ ?_⟩
      simp only [g4]
      rw [if_neg ho]
      exact hK
  | makeSlice sz bytes z len cap =>
    simp only [exA] at hr
    split at hr <;> (try simp only [reduceCtorEq] at hr)
    rename_i k k1 l k2 c h1 h2
    split at hr <;> simp only [Option.some.injEq, reduceCtorEq] at hr
    rename_i hn
    subst hr
    refine ⟨_, h.new k (p := .rs k [] 0 l.toNat l.toNat sz .tip) (by simp only [gm]) (b := .arr sz (List.replicate l.toNat (ofP z))) (blk := .arr sz (List.replicate l.toNat z)) (by simp only [gB, true_and]; exact gmL.rep (gm_ofP z) _), Kp.new, fun K hK => vgA_int h h1 _ ?_⟩
    exact vgA_int h h2 _ ⟨⟨h.none k (none_of hn.1), hn.2⟩, hK⟩
  | append sz bytes str x y =>
    simp only [exA] at hr
    split at hr <;> (try simp only [reduceCtorEq] at hr)
    rename_i dd p q h1 h2
    split at hr <;> (try simp only [reduceCtorEq] at hr)
    rename_i ys hy
    obtain ⟨pp, g1, g2⟩ := vgA_gm h h1
    obtain ⟨qq, g3, g4⟩ := vgA_gm h h2
    obtain ⟨m, g5, g6⟩ := srcA_gm h g3 hy
    have hlm := g5.length
    split at hr <;> (try simp only [reduceCtorEq] at hr)
    · rename_i sz0 l
      split at hr <;> simp only [Option.some.injEq, reduceCtorEq] at hr
      rename_i hn
      subst hr
      cases pp <;> simp only [gm] at g1
      rename_i sz1 l1 c1
      obtain ⟨⟨rfl, rfl⟩, g1⟩ := g1
      have hl1 := g1.length
      refine ⟨{ env := Ab.put s.env dd (.rs dd [] 0 (l1.length + m.length) (l1.length + m.length) sz .tip), bx := Ab.put s.bx dd (.arr sz (l1 ++ m)) }, h.new dd (by simp only [gm, hl1, hlm]) (by simp only [gB, true_and]; exact g1.append g5), by simp only [tkA, h1]; exact Kp.new, fun K hK => g2 _ (g4 _ (g6 _ ?_))⟩
      simp only [exAppend]
      refine ⟨⟨h.none dd (none_of hn.1), ?_, by rw [hl1, hlm]; exact hn.2.2.1, by rw [hl1, hlm]; exact hn.2.2.2⟩, hK⟩
      rcases hn.2.1 with h0 | h0
      · left; rw [List.isEmpty_iff.1 h0] at hl1; exact List.length_eq_zero_iff.1 hl1
      · right
        refine ⟨h0.1, fun he => ?_⟩
        rw [he] at hlm
        have := List.length_eq_zero_iff.1 hlm.symm
        rw [this] at h0
        simp at h0
    · rename_i k len tot sz'
      split at hr <;> (try simp only [reduceCtorEq] at hr)
      rename_i sz'' l hb
      split at hr <;> simp only [Option.some.injEq, reduceCtorEq] at hr
      rename_i hn
      subst hr
      simp only [gm] at g1; subst g1
      obtain ⟨blk, b1, b2⟩ := h.bx _ _ hb
      cases blk <;> simp only [gB] at b2
      rename_i sz3 l1
      obtain ⟨rfl, b2⟩ := b2
      have hl1 := b2.length
      refine ⟨{ env := Ab.put s.env dd (.rs k [] 0 (l1.length + m.length) (l1.length + m.length) sz .tip), bx := Ab.put s.bx k (.arr sz (l1 ++ m)) }, (h.putB k (by simp only [gB, true_and]; exact b2.append g5)).put (some dd) (by simp only [gm, hl1, hlm]), by simp only [tkA, h1]; exact Kp.new, fun K hK => g2 _ (g4 _ (g6 _ ?_))⟩
      simp only [exAppend, b1]
      rw [hl1, hlm] at *
      exact ⟨hn, hK⟩
  | copy sz x y =>
    simp only [exA] at hr
    split at hr <;> (try simp only [reduceCtorEq] at hr)
    rename_i k pth off len tot sz' c q h1 h2
    split at hr <;> (try simp only [reduceCtorEq] at hr)
    rename_i ys hy
    obtain ⟨pp, g1, g2⟩ := vgA_gm h h1
    simp only [gm] at g1; subst g1
    obtain ⟨qq, g3, g4⟩ := vgA_gm h h2
    obtain ⟨m, g5, g6⟩ := srcA_gm h g3 hy
    have hlm := g5.length
    have hsrc : ∀ K : St → Prop, exCopy s d sz (.rs k pth off len tot sz' c) m K → ex s d (.copy sz x y) K := by
      intro K hK
      simp only [ex]
      refine g2 _ (g4 _ ?_)
      have := g6 (fun ys => exCopy s d sz (.rs k pth off len tot sz' c) ys K) hK
      cases q <;> cases qq <;> simp only [gm, reduceCtorEq] at g3 <;> first | exact this | (simp [srcA, contentA] at hy; done) | (exact absurd g3 (by simp))
    split at hr <;> (try simp only [reduceCtorEq] at hr)
    · rename_i sz'' l hb
      split at hr <;> simp only [Option.some.injEq, reduceCtorEq] at hr
      rename_i hn
      subst hr
      obtain ⟨blk, b1, b2⟩ := h.bx _ _ hb
      cases blk <;> simp only [gB] at b2
      rename_i sz3 l1
      obtain ⟨rfl, b2⟩ := b2
      have hl1 := b2.length
      refine ⟨_, (h.putB k (b := .arr sz (l.take off ++ ys.take (min ys.length len) ++ l.drop (off + min ys.length len))) (blk := .arr sz (l1.take off ++ m.take (min m.length len) ++ l1.drop (off + min m.length len))) ?_).put d (gm_int (x := ((min m.length len : Nat) : Int)) ?_), by simp only [tkA, h1]; exact Kp.put Kp.new, fun K hK => hsrc K ?_⟩
      · simp only [gB, true_and, hlm]
        exact ((b2.take _).append (g5.take _)).append (b2.drop _)
      · intro z hz; cases hz; rw [hlm]
      · simp only [exCopy, b1]
        exact ⟨⟨by rw [hl1]; exact hn.1, hn.2.1, hn.2.2.1, hn.2.2.2.1, by rw [hl1]; exact hn.2.2.2.2⟩, hK⟩
    · rename_i v hb
      split at hr <;> (try simp only [reduceCtorEq] at hr)
      rename_i sz'' n l hg
      split at hr <;> (try simp only [reduceCtorEq] at hr)
      rename_i v' hv
      split at hr <;> simp only [Option.some.injEq, reduceCtorEq] at hr
      rename_i hn
      subst hr
      obtain ⟨blk, b1, b2⟩ := h.bx _ _ hb
      cases blk <;> simp only [gB] at b2
      rename_i u
      obtain ⟨w, c1, c2⟩ := getA_gm b2 hg
      cases w <;> simp only [gm] at c2
      rename_i sz3 n3 l1
      obtain ⟨⟨rfl, rfl⟩, c2⟩ := c2
      have hnew : gm (.ar sz3 n3 (l.take off ++ ys.take (min ys.length len) ++ l.drop (off + min ys.length len))) (.ar sz3 n3 (l1.take off ++ m.take (min m.length len) ++ l1.drop (off + min m.length len))) := by
        simp only [gm, true_and, hlm]
        exact ((c2.take _).append (g5.take _)).append (c2.drop _)
      obtain ⟨u', e1, e2⟩ := setA_gm b2 hnew hv
      refine ⟨_, (h.putB k (b := .box v') (blk := .box u') (by simp only [gB]; exact e2)).put d (gm_int (x := ((min m.length len : Nat) : Int)) ?_), by simp only [tkA, h1]; exact Kp.put Kp.new, fun K hK => hsrc K ?_⟩
      · intro z hz; cases hz; rw [hlm]
      · simp only [exCopy, b1, c1, e1]
        exact ⟨hn, hK⟩
  | convB x =>
    simp only [exA] at hr
    split at hr <;> simp only [Option.some.injEq, reduceCtorEq] at hr
    rename_i bs h1
    subst hr
    obtain ⟨p, g1, g2⟩ := vgA_gm h h1
    cases p <;> simp only [gm] at g1
    subst g1
    rename_i l
    exact ⟨_, h.put d (p := .sl 1 (l.map u8) false) (by simp only [gm, true_and]; exact strA_gm l), Kp.same, fun K hK => g2 _ hK⟩
  | _ => simp [exA] at hr
end Go.Ab
namespace Go.Ab
variable [Tabs]
theorem zeroOf_fun : zeroOf = zeroOf0 := by
  funext P t
  cases h : zeroOf0 P t with
  | none => simp only [zeroOf, h]
  | some z =>
    simp only [zeroOf, h]
    rw [zr_eq]
    unfold zeroOf0 at h
    split at h
    · rename_i z' i hz hi
      rw [hz]
      (repeat' split at h) <;> first | exact h | (simp at h; done)
    · simp at h
def trBuiltin0 (P : Program) (b : Builtin) (args : List Operand) (tys : List TypeId) : Option AK :=
  match b, args, tys with
  | .len, [x], [t] => match P.underlying t, trX x with
    | some .string, some y => some (.lenS y)
    | some (.slice _), some y => some (.len y)
    | some (.array n _), some _ => some (.lenC n)
    | some (.pointer a), some _ => match P.underlying a with | some (.array n _) => some (.lenC n) | _ => none
    | _, _ => none
  | .min, xs, _ => match trXs xs with | some l => some (.mm false l) | none => none
  | .max, xs, _ => match trXs xs with | some l => some (.mm true l) | none => none
  | .append, [x, y], [t, u] => match P.underlying t, P.underlying u, trX x, trX y with
    | some (.slice e), some d, some x, some y => match P.info? e with
      | some i => match i.zero with
        | some z => if z.cells.size = i.size ∧ 0 < i.size then (match d with
          | .slice _ => some (.append i.size i.bytes false x y)
          | .string => if i.size = 1 then some (.append i.size i.bytes true x y) else none
          | _ => none) else none
        | none => none
      | none => none
    | _, _, _, _ => none
  | .clear, [x], [t] => match P.underlying t, trX x with
    | some (.slice e), some x => match szOf P e, zeroOf0 P e with | some n, some z => if 0 < n then some (.fill n z x) else none | _, _ => none
    | _, _ => none
  | .copy, [x, y], [t, _] => match P.underlying t, trX x, trX y with
    | some (.slice e), some x, some y => match szOf P e with | some n => some (.copy n x y) | none => none
    | _, _, _ => none
  | _, _, _ => none
def trK0 (P : Program) (own : Bool) : Op → Option AK
  | .move x | .assign x => match trX x with | some y => some (.mv y) | none => none
  | .pick c a b => match trX c, trX a, trX b with | some c, some a, some b => some (.pick c a b) | _, _, _ => none
  | .alloc t => match zeroOf0 P t with | some z => some (.alloc z) | none => none
  | .box _ x => match trX x with | some y => some (.box y) | none => none
  | .build t parts => match zeroOf0 P t, trParts parts.toList, P.underlying t with
    | some (.st w l), some ps, some (.struct fs) => if fs.toList.map (fun f => (f.offset, P.cellsOf f.type)) = offs 0 l ∧ fs.toList.all (fun f => (P.info? f.type).isSome) = true then some (.build (.st w l) ps) else none
    | some (.ar sz n l), some ps, some (.array _ e) => if szOf P e = some sz then some (.build (.ar sz n l) ps) else none
    | _, _, _ => none
  | .buildSlice t n parts => match P.underlying t, trParts parts.toList with
    | some (.slice e), some ps => match zeroOf0 P e, szOf P e with
      | some z, some sz => if 0 < sz ∧ n * sz ≤ 2 ^ 24 then some (.buildSlice own sz z n ps) else none
      | _, _ => none
    | _, _ => none
  | .load t a => match aggOf P t, szOf P t, trX a with
    | some g, some n, some x => if g = true ∨ n = 1 then some (.load g n x) else none
    | _, _, _ => none
  | .store t a v => match szOf P t, trX a, trX v with | some n, some x, some y => some (.store n x y) | _, _, _ => none
  | .nilCheck x => match trX x with | some y => some (.nilCheck y) | none => none
  | .binOp op t x y _ => match trX x, trX y with
    | some p, some q => if op = .eql ∨ op = .neq then (match P.underlying t with
        | some (.int _) | some .string => some (.bin op .no p q)
        | some .bool => some (.bin op .bl p q)
        | some (.pointer _) => some (.bin op .ptr p q)
        | some (.slice _) => (match y with | .const (.slice none 0 0) => some (.isNil (decide (op = .neq)) p) | _ => none)
        | some (.struct _) | some (.array _ _) => if P.eqGuardType P.depth t = false then (match shOf P 20 t with | some sh => some (.bin op (.sh sh) p q) | none => none) else none
        | _ => none) else some (.bin op .no p q)
    | _, _ => none
  | .unOp op _ x => match trX x with | some y => some (.un op y) | none => none
  | .convert s d x => match P.underlying s, P.underlying d, trX x with
    | some (.int _), some (.int k), some y => some (.convI k y)
    | some (.slice e), some .string, some y => (match P.underlying e with | some (.int .u8) => some (.convS y) | _ => none)
    | some .string, some (.slice e), some y => (match P.underlying e with | some (.int .u8) => some (.convB y) | _ => none)
    | _, _, _ => none
  | .makeFunc f a b => match trXs a.toList, trXs b.toList with | some p, some q => some (.mkFunc f p q) | _, _ => none
  | .makeSlice t l c => match P.underlying t, trX l, trX c with
    | some (.slice e), some l, some c => (match zeroOf0 P e, P.info? e with | some z, some i => if 0 < i.size then some (.makeSlice i.size i.bytes z l c) else none | _, _ => none)
    | _, _, _ => none
  | .slice t x lo hi mx => match P.underlying t, trX x, trO lo, trO hi, trO mx with
    | some .string, some x, some lo, some hi, some mx => some (.slice .str x lo hi mx)
    | some (.slice e), some x, some lo, some hi, some mx => (match szOf P e with | some n => if mx.isSome = true → hi.isSome = true then some (.slice (.sl n) x lo hi mx) else none | none => none)
    | some (.array n e), some x, some lo, some hi, some mx => (match szOf P e with | some sz => some (.slice (.ar n sz) x lo hi mx) | none => none)
    | _, _, _, _, _ => none
  | .fieldAddr t x f => match P.underlying t, trX x with
    | some (.struct fs), some y => (match fs[f]? with
      | some g => (match szOf P g.type with | some (_ + 1) => some (.fieldA f g.offset y) | _ => none)
      | none => none)
    | _, _ => none
  | .field t x f => match P.underlying t, trX x with
    | some (.struct fs), some y => (match fs[f]? with
      | some g => (match aggOf P g.type, szOf P g.type with | some a, some n => if a = true ∨ n = 1 then some (.field f g.offset a n y) else none | _, _ => none)
      | none => none)
    | _, _ => none
  | .indexAddr t x i => match P.underlying t, trX x, trX i with
    | some (.slice e), some x, some i => (match szOf P e with | some n => some (.indexA (.sl n) x i) | none => none)
    | some (.array k e), some x, some i => (match szOf P e with | some n => some (.indexA (.ar k n) x i) | none => none)
    | _, _, _ => none
  | .index t x i => match P.underlying t, trX x, trX i with
    | some (.array k e), some x, some i => (match aggOf P e, szOf P e with | some a, some n => if a = true ∨ n = 1 then some (.index a k n x i) else none | _, _ => none)
    | some .string, some x, some i => some (.indexS x i)
    | _, _, _ => none
  | .extract x i => match trX x with | some y => some (.extract i y) | none => none
  | .call { callee := .value f, args, .. } => match trX f, trXs args.toList with | some g, some l => some (.call g l) | _, _ => none
  | .call { callee := .builtin b, args, argTypes } => trBuiltin0 P b args.toList argTypes.toList
  | .sliceToArrayPointer t x => match P.underlying t, trX x with
    | some (.array n e), some y => (match szOf P e with | some sz => some (.s2a n sz y) | none => none)
    | _, _ => none
  | .makeMap t none => match P.underlying t with
    | some (.map k e) => (match shOf P 20 k, shOf P 20 e with | some ks, some vs => some (.mkMap ks vs) | _, _ => none)
    | _ => none
  | .lookup t m x ok => match P.underlying t, trX m, trX x with
    | some (.map k e), some m, some x => (match shOf P 20 k, shOf P 20 e, zeroOf0 P e with
      | some ks, some vs, some z => if fits vs z = true then some (.mapGet ks vs z ok m x) else none
      | _, _, _ => none)
    | _, _, _ => none
  | .mapUpdate t m x y => match P.underlying t, trX m, trX x, trX y with
    | some (.map k e), some m, some x, some y => (match shOf P 20 k, shOf P 20 e with | some ks, some vs => some (.mapSet ks vs m x y) | _, _ => none)
    | _, _, _, _ => none
  | _ => none
def trOper0 (P : Program) (nt : Nat) (ops : Array Oper) (own sp : List Nat) (draw : Bool) (o : Oper) : Option AO :=
  match trK0 P (match o.dst with | some d => own.contains d | none => false) o.op, trGuard ops o.guard with
  | some k, some g => if dstOk nt o.dst k = true then some ⟨o.dst, g, mergeable k && !(match o.dst with | some d => sp.contains d | none => false), fixK P (draw && !ownD own o.dst) o.type k⟩ else none
  | _, _ => none
def trOpers0 (P : Program) (nt : Nat) (ops : Array Oper) (own sp : List Nat) (draw : Bool) : List Oper → Option (List AO)
  | [] => some []
  | o :: r => match trOper0 P nt ops own sp draw o, trOpers0 P nt ops own sp draw r with | some x, some l => some (x :: l) | _, _ => none
def trCode0 (P : Program) (nt : Nat) (own sp : List Nat) : Code → Option ACode
  | .skip => some .skip
  | .region _ ops false => match trOpers0 P nt ops own sp false ops.toList with | some l => some (.region l) | none => none
  | .region _ ops true => match trOpers0 P nt ops own sp true ops.toList with | some l => if P.follows .mixedOrders = true then (if okDraw ops l = true then some (.region l) else if okDrawW ops l (planOf ops l) (earlyOf ops l) = true then some (.regionD l (planOf ops l) (earlyOf ops l)) else none) else none | none => none
  | .seq x y => match trCode0 P nt own sp x, trCode0 P nt own sp y with | some x, some y => some (.seq x y) | _, _ => none
  | .cond c x y => match trX c, trCode0 P nt own sp x, trCode0 P nt own sp y with | some c, some x, some y => some (.cond c x y) | _, _, _ => none
  | .block id x => match trCode0 P nt own sp x with | some x => some (.block id x) | none => none
  | .loop x => match trCode0 P nt own sp x with | some x => some (.loop x) | none => none
  | .exit id => some (.exit id)
  | .ret => some .ret
  | .rangeFunc g ps x y => match trX g, trCode0 P nt own sp x, trCode0 P nt own sp y with
    | some g, some x, some y => if (ps.toList.all (fun t => decide (t < nt)) && noRF x && noRF y) = true then some (.rangeF g ps.toList x y) else none
    | _, _, _ => none
  | _ => none
def trFun0 (P : Program) (own sp : List Nat) (f : FuncId) : Option AFun :=
  match P.funcs[f]? with
  | some fn => if (fn.name == "runtime.NumGoroutine") = false then (match fn.body with
    | some c => match trCode0 P fn.ntmps own sp c, allM (trRes P) fn.results.toList with
      | some ac, some rs => some ⟨fn.ntmps, rs, ac⟩
      | _, _ => none
    | none => none) else none
  | none => none
theorem trBuiltin_0 : trBuiltin = trBuiltin0 := by
  funext P b x y
  unfold trBuiltin trBuiltin0
  rw [zeroOf_fun]
  rfl
theorem trK_0 : trK = trK0 := by
  funext P b x
  unfold trK trK0
  rw [zeroOf_fun, trBuiltin_0]
  rfl
theorem trOper_0 : trOper = trOper0 := by
  funext P nt ops own sp d o
  unfold trOper trOper0
  rw [trK_0]
  rfl
theorem trOpers_0 (P : Program) (nt : Nat) (ops : Array Oper) (own sp : List Nat) (draw : Bool) : ∀ l, trOpers P nt ops own sp draw l = trOpers0 P nt ops own sp draw l
  | [] => by unfold trOpers trOpers0; rfl
  | o :: r => by
    unfold trOpers trOpers0
    rw [trOper_0, trOpers_0 P nt ops own sp draw r]
    rfl
theorem trCode_0 (P : Program) (nt : Nat) (own sp : List Nat) : ∀ c, trCode P nt own sp c = trCode0 P nt own sp c := by
  intro c
  induction c with
  | seq x y ihx ihy => (simp only [trCode, trCode0, ihx, ihy]; rfl)
  | cond c x y ihx ihy => (simp only [trCode, trCode0, ihx, ihy]; rfl)
  | block id x ih => (simp only [trCode, trCode0, ih]; rfl)
  | loop x ih => (simp only [trCode, trCode0, ih]; rfl)
  | rangeFunc g ps x y ihx ihy => (simp only [trCode, trCode0, ihx, ihy]; rfl)
  | region id ops d => cases d <;> (simp only [trCode, trCode0, trOpers_0]; rfl)
  | _ => simp only [trCode, trCode0]
theorem trFun_0 : trFun = trFun0 := by
  funext P own sp f
  unfold trFun trFun0
  have e : trCode = trCode0 := by funext P nt own sp c; exact trCode_0 P nt own sp c
  rw [e]
  rfl
end Go.Ab
namespace Go.Ab
variable [Tabs]
variable {P : Program} [YCtx]
mutual
def leA : AV → AV → Bool
  | _, .un => true
  | .bl x, .bl y => (match y with | none => true | some y => (match x with | some x => x == y | none => false))
  | .int k n, .int k' m => decide (k = k') && (match m with | none => true | some y => (match n with | some x => decide (x = y) | none => false))
  | .str l, .str m => decide (l = m)
  | .st w l, .st w' m => decide (w = w') && leAL l m
  | .ar sz n l, .ar sz' n' m => decide (sz = sz' ∧ n = n') && leAL l m
  | .sl sz l c, .sl sz' m c' => decide (sz = sz' ∧ c = c') && leAL l m
  | .tup l, .tup m => leAL l m
  | .np, .np => true
  | _, _ => false
def leAL : List AV → List AV → Bool
  | [], [] => true
  | a :: l, b :: m => leA a b && leAL l m
  | _, _ => false
end
mutual
theorem leA_gm : ∀ {a b : AV} {p : PV}, leA a b = true → gm a p → gm b p := by
  intro a b p h hp
  cases b with
  | un => simp [gm]
  | bl y =>
    cases a <;> simp only [leA, reduceCtorEq, Bool.false_eq_true] at h
    cases p <;> simp only [gm] at hp ⊢
    intro z hz; subst hz
    simp only at h
    split at h
    · rename_i x; have : x = z := by simpa using h
      subst this; exact hp _ rfl
    · simp at h
  | int k' m =>
    cases a <;> simp only [leA, Bool.and_eq_true, decide_eq_true_eq, Bool.false_eq_true] at h
    cases p <;> simp only [gm] at hp ⊢
    refine ⟨hp.1.trans h.1, fun z hz => ?_⟩
    subst hz
    have h2 := h.2
    simp only at h2
    split at h2
    · rename_i x; have : x = z := by simpa using h2
      subst this; exact hp.2 _ rfl
    · simp at h2
  | str m =>
    cases a <;> simp only [leA, decide_eq_true_eq, Bool.false_eq_true] at h
    cases p <;> simp only [gm] at hp ⊢
    rw [hp, h]
  | st w m =>
    cases a <;> simp only [leA, Bool.and_eq_true, decide_eq_true_eq, Bool.false_eq_true] at h
    cases p <;> simp only [gm] at hp ⊢
    exact ⟨hp.1.trans h.1, leAL_gm h.2 hp.2⟩
  | ar sz n m =>
    cases a <;> simp only [leA, Bool.and_eq_true, decide_eq_true_eq, Bool.false_eq_true] at h
    cases p <;> simp only [gm] at hp ⊢
    exact ⟨⟨hp.1.1.trans h.1.1, hp.1.2.trans h.1.2⟩, leAL_gm h.2 hp.2⟩
  | sl sz m c =>
    cases a <;> simp only [leA, Bool.and_eq_true, decide_eq_true_eq, Bool.false_eq_true] at h
    cases p <;> simp only [gm] at hp ⊢
    exact ⟨⟨hp.1.1.trans h.1.1, hp.1.2.trans h.1.2⟩, leAL_gm h.2 hp.2⟩
  | tup m =>
    cases a <;> simp only [leA, Bool.false_eq_true] at h
    cases p <;> simp only [gm] at hp ⊢
    exact leAL_gm h hp
  | np => cases a <;> simp only [leA, Bool.false_eq_true] at h; exact hp
  | _ => cases a <;> simp [leA] at h
theorem leAL_gm : ∀ {l m : List AV} {ps : List PV}, leAL l m = true → gmL l ps → gmL m ps
  | [], [], _, _, h => h
  | [], _ :: _, _, h, _ => by simp [leAL] at h
  | _ :: _, [], _, h, _ => by simp [leAL] at h
  | a :: l, b :: m, [], _, h => by simp [gmL] at h
  | a :: l, b :: m, p :: ps, h, hg => by
    simp only [leAL, Bool.and_eq_true] at h
    simp only [gmL] at hg ⊢
    exact ⟨leA_gm h.1 hg.1, leAL_gm h.2 hg.2⟩
end
inductive SR where
  | val (a : AV)
  | own (sz : Nat) (l : List AV)
  | gen (r : AV) (sz : Nat) (l : List AV)
structure Spec where
  f : FuncId
  args : List AV
  res : SR
def AV.pureT : AV → Bool
  | .tup l => pureA l
  | a => a.pure
def isR (k : Nat) : AV → Bool
  | .rs k' _ _ _ _ _ _ => decide (k' = k)
  | _ => false
def okG (k : Nat) : AV → Bool
  | .tup l => l.all fun a => a.pure || isR k a
  | _ => false
def rnA (k' : Nat) : AV → AV
  | .rs _ p o le t s c => .rs k' p o le t s c
  | a => a
def rnT (k' : Nat) : AV → AV
  | .tup l => .tup (l.map (rnA k'))
  | a => a
theorem rnL_gm {k : Nat} (ρ : Nat → Nat) : ∀ {l : List AV} {m : List PV}, gmL l m → (l.all fun a => a.pure || isR k a) = true → gmL (l.map (rnA (ρ k))) (renL ρ m)
  | [], [], _, _ => by simp [gmL, renL]
  | [], _ :: _, h, _ => by simp [gmL] at h
  | _ :: _, [], h, _ => by simp [gmL] at h
  | a :: l, p :: m, h, hp => by
    simp only [gmL] at h
    simp only [List.all_cons, Bool.and_eq_true, Bool.or_eq_true] at hp
    simp only [List.map_cons, renL, gmL]
    refine ⟨?_, rnL_gm ρ h.2 hp.2⟩
    rcases hp.1 with hq | hq
    · rw [refsOk_false_ren (h.1.refs hq)]
      have : rnA (ρ k) a = a := by cases a <;> first | rfl | simp [AV.pure] at hq
      rw [this]; exact h.1
    · cases a <;> simp only [isR, decide_eq_true_eq, Bool.false_eq_true] at hq
      subst hq
      have h1 := h.1
      simp only [gm] at h1
      subst h1
      simp only [rnA, ren, gm]
theorem refsG {k : Nat} {f : Nat → Bool} (hf : f k = true) : ∀ {l : List AV} {m : List PV}, gmL l m → (l.all fun a => a.pure || isR k a) = true → refsOkL f m = true
  | [], [], _, _ => rfl
  | [], _ :: _, h, _ => by simp [gmL] at h
  | _ :: _, [], h, _ => by simp [gmL] at h
  | a :: l, p :: m, h, hp => by
    simp only [gmL] at h
    simp only [List.all_cons, Bool.and_eq_true, Bool.or_eq_true] at hp
    simp only [refsOkL, Bool.and_eq_true]
    refine ⟨?_, refsG hf h.2 hp.2⟩
    rcases hp.1 with hq | hq
    · exact refsOk_weaken (by simp) p (h.1.refs hq)
    · cases a <;> simp only [isR, decide_eq_true_eq, Bool.false_eq_true] at hq
      subst hq
      have h1 := h.1
      simp only [gm] at h1
      subst h1
      simpa only [refsOk] using hf
theorem rnT_gm {k : Nat} (ρ : Nat → Nat) {r : AV} {v : PV} (h : gm r v) (ho : okG k r = true) : gm (rnT (ρ k) r) (ren ρ v) := by
  cases r <;> simp only [okG, Bool.false_eq_true] at ho
  cases v <;> simp only [gm] at h
  simp only [rnT, ren, gm]
  exact rnL_gm ρ h ho
theorem rnT_refs {k : Nat} {f : Nat → Bool} (hf : f k = true) {r : AV} {v : PV} (h : gm r v) (ho : okG k r = true) : refsOk f v = true := by
  cases r <;> simp only [okG, Bool.false_eq_true] at ho
  cases v <;> simp only [gm] at h
  simp only [refsOk]
  exact refsG hf h ho
theorem okG_rnT {k k' : Nat} {r : AV} (ho : okG k r = true) : okG k' (rnT k' r) = true := by
  cases r <;> simp only [okG, Bool.false_eq_true] at ho
  rename_i l
  simp only [rnT, okG, List.all_map]
  rw [List.all_eq_true] at ho ⊢
  intro a ha
  have := ho a ha
  simp only [Bool.or_eq_true, Function.comp] at this ⊢
  rcases this with h | h
  · left
    cases a <;> first | exact h | simp [AV.pure] at h
  · right
    cases a <;> simp only [isR, decide_eq_true_eq, Bool.false_eq_true] at h
    simp [rnA, isR]
theorem rnT_rnT {k k' : Nat} (r : AV) : rnT k (rnT k' r) = rnT k r := by
  cases r <;> simp only [rnT, List.map_map]
  congr 1
  apply List.map_congr_left
  intro a _
  cases a <;> rfl
def Spec.ok (P : Program) (e : Spec) : Prop := ∀ ps, gmL e.args ps → match e.res with
  | .val r => r.pureT = true ∧ ∃ v, gm r v ∧ ARet P e.f ps v
  | .own sz l => pureA l = true ∧ ∃ m, gmL l m ∧ AOwn P e.f ps sz m
  | .gen r sz l => (okG KB r = true ∧ pureA l = true) ∧ ∃ v m, gm r v ∧ gmL l m ∧ ACalls P e.f ps [] (fun r' fp => r' = v ∧ fp = [.arr sz m])
def SpOk (P : Program) (l : List Spec) : Prop := ∀ e ∈ l, e.ok P
theorem SpOk.nil : SpOk P [] := fun _ h => by cases h
theorem SpOk.cons {e : Spec} {l : List Spec} (h : e.ok P) (hl : SpOk P l) : SpOk P (e :: l) := by
  intro x hx
  rcases List.mem_cons.1 hx with rfl | hx
  · exact h
  · exact hl x hx
theorem gm.pureT {a : AV} {p : PV} (h : gm a p) (hp : a.pureT = true) : Pure p := by
  cases a <;> simp only [AV.pureT] at hp
  case tup l =>
    cases p <;> simp only [gm] at h
    exact Pure.of (by simp only [refsOk]; exact h.refs hp)
  all_goals exact h.pureP hp
def keyA : AV → List Nat
  | .rs k _ _ _ _ _ _ => [k]
  | _ => []
def keysA : List AV → List Nat
  | [] => []
  | .sl _ l _ :: r => (l.map keyA).flatten ++ keysA r
  | a :: r => keyA a ++ keysA r
def dd : List Nat → List Nat
  | [] => []
  | k :: r => if (dd r).contains k = true then dd r else k :: dd r
theorem mem_dd : ∀ {l : List Nat} {k : Nat}, k ∈ l → k ∈ dd l
  | [], _, h => h
  | x :: r, k, h => by
    simp only [dd]
    split
    · rename_i hc
      rcases List.mem_cons.1 h with rfl | h
      · simpa using hc
      · exact mem_dd h
    · rcases List.mem_cons.1 h with rfl | h
      · simp
      · exact List.mem_cons_of_mem _ (mem_dd h)
theorem dd_nodup : ∀ l : List Nat, (dd l).Nodup
  | [] => by simp [dd]
  | x :: r => by
    simp only [dd]
    split
    · exact dd_nodup r
    · rename_i hc
      exact List.nodup_cons.2 ⟨by simpa using hc, dd_nodup r⟩
def AB.pure : AB → Bool
  | .box v => v.pure
  | .arr _ l => pureA l
def fzA (σ : AS) : AV → Option AV
  | .rs k p off len tot sz c => match contentA σ (.rs k p off len tot sz c) with | some (_, l) => if pureA l = true ∧ 0 < sz then some (.sl sz l false) else none | none => none
  | a => if a.pure = true ∧ (wkAv a).pure = true then some (wkAv a) else none
def fzL (σ : AS) : List AV → Option (List AV)
  | [] => some []
  | a :: r => match fzA σ a, fzL σ r with | some x, some l => some (x :: l) | _, _ => none
def vwA (σ : AS) : AV → Option AV
  | .sl sz l _ => match fzL σ l with | some l' => some (.sl sz l' false) | none => none
  | a => fzA σ a
def vwL (σ : AS) : List AV → Option (List AV)
  | [] => some []
  | a :: r => match vwA σ a, vwL σ r with | some x, some l => some (x :: l) | _, _ => none
structure Lent (s : St) (ks : List Nat) (blks : List Blk) : Prop where
  g : getAll s.bx ks = some blks
  p : ∀ b ∈ blks, refsOkB (fun _ => false) b = true
theorem refsOkB_weak {f : Nat → Bool} {b : Blk} (h : refsOkB (fun _ => false) b = true) : refsOkB f b = true := by
  cases b with
  | box v => exact refsOk_weaken (by simp) v h
  | arr sz l => exact refsOkL_weaken (by simp) l h
  | map b ks vs l => rfl
theorem renB_pure {ρ : Nat → Nat} {b : Blk} (h : refsOkB (fun _ => false) b = true) : renB ρ b = b := by
  cases b with
  | box v => simp only [renB]; rw [refsOk_false_ren h]
  | arr sz l => simp only [renB]; rw [refsOkL_false_ren h]
  | map b ks vs l => rfl
theorem Lent.ren {s : St} {ks : List Nat} {blks : List Blk} (h : Lent s ks blks) (ρ : Nat → Nat) : blks.map (renB ρ) = blks := by
  have : ∀ l : List Blk, (∀ b ∈ l, refsOkB (fun _ => false) b = true) → l.map (renB ρ) = l := by
    intro l
    induction l with
    | nil => intro _; rfl
    | cons b l ih => intro hl; rw [List.map_cons, renB_pure (hl b (by simp)), ih fun x hx => hl x (by simp [hx])]
  exact this blks h.p
theorem idx_mem : ∀ {l : List Nat} {k : Nat}, k ∈ l → ∃ i, idx l k = some i
  | [], _, h => by cases h
  | x :: r, k, h => by
    by_cases hx : x = k
    · exact ⟨0, by simp [idx, hx]⟩
    · obtain ⟨i, hi⟩ := idx_mem (l := r) (k := k) (by rcases List.mem_cons.1 h with h | h; exact absurd h.symm hx; exact h)
      exact ⟨i + 1, by simp [idx, hx, hi]⟩
theorem Lent.at {s : St} {ks : List Nat} {blks : List Blk} (h : Lent s ks blks) {k : Nat} (hk : k ∈ ks) : ∃ b, get s.bx k = some b ∧ get (fpBx 0 blks) (ren1 ks k) = some b ∧ inKs ks k = true := by
  obtain ⟨i, hi⟩ := idx_mem hk
  obtain ⟨h1, h2⟩ := getAll_get h.g
  obtain ⟨b, h3, h4⟩ := h2 i k (idx_get hi)
  refine ⟨b, h3, ?_, by simp [inKs, hi]⟩
  rw [get_fpBx]
  simp only [ren1, hi]
  rw [if_pos (by omega), show KB + i - KB - 0 = i by omega]
  exact h4
theorem content_get {s s' : St} {k k' off len tot sz : Nat} {p : List Step} {c : CapK} (h : get s.bx k = get s'.bx k') (K : Nat → List PV → Prop) : content s (.rs k p off len tot sz c) K = content s' (.rs k' p off len tot sz c) K := by
  simp only [content, h]
theorem fzA_gm {σ : AS} {s : St} (h : gS σ s) {ks : List Nat} {blks : List Blk} (hL : Lent s ks blks) {a b : AV} {p : PV} (hp : gm a p) (hf : fzA σ a = some b) (hk : ∀ k ∈ keyA a, k ∈ ks) :
    ∃ q, gm b q ∧ V0 (fpBx 0 blks) (wk (ren (ren1 ks) p)) q ∧ refsOk (inKs ks) p = true := by
  unfold fzA at hf
  split at hf
  · rename_i k pth off len tot sz c
    split at hf <;> (try simp only [reduceCtorEq] at hf)
    rename_i z l hc
    split at hf <;> simp only [Option.some.injEq, reduceCtorEq] at hf
    rename_i hpu
    subst hf
    have hp' := hp
    simp only [gm] at hp; subst hp
    obtain ⟨m, g1, g2⟩ := contentA_gm h hp' hc
    obtain ⟨b, h1, h2, h3⟩ := hL.at (hk k (by simp [keyA]))
    refine ⟨.sl sz m false, by simp only [gm, true_and]; exact g1, ?_, by simpa only [refsOk] using h3⟩
    simp only [ren, wk]
    have hz : z = sz := by
      have := g2 (fun a _ => a = z) rfl
      simp only [content] at this
      simp only [contentA] at hc
      split at hc
      · split at hc <;> simp only [Option.some.injEq, Prod.mk.injEq, reduceCtorEq] at hc; exact hc.1.symm
      · split at hc
        · split at hc <;> simp only [Option.some.injEq, Prod.mk.injEq, reduceCtorEq] at hc; exact hc.1.symm
        · simp at hc
      · simp at hc
    refine .inr ⟨_, pth, off, len, tot, sz, c, m, rfl, ?_, g1.refs hpu.1, hpu.2, rfl⟩
    rw [content_get (s := ⟨[], fpBx 0 blks⟩) (s' := s) (k' := k) (by rw [h1]; exact h2)]
    exact g2 _ ⟨hz, rfl⟩
  · rename_i hne
    split at hf <;> simp only [Option.some.injEq, reduceCtorEq] at hf
    rename_i hpu
    subst hf
    have hr := hp.refs hpu.1
    refine ⟨wk p, wkAv_gm hp, ?_, refsOk_weaken (by simp) p hr⟩
    rw [refsOk_false_ren hr]
    exact .inl ⟨rfl, (wkAv_gm hp).refs hpu.2⟩
theorem fzL_gm {σ : AS} {s : St} (h : gS σ s) {ks : List Nat} {blks : List Blk} (hL : Lent s ks blks) : ∀ {l m : List AV} {ps : List PV}, gmL l ps → fzL σ l = some m → (∀ k ∈ (l.map keyA).flatten, k ∈ ks) →
    ∃ qs, gmL m qs ∧ V0L (fpBx 0 blks) (wkL (renL (ren1 ks) ps)) qs ∧ refsOkL (inKs ks) ps = true
  | [], m, [], _, hf, _ => by simp only [fzL, Option.some.injEq] at hf; subst hf; exact ⟨[], by simp [gmL], by simp [renL, wkL, V0L], rfl⟩
  | [], _, _ :: _, h, _, _ => by simp [gmL] at h
  | _ :: _, _, [], h, _, _ => by simp [gmL] at h
  | a :: l, m, p :: ps, hg, hf, hk => by
    simp only [gmL] at hg
    simp only [fzL] at hf
    split at hf <;> simp only [Option.some.injEq, reduceCtorEq] at hf
    rename_i x l' h1 h2
    subst hf
    simp only [List.map_cons, List.flatten_cons, List.mem_append] at hk
    obtain ⟨q, a1, a2, a3⟩ := fzA_gm h hL hg.1 h1 (fun k hk' => hk k (.inl hk'))
    obtain ⟨qs, b1, b2, b3⟩ := fzL_gm h hL hg.2 h2 (fun k hk' => hk k (.inr hk'))
    exact ⟨q :: qs, by simp only [gmL]; exact ⟨a1, b1⟩, by simp only [renL, wkL, V0L]; exact ⟨a2, b2⟩, by simp [refsOkL, a3, b3]⟩
theorem vwA_gm {σ : AS} {s : St} (h : gS σ s) {ks : List Nat} {blks : List Blk} (hL : Lent s ks blks) {a b : AV} {p : PV} (hp : gm a p) (hf : vwA σ a = some b) (hk : ∀ k ∈ keysA [a], k ∈ ks) :
    ∃ q, gm b q ∧ V1 (fpBx 0 blks) (wk (ren (ren1 ks) p)) q ∧ refsOk (inKs ks) p = true := by
  unfold vwA at hf
  split at hf
  · rename_i sz l c
    split at hf <;> simp only [Option.some.injEq, reduceCtorEq] at hf
    rename_i l' hl
    subst hf
    cases p <;> simp only [gm] at hp
    obtain ⟨⟨rfl, rfl⟩, hp⟩ := hp
    simp only [keysA, List.append_nil] at hk
    obtain ⟨qs, b1, b2, b3⟩ := fzL_gm h hL hp hl hk
    refine ⟨.sl _ qs false, by simp only [gm]; exact ⟨⟨rfl, trivial⟩, b1⟩, ?_, by simpa only [refsOk] using b3⟩
    simp only [ren, wk]
    exact .inr (.inl ⟨_, _, qs, false, rfl, b2, rfl⟩)
  · rename_i hne
    have hk' : ∀ k ∈ keyA a, k ∈ ks := by
      intro k hkk
      cases a <;> simp [keyA] at hkk
      subst hkk
      exact hk _ (by simp [keysA, keyA])
    obtain ⟨q, a1, a2, a3⟩ := fzA_gm h hL hp hf hk'
    exact ⟨q, a1, .inl a2, a3⟩
theorem vwL_gm {σ : AS} {s : St} (h : gS σ s) {ks : List Nat} {blks : List Blk} (hL : Lent s ks blks) : ∀ {l m : List AV} {ps : List PV}, gmL l ps → vwL σ l = some m → (∀ k ∈ keysA l, k ∈ ks) →
    ∃ qs, gmL m qs ∧ V1L (fpBx 0 blks) (wkL (renL (ren1 ks) ps)) qs ∧ refsOkL (inKs ks) ps = true
  | [], m, [], _, hf, _ => by simp only [vwL, Option.some.injEq] at hf; subst hf; exact ⟨[], by simp [gmL], by simp [renL, wkL, V1L], rfl⟩
  | [], _, _ :: _, h, _, _ => by simp [gmL] at h
  | _ :: _, _, [], h, _, _ => by simp [gmL] at h
  | a :: l, m, p :: ps, hg, hf, hk => by
    simp only [gmL] at hg
    simp only [vwL] at hf
    split at hf <;> simp only [Option.some.injEq, reduceCtorEq] at hf
    rename_i x l' h1 h2
    subst hf
    have hka : ∀ k ∈ keysA [a], k ∈ ks := fun k hk' => hk k (by cases a <;> simp [keysA] at hk' ⊢ <;> first | exact .inl hk' | skip)
    have hkl : ∀ k ∈ keysA l, k ∈ ks := fun k hk' => hk k (by cases a <;> simp [keysA, hk'])
    obtain ⟨q, a1, a2, a3⟩ := vwA_gm h hL hg.1 h1 hka
    obtain ⟨qs, b1, b2, b3⟩ := vwL_gm h hL hg.2 h2 hkl
    exact ⟨q :: qs, by simp only [gmL]; exact ⟨a1, b1⟩, by simp only [renL, wkL, V1L]; exact ⟨a2, b2⟩, by simp [refsOkL, a3, b3]⟩
end Go.Ab
namespace Go.Ab
variable [Tabs]
variable {P : Program} [YCtx]
theorem callS.genR {s : St} {d : Option Nat} {f : FuncId} {args args' : List PV} {blks' : List Blk} {R : PV → List Blk → Prop} {K : St → Prop} {t : Tg K} (ks os : List Nat) (blks : List Blk) (hA : ACalls P f args' blks' R)
    (hg : getAll s.bx ks = some blks) (hn : (ks ++ os).Nodup) (hos : ∀ o ∈ os, get s.bx o = none) (ha : refsOkL (inKs ks) args = true) (hb : blks.all (refsOkB (inKs ks)) = true)
    (ha' : wkL (renL (ren1 ks) args) = args') (hb' : blks.map (renB (ren1 ks)) = blks')
    (h : ∀ r fp, R r fp → (fp.length = (ks ++ os).length ∧ refsOk (inFp fp.length) r = true ∧ fp.all (refsOkB (inFp fp.length)) = true) ∧ K ({ s with bx := putAll s.bx (ks ++ os) (fp.map (renB (ren2 (ks ++ os)))) }.put d (ren (ren2 (ks ++ os)) r))) : callS P s d f args K t := by
  subst ha' hb'
  exact ⟨ks, os, blks, R, hg, hn, hos, ha, hb, ACalls.wkA hA, h⟩
theorem callS.view {s : St} {d : Option Nat} {f : FuncId} {args args' args0 : List PV} {blks' : List Blk} {R : PV → List Blk → Prop} {K : St → Prop} {t : Tg K} (ks os : List Nat) (blks : List Blk) (hA : ACalls P f args0 [] R)
    (hg : getAll s.bx ks = some blks) (hn : (ks ++ os).Nodup) (hos : ∀ o ∈ os, get s.bx o = none) (ha : refsOkL (inKs ks) args = true) (hb : blks.all (refsOkB (inKs ks)) = true)
    (ha' : wkL (renL (ren1 ks) args) = args') (hb' : blks.map (renB (ren1 ks)) = blks') (hV : V1L (fpBx 0 blks') args' args0) (hR : ∀ r new, R r new → (noSlT r = true ∧ new.all noSlB = true) ∧ new.length = os.length)
    (h : ∀ r new, R r new → (refsOk (inFp (blks'.length + new.length)) (ren (· + blks'.length) r) = true ∧ (blks' ++ new.map (renB (· + blks'.length))).all (refsOkB (inFp (blks'.length + new.length))) = true) ∧
      K ({ s with bx := putAll s.bx (ks ++ os) ((blks' ++ new.map (renB (· + blks'.length))).map (renB (ren2 (ks ++ os)))) }.put d (ren (ren2 (ks ++ os)) (ren (· + blks'.length) r)))) : callS P s d f args K t := by
  refine callS.genR ks os blks (ACalls.view hA hV fun r new hr => (hR r new hr).1) hg hn hos ha hb ha' hb' ?_
  rintro r fp ⟨r0, new, hr, rfl, rfl⟩
  have hl : blks'.length = ks.length := by rw [← hb', List.length_map]; exact (getAll_get hg).1
  obtain ⟨⟨h1, h2⟩, h3⟩ := h r0 new hr
  have e : (blks' ++ new.map (renB (· + blks'.length))).length = blks'.length + new.length := by simp
  rw [e]
  exact ⟨⟨by rw [List.length_append, hl, (hR r0 new hr).2], h1, h2⟩, h3⟩
mutual
def noSlA : AV → Bool
  | .sl _ l _ => l.isEmpty
  | .st _ l | .ar _ _ l => noSlAL l
  | .bl _ | .int .. | .str _ | .np => true
  | _ => false
def noSlAL : List AV → Bool
  | [] => true
  | a :: l => noSlA a && noSlAL l
end
mutual
theorem noSlA_gm : ∀ {a : AV} {p : PV}, gm a p → noSlA a = true → noSl p = true
  | .sl _ l _, p, h, hp => by
    cases p <;> simp only [gm] at h
    simp only [noSlA, List.isEmpty_iff] at hp
    subst hp
    simp only [noSl, List.isEmpty_iff]
    exact List.length_eq_zero_iff.1 h.2.length
  | .st _ l, p, h, hp => by cases p <;> simp only [gm] at h; simp only [noSl]; exact noSlAL_gm h.2 (by simpa [noSlA] using hp)
  | .ar _ _ l, p, h, hp => by cases p <;> simp only [gm] at h; simp only [noSl]; exact noSlAL_gm h.2 (by simpa [noSlA] using hp)
  | .bl _, p, h, _ => by cases p <;> simp only [gm] at h; rfl
  | .int .., p, h, _ => by cases p <;> simp only [gm] at h; rfl
  | .str _, p, h, _ => by cases p <;> simp only [gm] at h; rfl
  | .np, p, h, _ => by simp only [gm] at h; subst h; rfl
  | .un, _, _, hp | .no, _, _, hp | .tup _, _, _, hp | .rs .., _, _, hp | .pt .., _, _, hp | .fp .., _, _, hp | .gd .., _, _, hp => by simp [noSlA] at hp
theorem noSlAL_gm : ∀ {l : List AV} {m : List PV}, gmL l m → noSlAL l = true → noSlL m = true
  | [], [], _, _ => rfl
  | [], _ :: _, h, _ => by simp [gmL] at h
  | _ :: _, [], h, _ => by simp [gmL] at h
  | a :: l, p :: m, h, hp => by
    simp only [gmL] at h
    simp only [noSlAL, Bool.and_eq_true] at hp
    simp [noSlL, noSlA_gm h.1 hp.1, noSlAL_gm h.2 hp.2]
end
def noSlG : AV → Bool
  | .tup l => l.all fun a => noSlA a || isR KB a
  | _ => false
theorem noSlGL_gm : ∀ {l : List AV} {m : List PV}, gmL l m → (l.all fun a => noSlA a || isR KB a) = true → noSlL m = true
  | [], [], _, _ => rfl
  | [], _ :: _, h, _ => by simp [gmL] at h
  | _ :: _, [], h, _ => by simp [gmL] at h
  | a :: l, p :: m, h, hp => by
    simp only [gmL] at h
    simp only [List.all_cons, Bool.and_eq_true, Bool.or_eq_true] at hp
    simp only [noSlL, Bool.and_eq_true]
    refine ⟨?_, noSlGL_gm h.2 hp.2⟩
    rcases hp.1 with hq | hq
    · exact noSlA_gm h.1 hq
    · cases a <;> simp only [isR, Bool.false_eq_true] at hq
      have h1 := h.1
      simp only [gm] at h1
      subst h1; rfl
theorem noSlG_gm {r : AV} {v : PV} (h : gm r v) (hp : noSlG r = true) : noSlT v = true := by
  cases r <;> simp only [noSlG, Bool.false_eq_true] at hp
  cases v <;> simp only [gm] at h
  simp only [noSlT]
  exact noSlGL_gm h hp
def findS (f : FuncId) (bs : List AV) : List Spec → Option SR
  | [] => none
  | e :: r => if decide (e.f = f) && leAL bs e.args then some e.res else findS f bs r
theorem findS_ok {f : FuncId} {bs : List AV} {qs : List PV} (hg : gmL bs qs) : ∀ {SP : List Spec} {r : SR}, SpOk P SP → findS f bs SP = some r → match r with
    | .val r => r.pureT = true ∧ ∃ v, gm r v ∧ ARet P f qs v
    | .own sz l => pureA l = true ∧ ∃ m, gmL l m ∧ AOwn P f qs sz m
    | .gen r sz l => (okG KB r = true ∧ pureA l = true) ∧ ∃ v m, gm r v ∧ gmL l m ∧ ACalls P f qs [] (fun r' fp => r' = v ∧ fp = [.arr sz m])
  | [], _, _, h => by simp [findS] at h
  | e :: SP, r, hS, h => by
    simp only [findS] at h
    split at h
    · rename_i hc
      simp only [Bool.and_eq_true, decide_eq_true_eq] at hc
      simp only [Option.some.injEq] at h
      subst h
      have := hS e (by simp) qs (leAL_gm hc.2 hg)
      rw [hc.1] at this
      exact this
    · exact findS_ok hg (fun x hx => hS x (by simp [hx])) h
def callA (SP : List Spec) (σ : AS) (d : Option Nat) (f : AX) (args : List AX) : Option AS :=
  match f, vgsA true σ args with
  | .c (.fn (.func fid) [] []), some as => if pureA as = true then (match findS fid (wkAL as) SP with
      | some (.val r) => some (σ.put d r)
      | some (.own sz l) => (match d with | some k => if (get σ.bx k).isNone = true then some { env := put σ.env k (.rs k [] 0 l.length l.length sz .tip), bx := put σ.bx k (.arr sz l) } else none | none => none)
      | some (.gen r sz l) => (match d with | some k => if (get σ.bx k).isNone = true then some { env := put σ.env k (rnT k r), bx := put σ.bx k (.arr sz l) } else none | none => none)
      | none => none)
    else (match vwL σ as with
      | some bs => if ((dd (keysA as)).all fun k => match get σ.bx k with | some b => b.pure | none => false) = true then (match findS fid bs SP with
          | some (.val r) => if noSlA r = true then some (σ.put d r) else none
          | some (.own sz l) => (match d with | some k => if (get σ.bx k).isNone = true ∧ noSlAL l = true then some { env := put σ.env k (.rs k [] 0 l.length l.length sz .tip), bx := put σ.bx k (.arr sz l) } else none | none => none)
          | some (.gen r sz l) => (match d with | some k => if (get σ.bx k).isNone = true ∧ noSlG r = true ∧ noSlAL l = true then some { env := put σ.env k (rnT k r), bx := put σ.bx k (.arr sz l) } else none | none => none)
          | none => none) else none
      | none => none)
  | _, _ => none
theorem gB.pure {b : AB} {blk : Blk} (h : gB b blk) (hp : b.pure = true) : refsOkB (fun _ => false) blk = true := by
  cases b <;> cases blk <;> simp only [gB] at h <;> simp only [AB.pure] at hp <;> simp only [refsOkB]
  · exact h.refs hp
  · exact h.2.refs hp
theorem lent_of {σ : AS} {s : St} (h : gS σ s) : ∀ {ks : List Nat}, (ks.all fun k => match get σ.bx k with | some b => b.pure | none => false) = true → ∃ blks, Lent s ks blks
  | [], _ => ⟨[], rfl, by simp⟩
  | k :: r, hk => by
    simp only [List.all_cons, Bool.and_eq_true] at hk
    obtain ⟨bs, h1, h2⟩ := lent_of h hk.2
    have h3 := hk.1
    split at h3
    · rename_i b hb
      obtain ⟨blk, h4, h5⟩ := h.bx _ _ hb
      refine ⟨blk :: bs, by simp only [getAll, h4, h1], fun x hx => ?_⟩
      rcases List.mem_cons.1 hx with rfl | hx
      · exact h5.pure h3
      · exact h2 x hx
    · simp at h3
theorem srt_putAll : ∀ {ks : List Nat} {bs : List Blk} {bx : List (Nat × Blk)}, Srt bx → Srt (putAll bx ks bs)
  | [], [], _, h => h
  | [], _ :: _, _, h => h
  | _ :: _, [], _, h => h
  | k :: ks, b :: bs, _, h => by simp only [putAll]; exact srt_putAll (h.put k b)
theorem get_same {s : St} {ks : List Nat} {blks : List Blk} (hL : Lent s ks blks) (hn : ks.Nodup) (k : Nat) : get (putAll s.bx ks blks) k = get s.bx k := by
  obtain ⟨h1, h2⟩ := getAll_get hL.g
  rw [get_putAll k hn h1]
  split
  · rename_i i hi
    obtain ⟨b, h3, h4⟩ := h2 i k (idx_get hi)
    rw [h3, h4]
  · rfl
theorem gS.same {σ : AS} {s s' : St} (h : gS σ s) (he : s'.env = s.env) (hb : ∀ k, get s'.bx k = get s.bx k) (hs : Srt s'.bx) : gS σ s' :=
  ⟨fun k a hk => by rw [he]; exact h.env k a hk, fun k hk => by rw [hb]; exact h.none k hk, fun k b hk => by rw [hb]; exact h.bx k b hk, by rw [he]; exact h.se, hs⟩
theorem putAll_snoc {b : Blk} {o : Nat} : ∀ {ks : List Nat} {blks : List Blk} {bx : List (Nat × Blk)}, blks.length = ks.length → putAll bx (ks ++ [o]) (blks ++ [b]) = put (putAll bx ks blks) o b
  | [], [], _, _ => rfl
  | [], _ :: _, _, h => by simp at h
  | _ :: _, [], _, h => by simp at h
  | k :: ks, x :: blks, _, h => by simp only [List.cons_append, putAll]; exact putAll_snoc (by simpa using h)
theorem callA_gm {SP : List Spec} (hS : SpOk P SP) {σ σ' : AS} {s : St} (h : gS σ s) {d : Option Nat} {f : AX} {args : List AX} (hr : callA SP σ d f args = some σ') : ∃ s', gS σ' s' ∧ Kp (dk d) s s' ∧ ∀ K : St → Prop, K s' → callW P s d f args K := by
  unfold callA at hr
  split at hr <;> (try simp only [reduceCtorEq] at hr)
  rename_i fid as h1
  obtain ⟨ps, g1, g2⟩ := vgsA_gm h h1
  have key : ∀ (s' : St), (∀ (K : St → Prop), K s' → callS P s d fid ps K .mk) → ∀ K : St → Prop, K s' → callW P s d (.c (.fn (.func fid) [] [])) args K := by
    intro s' hc K hK
    unfold callW
    refine g2 _ ?_
    show ∃ ks os, CallK P s d fid ([] ++ ps ++ []) ks os K
    rw [List.nil_append, List.append_nil]
    exact hc K hK
  split at hr
  · rename_i hpu
    have hpp := g1.pureL hpu
    have g3 := wkAL_gm g1
    split at hr <;> (try simp only [reduceCtorEq] at hr)
    · rename_i r hf
      simp only [Option.some.injEq] at hr
      subst hr
      obtain ⟨e1, v, e2, e3⟩ := findS_ok g3 hS hf
      exact ⟨_, h.put d e2, Kp.same, key _ fun K hK => callS.ret e3 rfl hpp (e2.pureT e1) hK⟩
    · rename_i sz l hf
      split at hr <;> (try simp only [reduceCtorEq] at hr)
      rename_i k
      split at hr <;> simp only [Option.some.injEq, reduceCtorEq] at hr
      rename_i hn
      subst hr
      obtain ⟨e1, m, e2, e3⟩ := findS_ok g3 hS hf
      have hl := e2.length
      exact ⟨_, h.new k (p := .rs k [] 0 m.length m.length sz .tip) (by simp only [gm, hl]) (b := .arr sz l) (blk := .arr sz m) (by simp only [gB, true_and]; exact e2), Kp.new, key _ fun K hK => callS.own k e3 rfl hpp (e2.pureL e1) (h.none k (none_of hn)) hK⟩
    · rename_i r sz l hf
      split at hr <;> (try simp only [reduceCtorEq] at hr)
      rename_i k
      split at hr <;> simp only [Option.some.injEq, reduceCtorEq] at hr
      rename_i hn
      subst hr
      obtain ⟨⟨e0, e1⟩, v, m, e2, e3, e4⟩ := findS_ok g3 hS hf
      have hm := e3.pureL e1
      have hr2 : ren2 [k] KB = k := by simp [ren2]
      have hg : gm (rnT k r) (ren (ren2 [k]) v) := by have := rnT_gm (ren2 [k]) e2 e0; rwa [hr2] at this
      refine ⟨{ env := put s.env k (ren (ren2 [k]) v), bx := put s.bx k (.arr sz m) }, h.new k (p := ren (ren2 [k]) v) hg (b := .arr sz l) (blk := .arr sz m) (by simp only [gB, true_and]; exact e3), Kp.new, key _ fun K hK => callS.genR [] [k] [] e4 rfl (by simp) (by simpa using h.none k (none_of hn)) (hpp.refs _) rfl (by rw [hpp.ren]) rfl ?_⟩
      rintro r' fp ⟨rfl, rfl⟩
      refine ⟨⟨rfl, rnT_refs (by simp [inFp]) e2 e0, by simp [refsOkB, hm.refs]⟩, ?_⟩
      simp only [List.nil_append, List.map_cons, List.map_nil, renB, hm.ren, putAll]
      exact hK
  · split at hr <;> (try simp only [reduceCtorEq] at hr)
    rename_i bs hbs
    split at hr <;> (try simp only [reduceCtorEq] at hr)
    rename_i hall
    obtain ⟨blks, hL⟩ := lent_of h hall
    have hnd := dd_nodup (keysA as)
    obtain ⟨qs, q1, q2, q3⟩ := vwL_gm h hL g1 hbs (fun k hk => mem_dd hk)
    have hren := hL.ren
    have hbl : blks.all (refsOkB (inKs (dd (keysA as)))) = true := List.all_eq_true.2 fun b hb => refsOkB_weak (hL.p b hb)
    have hfp : ∀ n, blks.all (refsOkB (inFp n)) = true := fun n => List.all_eq_true.2 fun b hb => refsOkB_weak (hL.p b hb)
    have hsame : gS σ { s with bx := putAll s.bx (dd (keysA as)) blks } := h.same rfl (fun k => get_same hL hnd k) (srt_putAll h.sb)
    have hlen : blks.length = (dd (keysA as)).length := (getAll_get hL.g).1
    split at hr <;> (try simp only [reduceCtorEq] at hr)
    · rename_i r hf
      split at hr <;> simp only [Option.some.injEq, reduceCtorEq] at hr
      rename_i hns
      subst hr
      obtain ⟨e1, v, e2, e3⟩ := findS_ok q1 hS hf
      have hv := e2.pureT e1
      refine ⟨_, hsame.put d e2, Kp.put (fun j _ => get_same hL hnd j), key _ fun K hK => callS.view (dd (keysA as)) [] blks e3 hL.g (by simpa using hnd) (by simp) q3 hbl rfl (hren _) q2 ?_ ?_⟩
      · rintro r new ⟨rfl, rfl⟩
        exact ⟨⟨noSlT_of (noSlA_gm e2 hns), rfl⟩, rfl⟩
      · rintro r new ⟨rfl, rfl⟩
        refine ⟨⟨by rw [hv.ren]; exact hv.refs _, by simp only [List.map_nil, List.append_nil]; exact hfp _⟩, ?_⟩
        simp only [List.map_nil, List.append_nil, hren, hv.ren]
        exact hK
    · rename_i sz l hf
      split at hr <;> (try simp only [reduceCtorEq] at hr)
      rename_i k
      split at hr <;> simp only [Option.some.injEq, reduceCtorEq] at hr
      rename_i hn
      subst hr
      obtain ⟨e1, m, e2, e3⟩ := findS_ok q1 hS hf
      have hm := e2.pureL e1
      have hl := e2.length
      have hk0 : get s.bx k = none := h.none k (none_of hn.1)
      have hkn : k ∉ dd (keysA as) := fun hk => by
        obtain ⟨b, hb, _⟩ := hL.at hk
        rw [hk0] at hb; cases hb
      refine ⟨{ env := put s.env k (.rs k [] 0 m.length m.length sz .tip), bx := put (putAll s.bx (dd (keysA as)) blks) k (.arr sz m) }, hsame.new k (p := .rs k [] 0 m.length m.length sz .tip) (by simp only [gm, hl]) (b := .arr sz l) (blk := .arr sz m) (by simp only [gB, true_and]; exact e2),
        fun j hj => by
          simp only [get_put]
          rw [if_neg (by rintro rfl; simp [dk] at hj)]
          exact get_same hL hnd j,
        key _ fun K hK => callS.view (dd (keysA as)) [k] blks e3 hL.g (by rw [List.nodup_append]; exact ⟨hnd, by simp, by simp; intro a ha e; subst e; exact hkn ha⟩) (by simpa using hk0) q3 hbl rfl (hren _) q2 ?_ ?_⟩
      · rintro r new ⟨rfl, rfl⟩
        exact ⟨⟨rfl, by simp only [List.all_cons, List.all_nil, Bool.and_true, noSlB]; exact noSlAL_gm e2 hn.2⟩, rfl⟩
      · rintro r new ⟨rfl, rfl⟩
        have hr2 : ren2 (dd (keysA as) ++ [k]) (KB + blks.length) = k := by
          unfold ren2
          rw [if_pos (by omega), show KB + blks.length - KB = blks.length by omega, hlen, List.getElem?_append_right (Nat.le_refl _)]
          simp
        refine ⟨⟨?_, ?_⟩, ?_⟩
        · simp only [ren, refsOk, inFp, List.length_cons, List.length_nil, decide_eq_true_eq]; omega
        · simp only [List.map_cons, List.map_nil, List.all_append, Bool.and_eq_true, List.all_cons, List.all_nil, Bool.and_true]
          exact ⟨hfp _, refsOkB_weak (by simp only [renB, refsOkB, hm.ren]; exact hm.refs _)⟩
        · have e4 : (blks ++ [Blk.arr sz m].map (renB (· + blks.length))).map (renB (ren2 (dd (keysA as) ++ [k]))) = blks ++ [.arr sz m] := by
            simp only [List.map_append, hren, List.map_cons, List.map_nil, renB, hm.ren]
          rw [e4, putAll_snoc hlen]
          simp only [ren, hr2]
          exact hK
    · rename_i r sz l hf
      split at hr <;> (try simp only [reduceCtorEq] at hr)
      rename_i k
      split at hr <;> simp only [Option.some.injEq, reduceCtorEq] at hr
      rename_i hn
      subst hr
      obtain ⟨⟨e0, e1⟩, v, m, e2, e3, e4⟩ := findS_ok q1 hS hf
      have hm := e3.pureL e1
      have hk0 : get s.bx k = none := h.none k (none_of hn.1)
      have hkn : k ∉ dd (keysA as) := fun hk => by
        obtain ⟨b, hb, _⟩ := hL.at hk
        rw [hk0] at hb; cases hb
      have hr2 : ren2 (dd (keysA as) ++ [k]) (KB + blks.length) = k := by
        unfold ren2
        rw [if_pos (by omega), show KB + blks.length - KB = blks.length by omega, hlen, List.getElem?_append_right (Nat.le_refl _)]
        simp
      have hg1 : gm (rnT (KB + blks.length) r) (ren (· + blks.length) v) := rnT_gm (· + blks.length) e2 e0
      have ho1 : okG (KB + blks.length) (rnT (KB + blks.length) r) = true := okG_rnT e0
      have hg : gm (rnT k r) (ren (ren2 (dd (keysA as) ++ [k])) (ren (· + blks.length) v)) := by
        have := rnT_gm (ren2 (dd (keysA as) ++ [k])) hg1 ho1
        rwa [hr2, rnT_rnT] at this
      refine ⟨{ env := put s.env k (ren (ren2 (dd (keysA as) ++ [k])) (ren (· + blks.length) v)), bx := put (putAll s.bx (dd (keysA as)) blks) k (.arr sz m) }, hsame.new k (p := ren (ren2 (dd (keysA as) ++ [k])) (ren (· + blks.length) v)) hg (b := .arr sz l) (blk := .arr sz m) (by simp only [gB, true_and]; exact e3),
        fun j hj => by
          simp only [get_put]
          rw [if_neg (by rintro rfl; simp [dk] at hj)]
          exact get_same hL hnd j,
        key _ fun K hK => callS.view (dd (keysA as)) [k] blks e4 hL.g (by rw [List.nodup_append]; exact ⟨hnd, by simp, by simp; intro a ha e; subst e; exact hkn ha⟩) (by simpa using hk0) q3 hbl rfl (hren _) q2 ?_ ?_⟩
      · rintro r new ⟨rfl, rfl⟩
        exact ⟨⟨noSlG_gm e2 hn.2.1, by simp only [List.all_cons, List.all_nil, Bool.and_true, noSlB]; exact noSlAL_gm e3 hn.2.2⟩, rfl⟩
      · rintro r' new ⟨rfl, rfl⟩
        refine ⟨⟨?_, ?_⟩, ?_⟩
        · exact rnT_refs (by simp [inFp]) hg1 ho1
        · simp only [List.map_cons, List.map_nil, List.all_append, Bool.and_eq_true, List.all_cons, List.all_nil, Bool.and_true]
          exact ⟨hfp _, refsOkB_weak (by simp only [renB, refsOkB, hm.ren]; exact hm.refs _)⟩
        · have e4 : (blks ++ [Blk.arr sz m].map (renB (· + blks.length))).map (renB (ren2 (dd (keysA as) ++ [k]))) = blks ++ [.arr sz m] := by
            simp only [List.map_append, hren, List.map_cons, List.map_nil, renB, hm.ren]
          rw [e4, putAll_snoc hlen]
          exact hK
def callQA (SP : List Spec) (σ : AS) (d : Option Nat) (f : AX) (args : List AX) : Option AS :=
  match f, vgsA true σ args with
  | .c (.fn (.func fid) [] []), some as => if pureA as = true then (match findS fid (wkAL as) SP with
      | some (.val r) => some (σ.put d r)
      | _ => none) else none
  | _, _ => none
theorem callQA_gm {SP : List Spec} (hS : SpOk P SP) {σ σ' : AS} {s : St} (h : gS σ s) {d : Option Nat} {f : AX} {args : List AX} (hr : callQA SP σ d f args = some σ') : ∃ s', gS σ' s' ∧ Kp [] s s' ∧ ∀ K : St → Prop, K s' → callQ P s d f args K := by
  unfold callQA at hr
  split at hr <;> (try simp only [reduceCtorEq] at hr)
  rename_i fid as h1
  obtain ⟨ps, g1, g2⟩ := vgsA_gm h h1
  split at hr <;> (try simp only [reduceCtorEq] at hr)
  rename_i hpu
  have hpp := g1.pureL hpu
  split at hr <;> simp only [Option.some.injEq, reduceCtorEq] at hr
  rename_i r hf
  subst hr
  obtain ⟨e1, v, e2, e3⟩ := findS_ok (wkAL_gm g1) hS hf
  refine ⟨_, h.put d e2, Kp.same, fun K hK => ?_⟩
  unfold callQ
  refine g2 _ ?_
  show ∃ v, (refsOkL (fun _ => false) ([] ++ ps ++ []) = true ∧ refsOk (fun _ => false) v = true) ∧ ACalls P fid ([] ++ ps ++ []) [] (fun r fp => r = v ∧ fp = []) ∧ K (s.put d v)
  rw [List.nil_append, List.append_nil]
  exact ⟨v, ⟨hpp.refs _, (e2.pureT e1).refs _⟩, ACalls.wkA e3, hK⟩
def do1A (SP : List Spec) (σ : AS) (o : AO) : Option AS :=
  match o.k with
  | .call f args => callA SP σ o.dst f args
  | .callq f args => callQA SP σ o.dst f args
  | k => if isEx k = true then exA σ o.dst k else (match evA true σ k with | some a => some (σ.put o.dst a) | none => none)
theorem do1A_gm {SP : List Spec} (hS : SpOk P SP) {σ σ' : AS} {s : St} (h : gS σ s) {o : AO} (hr : do1A SP σ o = some σ') : ∃ s', gS σ' s' ∧ Kp (tkA σ o.dst o.k) s s' ∧ ∀ K : St → Prop, K s' → do1 P s o K := by
  unfold do1A at hr
  unfold do1
  split at hr
  · rename_i f args hk
    obtain ⟨s', h1, hk2, h2⟩ := callA_gm hS h hr
    exact ⟨s', h1, by rw [hk]; exact hk2, fun K hK => by simp only [hk]; exact h2 K hK⟩
  · rename_i f args hk
    obtain ⟨s', h1, hk2, h2⟩ := callQA_gm hS h hr
    exact ⟨s', h1, by rw [hk]; exact hk2, fun K hK => by simp only [hk]; exact h2 K hK⟩
  · rename_i k n1 n2
    split at hr
    · rename_i he
      obtain ⟨s', h1, hk2, h2⟩ := exA_gm h hr
      refine ⟨s', h1, hk2, fun K hK => ?_⟩
      split
      · rename_i f args hk; exact absurd hk (by intro e; exact n1 _ _ e)
      · rename_i f args hk; exact absurd hk (by intro e; exact n2 _ _ e)
      · rw [if_pos he]; exact h2 K hK
    · rename_i he
      split at hr <;> simp only [Option.some.injEq, reduceCtorEq] at hr
      rename_i a ha
      subst hr
      obtain ⟨p, h1, h2⟩ := evA_gm h ha
      refine ⟨_, h.put _ h1, Kp.same, fun K hK => ?_⟩
      split
      · rename_i f args hk; exact absurd hk (by intro e; exact n1 _ _ e)
      · rename_i f args hk; exact absurd hk (by intro e; exact n2 _ _ e)
      · rw [if_neg he]; exact h2 _ hK
def wpoA (SP : List Spec) (σ : AS) (o : AO) : Option AS :=
  match o.guard with
  | none => do1A SP σ o
  | some (sl, want) => match get σ.env sl with
    | some (.bl (some b)) => if o.mg = true then (match evA (b == want) σ o.k with | some p => some (σ.put o.dst (.gd (b == want) p)) | none => none)
        else if b = want then do1A SP σ o else some (σ.put o.dst .no)
    | some (.gd true (.bl (some b))) => if o.mg = true then (match evA (b == want) σ o.k with | some p => some (σ.put o.dst (.gd (b == want) p)) | none => none)
        else if b = want then do1A SP σ o else some (σ.put o.dst .no)
    | some (.gd false (.bl (some b))) => if o.mg = true then (match evA false σ o.k with | some p => some (σ.put o.dst (.gd false p)) | none => none)
        else some (σ.put o.dst .no)
    | _ => none
theorem wpoA_gm {SP : List Spec} (hS : SpOk P SP) {σ σ' : AS} {s : St} (h : gS σ s) {o : AO} (hr : wpoA SP σ o = some σ') : ∃ s', gS σ' s' ∧ Kp (tkA σ o.dst o.k) s s' ∧ ∀ K : St → Prop, K s' → wpo P s o K := by
  unfold wpoA at hr
  unfold wpo
  split at hr
  · rename_i hg
    rw [hg]
    exact do1A_gm hS h hr
  · rename_i sl want hg
    rw [hg]
    simp only
    split at hr <;> (try simp only [reduceCtorEq] at hr)
    · rename_i b hb
      obtain ⟨q, g1, g2⟩ := h.env _ _ hb
      cases q <;> simp only [gm] at g2
      have := g2 b rfl
      subst this
      rw [g1]
      simp only [Option.getD_some]
      split at hr
      · rename_i hm
        split at hr <;> simp only [Option.some.injEq, reduceCtorEq] at hr
        rename_i p hp
        subst hr
        obtain ⟨v, e1, e2⟩ := evA_gm h hp
        refine ⟨_, h.put _ (p := .gd _ v) (by simp only [gm]; exact ⟨rfl, e1⟩), Kp.same, fun K hK => ?_⟩
        rw [if_pos hm]; exact e2 _ hK
      · rename_i hm
        split at hr
        · rename_i hw
          obtain ⟨s', e1, ek, e2⟩ := do1A_gm hS h hr
          refine ⟨s', e1, ek, fun K hK => ?_⟩
          rw [if_neg hm]
          exact ⟨fun _ => e2 K hK, fun hne => absurd hw hne⟩
        · rename_i hw
          simp only [Option.some.injEq] at hr
          subst hr
          refine ⟨_, h.put _ (p := .un) (by simp only [gm]), Kp.same, fun K hK => ?_⟩
          rw [if_neg hm]
          exact ⟨fun he => absurd he hw, fun _ => hK⟩
    · rename_i b hb
      obtain ⟨q, g1, g2⟩ := h.env _ _ hb
      cases q <;> simp only [gm] at g2
      rename_i g' q
      obtain ⟨rfl, g2⟩ := g2
      cases q <;> simp only [gm] at g2
      have := g2 b rfl
      subst this
      rw [g1]
      simp only [Option.getD_some, Bool.true_and]
      split at hr
      · rename_i hm
        split at hr <;> simp only [Option.some.injEq, reduceCtorEq] at hr
        rename_i p hp
        subst hr
        obtain ⟨v, e1, e2⟩ := evA_gm h hp
        refine ⟨_, h.put _ (p := .gd _ v) (by simp only [gm]; exact ⟨rfl, e1⟩), Kp.same, fun K hK => ?_⟩
        rw [if_pos hm]; exact e2 _ hK
      · rename_i hm
        split at hr
        · rename_i hw
          obtain ⟨s', e1, ek, e2⟩ := do1A_gm hS h hr
          refine ⟨s', e1, ek, fun K hK => ?_⟩
          rw [if_neg hm]
          exact ⟨fun _ _ => e2 K hK, fun hne => absurd hw (hne (by trivial))⟩
        · rename_i hw
          simp only [Option.some.injEq] at hr
          subst hr
          refine ⟨_, h.put _ (p := .un) (by simp only [gm]), Kp.same, fun K hK => ?_⟩
          rw [if_neg hm]
          exact ⟨fun _ he => absurd he hw, fun _ => hK⟩
    · rename_i b hb
      obtain ⟨q, g1, g2⟩ := h.env _ _ hb
      cases q <;> simp only [gm] at g2
      rename_i g' q
      obtain ⟨rfl, g2⟩ := g2
      cases q <;> simp only [gm] at g2
      rw [g1]
      simp only [Option.getD_some, Bool.false_and]
      split at hr
      · rename_i hm
        split at hr <;> simp only [Option.some.injEq, reduceCtorEq] at hr
        rename_i p hp
        subst hr
        obtain ⟨v, e1, e2⟩ := evA_gm h hp
        refine ⟨_, h.put _ (p := .gd _ v) (by simp only [gm]; exact ⟨rfl, e1⟩), Kp.same, fun K hK => ?_⟩
        rw [if_pos hm]; exact e2 _ hK
      · rename_i hm
        simp only [Option.some.injEq] at hr
        subst hr
        refine ⟨_, h.put _ (p := .un) (by simp only [gm]), Kp.same, fun K hK => ?_⟩
        rw [if_neg hm]
        first | exact ⟨fun he => by cases he, fun _ => hK⟩ | simpa using hK
def wplA (SP : List Spec) : AS → List AO → Option AS
  | σ, [] => some σ
  | σ, o :: l => match wpoA SP σ o with | some σ' => wplA SP σ' l | none => none
theorem wplA_gm {SP : List Spec} (hS : SpOk P SP) : ∀ {l : List AO} {σ σ' : AS} {s : St}, gS σ s → wplA SP σ l = some σ' → ∃ s', gS σ' s' ∧ ∀ K : St → Prop, K s' → wpl P s l K
  | [], σ, σ', s, h, hr => by simp only [wplA, Option.some.injEq] at hr; subst hr; exact ⟨s, h, fun K hK => hK⟩
  | o :: l, σ, σ', s, h, hr => by
    simp only [wplA] at hr
    split at hr <;> (try simp only [reduceCtorEq] at hr)
    rename_i σ1 h1
    obtain ⟨s1, e1, _, e2⟩ := wpoA_gm hS h h1
    obtain ⟨s2, e3, e4⟩ := wplA_gm hS e1 hr
    exact ⟨s2, e3, fun K hK => e2 _ (e4 _ hK)⟩
def AS.less (σ : AS) (W : List Nat) : AS := { σ with bx := σ.bx.filter fun p => !W.contains p.1 }
theorem get_filterA {W : List Nat} (k : Nat) : ∀ l : List (Nat × AB), get (l.filter fun p => !W.contains p.1) k = if W.contains k = true then none else get l k
  | [] => by simp [get]
  | (n, v) :: r => by
    have ih := get_filterA (W := W) k r
    by_cases hn : W.contains n = true
    · rw [List.filter_cons_of_neg (by simpa using hn), ih]
      by_cases hk : n = k
      · subst hk; rw [if_pos hn, if_pos hn]
      · simp only [get, if_neg hk]
    · rw [List.filter_cons_of_pos (by simpa using hn)]
      simp only [get, ih]
      by_cases hk : n = k
      · subst hk; rw [if_pos rfl, if_neg hn, if_pos rfl]
      · rw [if_neg hk, if_neg hk]
theorem srt_filter {W : List Nat} : ∀ {l : List (Nat × Blk)}, Srt l → Srt (l.filter fun p => !W.contains p.1)
  | [], _ => trivial
  | (n, v) :: r, h => by
    by_cases hn : W.contains n = true
    · rw [List.filter_cons_of_neg (by simpa using hn)]; exact srt_filter h.2
    · rw [List.filter_cons_of_pos (by simpa using hn)]
      refine ⟨fun j x hj => ?_, srt_filter h.2⟩
      rw [get_filter] at hj
      split at hj
      · simp at hj
      · exact h.1 j x hj
theorem gS.less {σ : AS} {s : St} (h : gS σ s) (W : List Nat) : gS (σ.less W) (s.less W) := by
  refine ⟨h.env, fun k hk => ?_, fun k b hk => ?_, h.se, srt_filter h.sb⟩
  · simp only [AS.less, St.less, get_filterA, get_filter] at hk ⊢
    split at hk
    · rename_i hw; rw [if_pos hw]
    · rename_i hw; rw [if_neg hw]; exact h.none k hk
  · simp only [AS.less, St.less, get_filterA, get_filter] at hk ⊢
    split at hk
    · simp at hk
    · rename_i hw; rw [if_neg hw]; exact h.bx k b hk
def freeA (l : List AO) (σ : AS) (o : List Nat) : Bool := o.all fun i => match l[i]? with | some x => (match x.isAl with | some k => (get σ.bx k).isNone | none => true) | none => true
theorem freeA_gm {σ : AS} {s : St} (h : gS σ s) {l : List AO} {o : List Nat} (hf : freeA l σ o = true) : freeB l s o = true := by
  unfold freeA at hf
  unfold freeB
  rw [List.all_eq_true] at hf ⊢
  intro i hi
  have := hf i hi
  cases hl : l[i]? with
  | none => simp
  | some x =>
    simp only [hl] at this ⊢
    cases hk : x.isAl with
    | none => rfl
    | some k =>
      simp only [hk] at this ⊢
      rw [h.none k (none_of this)]; rfl
def drA (SP : List Spec) (l : List AO) (u W : List Nat) : AS → List Nat → Option AS
  | σ, [] => some σ
  | σ, i :: r => match l[i]? with
    | some x => if freeA l σ (i :: r) = true then (if x.quiet = true then (if u.contains i = true then (match wpoA SP (σ.less W) x with
            | some τ => if (tkA (σ.less W) x.dst x.k).isEmpty = true then drA SP l u W { τ with bx := σ.bx } r else none
            | none => none) else (match wpoA SP σ x with | some τ => drA SP l u W τ r | none => none))
          else (match wpoA SP σ x with | some τ => if (!u.contains i || (tkA σ x.dst x.k).all fun k => W.contains k) = true then drA SP l u W τ r else none | none => none)) else none
    | none => none
theorem drA_gm {SP : List Spec} (hS : SpOk P SP) {l : List AO} {u W : List Nat} : ∀ {o : List Nat} {σ σ' : AS} {s : St}, gS σ s → drA SP l u W σ o = some σ' → ∃ s', gS σ' s' ∧ ∀ K : St → Prop, K s' → wpcx P l u.contains W s o K
  | [], σ, σ', s, h, hr => by simp only [drA, Option.some.injEq] at hr; subst hr; exact ⟨s, h, fun K hK => hK⟩
  | i :: r, σ, σ', s, h, hr => by
    simp only [drA] at hr
    split at hr <;> (try simp only [reduceCtorEq] at hr)
    rename_i x hx
    split at hr <;> (try simp only [reduceCtorEq] at hr)
    rename_i hf
    have hfr := freeA_gm h hf
    split at hr
    · rename_i hq
      split at hr
      · rename_i hu
        split at hr <;> (try simp only [reduceCtorEq] at hr)
        rename_i τ ht
        split at hr <;> (try simp only [reduceCtorEq] at hr)
        obtain ⟨t1, e1, _, e2⟩ := wpoA_gm hS (h.less W) ht
        have h2 : gS { τ with bx := σ.bx } { t1 with bx := s.bx } := ⟨e1.env, h.none, h.bx, e1.se, h.sb⟩
        obtain ⟨s', e3, e4⟩ := drA_gm hS h2 hr
        refine ⟨s', e3, fun K hK => ?_⟩
        simp only [wpcx, hx]
        refine ⟨hfr, ?_⟩
        unfold stepc
        rw [if_pos hq, if_pos hu]
        exact e2 _ (e4 K hK)
      · rename_i hu
        split at hr <;> (try simp only [reduceCtorEq] at hr)
        rename_i τ ht
        obtain ⟨t1, e1, _, e2⟩ := wpoA_gm hS h ht
        obtain ⟨s', e3, e4⟩ := drA_gm hS e1 hr
        refine ⟨s', e3, fun K hK => ?_⟩
        simp only [wpcx, hx]
        refine ⟨hfr, ?_⟩
        unfold stepc
        rw [if_pos hq, if_neg hu]
        exact e2 _ (e4 K hK)
    · rename_i hq
      split at hr <;> (try simp only [reduceCtorEq] at hr)
      rename_i τ ht
      split at hr <;> (try simp only [reduceCtorEq] at hr)
      rename_i hw
      obtain ⟨t1, e1, ek, e2⟩ := wpoA_gm hS h ht
      obtain ⟨s', e3, e4⟩ := drA_gm hS e1 hr
      refine ⟨s', e3, fun K hK => ?_⟩
      simp only [wpcx, hx]
      refine ⟨hfr, ?_⟩
      unfold stepc
      rw [if_neg hq]
      refine e2 _ ⟨fun hu k b hk hb => ?_, e4 K hK⟩
      rw [ek k, hb]
      intro hin
      rw [Bool.or_eq_true] at hw
      rcases hw with hw | hw
      · exact absurd (by simpa using hu) (by simpa using hw)
      · have := List.all_eq_true.1 hw k hin
        rw [this] at hk; cases hk
def drW (SP : List Spec) (l : List AO) (u : List Nat) : AS → List Nat → List Nat
  | _, [] => []
  | σ, i :: r => match l[i]? with
    | some x => (if x.quiet = false && u.contains i then tkA σ x.dst x.k else []) ++ (match wpoA SP σ x with | some τ => drW SP l u τ r | none => [])
    | none => []
end Go.Ab
