/- Values, places and operations of an abstract reading of a Go program. No condition. -/
import Derived.Orders
import Derived.Below
import Derived.Laws.Sem
import Derived.Laws.Entries
import Derived.Laws.StructEq
import Derived.Laws.Cells
set_option linter.all false
namespace Go.Ab
inductive CapK | tip | clip | any
  deriving DecidableEq, Inhabited
inductive Step | f (i off : Nat) | i (j sz : Nat) | w (off n sz : Nat)
  deriving DecidableEq, Inhabited
def poff : List Step → Nat
  | [] => 0
  | .f _ o :: r => o + poff r
  | .i j sz :: r => j * sz + poff r
  | .w o _ sz :: r => o * sz + poff r
theorem poff_append (a b : List Step) : poff (a ++ b) = poff a + poff b := by
  induction a with
  | nil => simp [poff]
  | cons x a ih => cases x <;> simp [poff, ih] <;> omega
inductive Sh
  | b | i (k : IntKind) | s | st (l : List Sh) | ar (n : Nat) (e : Sh)
inductive PV where
  | un
  | bl (x : Bool)
  | int (k : IntKind) (n : Int)
  | str (l : List UInt8)
  | st (w : Nat) (l : List PV)
  | ar (sz n : Nat) (l : List PV)
  | tup (l : List PV)
  | sl (sz : Nat) (l : List PV) (clip : Bool)
  | rs (k : Nat) (p : List Step) (off len tot sz : Nat) (c : CapK)
  | np
  | pt (k : Nat) (p : List Step) (tot : Nat)
  | fp (sz : Nat) (l : List PV) (p : List Step)
  | fn (f : Fn) (first cap : List PV)
  | nf
  | gd (b : Bool) (v : PV)
  | ifc (t : TypeId) (v : PV)
  | ni
  | mp (k b : Nat)
  deriving Inhabited
structure ZrF where
  f : Nat → PV → List PV
  h : f = List.replicate
theorem zrF_ex : Nonempty ZrF := ⟨⟨List.replicate, rfl⟩⟩
noncomputable def zr : Nat → PV → List PV := (Classical.choice zrF_ex).f
@[simp] theorem zr_fold : (Classical.choice zrF_ex).f = zr := _root_.id rfl
theorem zr_eq : zr = List.replicate := (Classical.choice zrF_ex).h
def PV.width : PV → Nat
  | .st w _ => w
  | .ar sz n _ => n * sz
  | _ => 1
def PV.isAgg : PV → Bool
  | .st .. | .ar .. => true
  | _ => false
inductive Blk where
  | box (v : PV)
  | arr (sz : Nat) (l : List PV)
  | map (b : Nat) (ks vs : Sh) (l : List (PV × PV))
  deriving Inhabited
def Blk.tot : Blk → Nat
  | .box _ => 0
  | .arr _ l => l.length
  | .map .. => 0
def get {α : Type} : List (Nat × α) → Nat → Option α
  | [], _ => none
  | (k, v) :: r, n => if k = n then some v else get r n
def put {α : Type} : List (Nat × α) → Nat → α → List (Nat × α)
  | [], n, x => [(n, x)]
  | (k, v) :: r, n, x => if k = n then (n, x) :: r else if n < k then (n, x) :: (k, v) :: r else (k, v) :: put r n x
theorem get_put_same {α : Type} (l : List (Nat × α)) (n : Nat) (x : α) : get (put l n x) n = some x := by
  induction l with
  | nil => simp [put, get]
  | cons p r ih =>
    obtain ⟨k, v⟩ := p
    simp only [put]
    split
    · simp [get]
    · split
      · simp [get]
      · simp [get, *]
theorem get_put_ne {α : Type} (l : List (Nat × α)) (n m : Nat) (x : α) (h : n ≠ m) : get (put l n x) m = get l m := by
  induction l with
  | nil => simp [put, get, h]
  | cons p r ih =>
    obtain ⟨k, v⟩ := p
    simp only [put]
    split
    · subst_vars; simp [get, h]
    · split
      · simp [get, h]
      · simp [get, ih]
theorem get_put {α : Type} (l : List (Nat × α)) (n m : Nat) (x : α) : get (put l n x) m = if n = m then some x else get l m := by
  by_cases h : n = m
  · subst h; simp [get_put_same]
  · simp [get_put_ne _ _ _ _ h, h]
def cell (heap : Array Obj) (b o : Nat) : Option Value :=
  match heap[b]? with
  | some (.cells c _ _) => c[o]?
  | _ => none
def oneCell : Value → Bool
  | .agg _ | .tuple _ => false
  | _ => true
structure Cx where
  heap : Array Obj
  ι : Nat → Option Nat
  bx : List (Nat × Blk)
  prot : Nat → Prop
def Cx.mutb (Γ : Cx) (b : Nat) : Prop := ∃ k blk, get Γ.bx k = some blk ∧ Γ.ι k = some b
def Cx.own (Γ : Cx) (b : Nat) : Prop := Γ.mutb b ∨ Γ.prot b
def RsOk (Γ : Cx) (k : Nat) (p : List Step) (off len sz : Nat) (c : CapK) (a : Option Addr) (rcap : Nat) : Prop :=
  match Γ.ι k with
  | none => len = 0 ∧ rcap = 0
  | some b => len ≤ rcap ∧ (rcap = 0 ∨ a = some ⟨b, poff p + off * sz, none⟩) ∧ (c = .clip → rcap = len) ∧
      (c = .tip → p = [] ∧ ∃ cs e, Γ.heap[b]? = some (.cells cs e (0, 0)) ∧ (off + rcap) * sz = cs.size)
inductive RepL (Γ : Cx) : List PV → List Value → Prop
  | nil : RepL Γ [] []
  | un {ps vs v} : oneCell v = true → RepL Γ ps vs → RepL Γ (.un :: ps) (v :: vs)
  | bl {ps vs} (x) : RepL Γ ps vs → RepL Γ (.bl x :: ps) (.bool x :: vs)
  | int {ps vs} (k n) : RepL Γ ps vs → RepL Γ (.int k n :: ps) (.int k n :: vs)
  | str {ps vs} (l : List UInt8) (s : ByteArray) : s.data.toList = l → RepL Γ ps vs → RepL Γ (.str l :: ps) (.string s :: vs)
  | st {ps vs cs} (w l) : RepL Γ l cs → cs.length = w → RepL Γ ps vs → RepL Γ (.st w l :: ps) (cs ++ vs)
  | ar {ps vs cs} (sz n l) : RepL Γ l cs → l.length = n → (∀ x ∈ l, x.width = sz) → RepL Γ ps vs → RepL Γ (.ar sz n l :: ps) (cs ++ vs)
  | sl {ps vs cs} (sz l clip a rcap) : RepL Γ l cs → (∀ x ∈ l, x.width = sz) → l.length ≤ rcap → (clip = true → rcap = l.length) →
      (l ≠ [] → ∃ b o, a = some ⟨b, o, none⟩ ∧ b < Γ.heap.size ∧ ¬ Γ.own b ∧ ∀ i c, cs[i]? = some c → cell Γ.heap b (o + i) = some c) →
      RepL Γ ps vs → RepL Γ (.sl sz l clip :: ps) (.slice a l.length rcap :: vs)
  | rs {ps vs} (k p off len tot sz c v blk) : get Γ.bx k = some blk ∧ tot ≤ blk.tot → oneCell v = true →
      (tot = blk.tot → ∃ a rcap, v = .slice a len rcap ∧ RsOk Γ k p off len sz c a rcap) →
      RepL Γ ps vs → RepL Γ (.rs k p off len tot sz c :: ps) (v :: vs)
  | np {ps vs} : RepL Γ ps vs → RepL Γ (.np :: ps) (.pointer none :: vs)
  | pt {ps vs} (k p tot v blk) : get Γ.bx k = some blk ∧ tot ≤ blk.tot → oneCell v = true →
      (tot = blk.tot → ∃ b, Γ.ι k = some b ∧ v = .pointer (some ⟨b, poff p, none⟩)) → RepL Γ ps vs → RepL Γ (.pt k p tot :: ps) (v :: vs)
  | fp {ps vs cs} (sz l p b o) : RepL Γ l cs → (∀ x ∈ l, x.width = sz) → b < Γ.heap.size ∧ ¬ Γ.own b → (∀ i c, cs[i]? = some c → cell Γ.heap b (o + i) = some c) →
      RepL Γ ps vs → RepL Γ (.fp sz l p :: ps) (.pointer (some ⟨b, o + poff p, none⟩) :: vs)
  | fn {ps vs fs cs} (f first cap) : RepL Γ first fs → RepL Γ cap cs → (∀ x ∈ first, x.isAgg = false) → (∀ x ∈ cap, x.isAgg = false) →
      RepL Γ ps vs → RepL Γ (.fn f first cap :: ps) (.func f fs.toArray cs.toArray :: vs)
  | nf {ps vs} : RepL Γ ps vs → RepL Γ (.nf :: ps) (.nilFunc :: vs)
  | ifc {ps vs x} (t v) : RepL Γ [v] [x] → v.isAgg = false → RepL Γ ps vs → RepL Γ (.ifc t v :: ps) (.iface t x :: vs)
  | ni {ps vs} : RepL Γ ps vs → RepL Γ (.ni :: ps) (.nilIface :: vs)
  | mp {ps vs} (k b) : RepL Γ ps vs → RepL Γ (.mp k b :: ps) (.map (some b) :: vs)
def widths : List PV → Nat
  | [] => 0
  | p :: r => p.width + widths r
theorem widths_append (a b : List PV) : widths (a ++ b) = widths a + widths b := by
  induction a with
  | nil => simp [widths]
  | cons x a ih => simp [widths, ih]; omega
theorem widths_const {l : List PV} {sz : Nat} (h : ∀ x ∈ l, x.width = sz) : widths l = l.length * sz := by
  induction l with
  | nil => simp [widths]
  | cons x l ih =>
    simp only [widths, List.length_cons]
    rw [h x (by simp), ih (fun y hy => h y (by simp [hy])), Nat.add_mul]; omega
theorem RepL.length {Γ : Cx} {ps : List PV} {vs : List Value} (h : RepL Γ ps vs) : vs.length = widths ps := by
  induction h with
  | nil => rfl
  | st w l hl hw hr ihl ih => simp [widths, PV.width, ih, hw]
  | ar sz n l hl hn hs hr ihl ih => simp [widths, PV.width, ih, ihl, widths_const hs, hn]
  | _ => rename_i ih; simp only [List.length_cons, widths, PV.width, ih]; omega
theorem RepL.one {Γ : Cx} {ps : List PV} {vs : List Value} (h : RepL Γ ps vs) : ∀ v ∈ vs, oneCell v = true := by
  induction h with
  | nil => simp
  | st w l hl hw hr ihl ih => intro v hv; rcases List.mem_append.1 hv with h | h; exact ihl v h; exact ih v h
  | ar sz n l hl hn hs hr ihl ih => intro v hv; rcases List.mem_append.1 hv with h | h; exact ihl v h; exact ih v h
  | _ =>
    intro v hv
    rcases List.mem_cons.1 hv with h | h
    · subst h; first | rfl | assumption
    · first | (rename_i ih; exact ih v h) | simp_all
theorem RepL.append {Γ : Cx} {ps qs : List PV} {vs us : List Value} (h : RepL Γ ps vs) (h' : RepL Γ qs us) : RepL Γ (ps ++ qs) (vs ++ us) := by
  induction h with
  | nil => exact h'
  | un h hr ih => exact .un h ih
  | bl x hr ih => exact .bl x ih
  | int k n hr ih => exact .int k n ih
  | str l s h hr ih => exact .str l s h ih
  | st w l hl hw hr ihl ih => rw [List.append_assoc]; exact .st w l hl hw ih
  | ar sz n l hl hn hs hr ihl ih => rw [List.append_assoc]; exact .ar sz n l hl hn hs ih
  | sl sz l clip a rcap hl hw hc hk hb hr ihl ih => exact .sl sz l clip a rcap hl hw hc hk hb ih
  | rs k p off len tot sz c v blk hg h1 hv hr ih => exact .rs k p off len tot sz c v blk hg h1 hv ih
  | np hr ih => exact .np ih
  | pt k p tot v blk hg h1 hv hr ih => exact .pt k p tot v blk hg h1 hv ih
  | fp sz l p b o hl hw hm hc hr ihl ih => exact .fp sz l p b o hl hw hm hc ih
  | fn f first cap h1 h2 h3 h4 hr i1 i2 ih => exact .fn f first cap h1 h2 h3 h4 ih
  | nf hr ih => exact .nf ih
  | ifc t v h1 h2 hr i1 ih => exact .ifc t v h1 h2 ih
  | ni hr ih => exact .ni ih
  | mp k b hr ih => exact .mp k b ih
theorem RepL.uncons {Γ : Cx} {p : PV} {ps : List PV} {us : List Value} (h : RepL Γ (p :: ps) us) : ∃ cs vs, us = cs ++ vs ∧ RepL Γ [p] cs ∧ RepL Γ ps vs := by
  cases h with
  | un h hr => exact ⟨[_], _, rfl, .un h .nil, hr⟩
  | bl x hr => exact ⟨[_], _, rfl, .bl x .nil, hr⟩
  | int k n hr => exact ⟨[_], _, rfl, .int k n .nil, hr⟩
  | str l s h hr => exact ⟨[_], _, rfl, .str l s h .nil, hr⟩
  | @st _ vs cs w l hl hw hr => exact ⟨cs, vs, rfl, by simpa using RepL.st w l hl hw .nil, hr⟩
  | @ar _ vs cs sz n l hl hn hs hr => exact ⟨cs, vs, rfl, by simpa using RepL.ar sz n l hl hn hs .nil, hr⟩
  | sl sz l clip a rcap hl hw hc hk hb hr => exact ⟨[_], _, rfl, .sl sz l clip a rcap hl hw hc hk hb .nil, hr⟩
  | rs k p off len tot sz c v blk hg h1 hv hr => exact ⟨[_], _, rfl, .rs k p off len tot sz c v blk hg h1 hv .nil, hr⟩
  | np hr => exact ⟨[_], _, rfl, .np .nil, hr⟩
  | pt k p tot v blk hg h1 hv hr => exact ⟨[_], _, rfl, .pt k p tot v blk hg h1 hv .nil, hr⟩
  | fp sz l p b o hl hw hm hc hr => exact ⟨[_], _, rfl, .fp sz l p b o hl hw hm hc .nil, hr⟩
  | fn f first cap h1 h2 h3 h4 hr => exact ⟨[_], _, rfl, .fn f first cap h1 h2 h3 h4 .nil, hr⟩
  | nf hr => exact ⟨[_], _, rfl, .nf .nil, hr⟩
  | ifc t v h1 h2 hr => exact ⟨[_], _, rfl, .ifc t v h1 h2 .nil, hr⟩
  | ni hr => exact ⟨[_], _, rfl, .ni .nil, hr⟩
  | mp k b hr => exact ⟨[_], _, rfl, .mp k b .nil, hr⟩
theorem RepL.cons {Γ : Cx} {p : PV} {ps : List PV} {cs vs : List Value} (h : RepL Γ [p] cs) (h' : RepL Γ ps vs) : RepL Γ (p :: ps) (cs ++ vs) := h.append h'
theorem RepL.split {Γ : Cx} : ∀ {ps qs : List PV} {us : List Value}, RepL Γ (ps ++ qs) us → ∃ cs vs, us = cs ++ vs ∧ RepL Γ ps cs ∧ RepL Γ qs vs
  | [], _, us, h => ⟨[], us, rfl, .nil, h⟩
  | p :: ps, qs, us, h => by
    obtain ⟨c1, v1, rfl, h1, h2⟩ := RepL.uncons (ps := ps ++ qs) h
    obtain ⟨c2, v2, rfl, h3, h4⟩ := RepL.split h2
    exact ⟨c1 ++ c2, v2, by simp, h1.cons h3, h4⟩
theorem RepL.width1 {Γ : Cx} {p : PV} {cs : List Value} (h : RepL Γ [p] cs) : cs.length = p.width := by
  have := h.length; simpa [widths] using this
theorem RepL.at {Γ : Cx} {l : List PV} {cs : List Value} (h : RepL Γ l cs) {i : Nat} {p : PV} (hp : l[i]? = some p) :
    RepL Γ [p] ((cs.drop (widths (l.take i))).take p.width) := by
  obtain ⟨hi, rfl⟩ := List.getElem?_eq_some_iff.1 hp
  have e : l = l.take i ++ l[i] :: l.drop (i + 1) := by simp
  rw [e] at h
  obtain ⟨c1, v1, rfl, h1, h2⟩ := h.split
  obtain ⟨c2, v2, rfl, h3, h4⟩ := h2.uncons
  have l1 := h1.length
  have l2 := h3.width1
  rw [List.drop_append_of_le_length (by omega), ← l1]
  simp [← l2, h3]
theorem RepL.set {Γ : Cx} {l : List PV} {cs us : List Value} (h : RepL Γ l cs) {i : Nat} {p q : PV} (hp : l[i]? = some p) (hq : RepL Γ [q] us) (hw : q.width = p.width) :
    RepL Γ (l.set i q) (cs.take (widths (l.take i)) ++ us ++ cs.drop (widths (l.take i) + us.length)) := by
  obtain ⟨hi, rfl⟩ := List.getElem?_eq_some_iff.1 hp
  have e : l = l.take i ++ l[i] :: l.drop (i + 1) := by simp
  have hset : l.set i q = l.take i ++ q :: l.drop (i + 1) := by
    rw [List.set_eq_take_append_cons_drop]; simp [hi]
  rw [hset]
  rw [e] at h
  obtain ⟨c1, v1, rfl, h1, h2⟩ := h.split
  obtain ⟨c2, v2, rfl, h3, h4⟩ := h2.uncons
  have l1 := h1.length
  have l2 := h3.width1
  have l3 := hq.width1
  rw [← l1]
  have e1 : (c1 ++ (c2 ++ v2)).take c1.length = c1 := by simp
  have e2 : (c1 ++ (c2 ++ v2)).drop (c1.length + us.length) = v2 := by
    rw [← List.drop_drop]; simp
    rw [show us.length = c2.length by omega]; simp
  rw [e1, e2, List.append_assoc]
  exact h1.append (hq.append h4)
end Go.Ab
namespace Go.Ab
def getP : PV → List Step → Option PV
  | v, [] => some v
  | .st _ l, .f i o :: r => if widths (l.take i) = o then (match l[i]? with | some c => getP c r | none => none) else none
  | .ar sz _ l, .i j s :: r => if s = sz then (match l[j]? with | some c => getP c r | none => none) else none
  | .ar sz _ l, .w o n s :: r => if s = sz ∧ o + n ≤ l.length then getP (.ar sz n ((l.drop o).take n)) r else none
  | _, _ => none
def setP : PV → List Step → PV → Option PV
  | v, [], x => if x.width = v.width then some x else none
  | .st w l, .f i o :: r, x => if widths (l.take i) = o then (match l[i]? with | some c => (match setP c r x with | some c' => some (.st w (l.set i c')) | none => none) | none => none) else none
  | .ar sz n l, .i j s :: r, x => if s = sz then (match l[j]? with | some c => (match setP c r x with | some c' => some (.ar sz n (l.set j c')) | none => none) | none => none) else none
  | _, _, _ => none
def getB : Blk → List Step → Option PV
  | .box v, p => getP v p
  | .arr sz l, .i j s :: r => if s = sz then (match l[j]? with | some c => getP c r | none => none) else none
  | .arr sz l, .w o n s :: r => if s = sz ∧ o + n ≤ l.length then getP (.ar sz n ((l.drop o).take n)) r else none
  | .arr _ _, _ => none
  | .map .., _ => none
def setB : Blk → List Step → PV → Option Blk
  | .box v, p, x => match setP v p x with | some v' => some (.box v') | none => none
  | .arr sz l, .i j s :: r, x => if s = sz then (match l[j]? with | some c => (match setP c r x with | some c' => some (.arr sz (l.set j c')) | none => none) | none => none) else none
  | .arr _ _, _, _ => none
  | .map .., _, _ => none
theorem widths_take {l : List PV} {sz j : Nat} (h : ∀ x ∈ l, x.width = sz) (hj : j ≤ l.length) : widths (l.take j) = j * sz := by
  rw [widths_const (fun x hx => h x (List.mem_of_mem_take hx))]
  rw [List.length_take, Nat.min_eq_left hj]
theorem widths_set {l : List PV} {i : Nat} {p q : PV} (hp : l[i]? = some p) (hw : q.width = p.width) : widths (l.set i q) = widths l := by
  obtain ⟨hi, rfl⟩ := List.getElem?_eq_some_iff.1 hp
  have e : l = l.take i ++ l[i] :: l.drop (i + 1) := by simp
  have hset : l.set i q = l.take i ++ q :: l.drop (i + 1) := by
    rw [List.set_eq_take_append_cons_drop]; simp [hi]
  have := congrArg widths e
  rw [hset, widths_append, widths, hw]
  rw [widths_append, widths] at this
  omega
theorem widths_le {l : List PV} {i : Nat} {p : PV} (hp : l[i]? = some p) : widths (l.take i) + p.width ≤ widths l := by
  obtain ⟨hi, rfl⟩ := List.getElem?_eq_some_iff.1 hp
  have e : l = l.take i ++ l[i] :: l.drop (i + 1) := by simp
  have := congrArg widths e
  rw [widths_append, widths] at this
  omega
variable {Γ : Cx}
theorem RepL.st_inv {w : Nat} {l : List PV} {us : List Value} (h : RepL Γ [.st w l] us) : RepL Γ l us ∧ us.length = w := by
  cases h with
  | @st _ vs cs w l hl hw hr => cases hr; simp; exact ⟨hl, hw⟩
theorem RepL.ar_inv {sz n : Nat} {l : List PV} {us : List Value} (h : RepL Γ [.ar sz n l] us) : RepL Γ l us ∧ l.length = n ∧ ∀ x ∈ l, x.width = sz := by
  cases h with
  | @ar _ vs cs sz n l hl hn hs hr => cases hr; simp; exact ⟨hl, hn, hs⟩
theorem RepL.st1 {w : Nat} {l : List PV} {us : List Value} (h : RepL Γ l us) (hw : us.length = w) : RepL Γ [.st w l] us := by
  simpa using RepL.st w l h hw .nil
theorem RepL.ar1 {sz n : Nat} {l : List PV} {us : List Value} (h : RepL Γ l us) (hn : l.length = n) (hw : ∀ x ∈ l, x.width = sz) : RepL Γ [.ar sz n l] us := by
  simpa using RepL.ar sz n l h hn hw .nil
theorem drop_take_drop_take (cs : List Value) (o n p m : Nat) (h : p + m ≤ n) : (((cs.drop o).take n).drop p).take m = (cs.drop (o + p)).take m := by
  rw [List.drop_take, List.take_take, Nat.min_eq_left (by omega), List.drop_drop]
theorem getL_rep {l : List PV} {cs : List Value} (h : RepL Γ l cs) {j : Nat} {c : PV} (hj : l[j]? = some c) {o m : Nat} {u : PV}
    (hu : o + m ≤ c.width) (hm : m = u.width) (hr : RepL Γ [u] ((((cs.drop (widths (l.take j))).take c.width).drop o).take m)) :
    widths (l.take j) + o + m ≤ cs.length ∧ RepL Γ [u] ((cs.drop (widths (l.take j) + o)).take m) := by
  rw [drop_take_drop_take _ _ _ _ _ hu] at hr
  have h1 := widths_le hj
  have h2 := h.length
  exact ⟨by omega, hr⟩
theorem RepL.win {l : List PV} {cs : List Value} {sz o n : Nat} (h : RepL Γ l cs) (hw : ∀ x ∈ l, x.width = sz) (hn : o + n ≤ l.length) :
    RepL Γ ((l.drop o).take n) ((cs.drop (o * sz)).take (n * sz)) ∧ o * sz + n * sz ≤ cs.length := by
  have hlen := h.length
  rw [widths_const hw] at hlen
  have e : l = l.take o ++ ((l.drop o).take n ++ (l.drop o).drop n) := by rw [List.take_append_drop, List.take_append_drop]
  rw [e] at h
  obtain ⟨c1, v1, rfl, h1, h2⟩ := h.split
  obtain ⟨c2, v2, rfl, h3, h4⟩ := h2.split
  have l1 := h1.length
  rw [widths_take hw (by omega)] at l1
  have l2 := h3.length
  rw [widths_const (fun x hx => hw x (List.mem_of_mem_drop (List.mem_of_mem_take hx)))] at l2
  rw [List.length_take, List.length_drop, Nat.min_eq_left (by omega)] at l2
  rw [← l1, ← l2]
  refine ⟨by simpa using h3, by simp⟩
theorem RepL.winA {l : List PV} {cs : List Value} {sz n0 o n : Nat} (h : RepL Γ [.ar sz n0 l] cs) (hn : o + n ≤ l.length) :
    RepL Γ [.ar sz n ((l.drop o).take n)] ((cs.drop (o * sz)).take (n * sz)) ∧ o * sz + n * sz ≤ cs.length := by
  obtain ⟨h1, h2, h3⟩ := h.ar_inv
  obtain ⟨h4, h5⟩ := h1.win h3 hn
  refine ⟨h4.ar1 (by rw [List.length_take, List.length_drop, Nat.min_eq_left (by omega)]) (fun x hx => h3 x (List.mem_of_mem_drop (List.mem_of_mem_take hx))), h5⟩
theorem getP_rep : ∀ (p : List Step) {t u : PV} {cs : List Value}, RepL Γ [t] cs → getP t p = some u →
    poff p + u.width ≤ cs.length ∧ RepL Γ [u] ((cs.drop (poff p)).take u.width) := by
  intro p
  induction p with
  | nil =>
    intro t u cs h hg
    have : u = t := by cases t <;> simp [getP] at hg <;> exact hg.symm
    subst this
    have hl := h.width1
    simp only [poff, List.drop_zero]
    rw [List.take_of_length_le (by omega)]
    exact ⟨by omega, h⟩
  | cons s p ih =>
    intro t u cs h hg
    cases t <;> cases s <;> simp only [getP, reduceCtorEq] at hg
    · rename_i w l i o
      split at hg
      · rename_i hw
        split at hg
        · rename_i c hc
          obtain ⟨h1, h2⟩ := h.st_inv
          have h3 := h1.at hc
          obtain ⟨h4, h5⟩ := ih h3 hg
          have h6 := h3.width1
          have := getL_rep h1 hc (by omega) rfl h5
          rw [hw] at this
          simpa [poff] using this
        · exact absurd hg (by simp)
      · exact absurd hg (by simp)
    · rename_i sz n l j s
      split at hg
      · rename_i hs
        subst hs
        split at hg
        · rename_i c hc
          obtain ⟨h1, hn, hw⟩ := h.ar_inv
          have h3 := h1.at hc
          obtain ⟨h4, h5⟩ := ih h3 hg
          have h6 := h3.width1
          have := getL_rep h1 hc (by omega) rfl h5
          have hj := (List.getElem?_eq_some_iff.1 hc).1
          rw [widths_take hw (by omega)] at this
          simpa [poff] using this
        · exact absurd hg (by simp)
      · exact absurd hg (by simp)
    · rename_i sz n l o m s
      split at hg
      · rename_i hs
        obtain ⟨rfl, hs⟩ := hs
        obtain ⟨h1, h2⟩ := h.winA hs
        obtain ⟨h3, h4⟩ := ih h1 hg
        rw [List.length_take, List.length_drop] at h3
        rw [drop_take_drop_take _ _ _ _ _ (by omega)] at h4
        refine ⟨by simp only [poff]; omega, by simpa only [poff] using h4⟩
      · exact absurd hg (by simp)
def splice (cs : List Value) (o : Nat) (us : List Value) : List Value := cs.take o ++ us ++ cs.drop (o + us.length)
theorem splice_length {cs us : List Value} {o : Nat} (h : o + us.length ≤ cs.length) : (splice cs o us).length = cs.length := by
  simp [splice]; omega
theorem splice_splice {cs us : List Value} {o m p : Nat} (h : o + m ≤ cs.length) (h' : p + us.length ≤ m) :
    splice cs o (splice ((cs.drop o).take m) p us) = splice cs (o + p) us := by
  have hl : (splice ((cs.drop o).take m) p us).length = m := by
    rw [splice_length] <;> simp <;> omega
  simp only [splice] at hl ⊢
  rw [hl]
  apply List.ext_getElem?
  intro i
  simp only [List.getElem?_append, List.length_append, List.length_take, List.length_drop, List.getElem?_take, List.getElem?_drop]
  grind
theorem setL_rep {l : List PV} {cs us : List Value} (h : RepL Γ l cs) {j : Nat} {c c' : PV} (hj : l[j]? = some c) {o : Nat}
    (hu : o + us.length ≤ c.width) (hw : c'.width = c.width) (hr : RepL Γ [c'] (splice ((cs.drop (widths (l.take j))).take c.width) o us)) :
    widths (l.take j) + o + us.length ≤ cs.length ∧ RepL Γ (l.set j c') (splice cs (widths (l.take j) + o) us) := by
  have h1 := widths_le hj
  have h2 := h.length
  refine ⟨by omega, ?_⟩
  have h3 := h.set hj hr hw
  rw [← splice_splice (m := c.width) (by omega) hu]
  exact h3
theorem mem_set_width {l : List PV} {j sz : Nat} {c' : PV} (h : ∀ x ∈ l, x.width = sz) (hc : c'.width = sz) : ∀ x ∈ l.set j c', x.width = sz := by
  intro x hx
  rcases List.mem_or_eq_of_mem_set hx with h' | h'
  · exact h x h'
  · subst h'; exact hc
theorem setP_rep {us : List Value} {x : PV} (hx : RepL Γ [x] us) : ∀ (p : List Step) {t t' : PV} {cs : List Value}, RepL Γ [t] cs → setP t p x = some t' →
    poff p + us.length ≤ cs.length ∧ t'.width = t.width ∧ RepL Γ [t'] (splice cs (poff p) us) := by
  have hxw := hx.width1
  intro p
  induction p with
  | nil =>
    intro t t' cs h hg
    have hl := h.width1
    have : x.width = t.width ∧ t' = x := by
      cases t <;> simp only [setP] at hg <;> split at hg <;> simp_all
    obtain ⟨h1, rfl⟩ := this
    refine ⟨by simp [poff]; omega, h1, ?_⟩
    have e : splice cs 0 us = us := by simp [splice]; omega
    simpa [poff, e] using hx
  | cons s p ih =>
    intro t t' cs h hg
    cases t <;> cases s <;> simp only [setP, reduceCtorEq] at hg
    · rename_i w l i o
      split at hg
      · rename_i hw
        split at hg
        · rename_i c hc
          split at hg
          · rename_i c' hc'
            simp only [Option.some.injEq] at hg
            subst hg
            obtain ⟨h1, h2⟩ := h.st_inv
            have h3 := h1.at hc
            obtain ⟨h4, h5, h6⟩ := ih h3 hc'
            have h7 := h3.width1
            have := setL_rep h1 hc (by omega) h5 h6
            rw [hw] at this
            refine ⟨by simp [poff]; omega, rfl, ?_⟩
            simp only [poff]
            exact this.2.st1 (by rw [splice_length this.1]; exact h2)
          · exact absurd hg (by simp)
        · exact absurd hg (by simp)
      · exact absurd hg (by simp)
    · rename_i sz n l j s
      split at hg
      · rename_i hs
        subst hs
        split at hg
        · rename_i c hc
          split at hg
          · rename_i c' hc'
            simp only [Option.some.injEq] at hg
            subst hg
            obtain ⟨h1, hn, hw⟩ := h.ar_inv
            have h3 := h1.at hc
            obtain ⟨h4, h5, h6⟩ := ih h3 hc'
            have h7 := h3.width1
            have := setL_rep h1 hc (by omega) h5 h6
            have hj := (List.getElem?_eq_some_iff.1 hc).1
            rw [widths_take hw (by omega)] at this
            refine ⟨by simp [poff]; omega, rfl, ?_⟩
            simp only [poff]
            exact this.2.ar1 (by simpa using hn) (mem_set_width hw (by rw [h5]; exact hw c (List.mem_of_getElem? hc)))
          · exact absurd hg (by simp)
        · exact absurd hg (by simp)
      · exact absurd hg (by simp)
structure Le (Γ Γ' : Cx) : Prop where
  heap : ∀ b, b < Γ.heap.size → ¬ Γ.mutb b → Γ'.heap[b]? = Γ.heap[b]?
  mutb : ∀ b, b < Γ.heap.size → Γ'.mutb b → Γ.mutb b
  prot : Γ'.prot = Γ.prot
  size : Γ.heap.size ≤ Γ'.heap.size
  ref : ∀ k blk, get Γ.bx k = some blk → ∃ blk', get Γ'.bx k = some blk' ∧ blk.tot ≤ blk'.tot ∧
    (blk'.tot = blk.tot → Γ'.ι k = Γ.ι k ∧ ∀ b, Γ.ι k = some b → ∀ cs e, Γ.heap[b]? = some (.cells cs e (0, 0)) → ∃ cs', Γ'.heap[b]? = some (.cells cs' e (0, 0)) ∧ cs'.size = cs.size)
theorem Le.own {Γ Γ' : Cx} (h : Le Γ Γ') (b : Nat) (hb : b < Γ.heap.size) (ho : Γ'.own b) : Γ.own b := by
  rcases ho with ho | ho
  · exact .inl (h.mutb b hb ho)
  · rw [h.prot] at ho; exact .inr ho
theorem cell_of_heap {h h' : Array Obj} {b o : Nat} (e : h'[b]? = h[b]?) : cell h' b o = cell h b o := by simp [cell, e]
theorem RsOk.mono {Γ Γ' : Cx} {k off len sz : Nat} {p : List Step} {c : CapK} {a : Option Addr} {rcap : Nat} (h : RsOk Γ k p off len sz c a rcap) (hι : Γ'.ι k = Γ.ι k)
    (hk : ∀ b, Γ.ι k = some b → ∀ cs e, Γ.heap[b]? = some (.cells cs e (0, 0)) → ∃ cs', Γ'.heap[b]? = some (.cells cs' e (0, 0)) ∧ cs'.size = cs.size) : RsOk Γ' k p off len sz c a rcap := by
  unfold RsOk at *
  rw [hι]
  cases hb : Γ.ι k with
  | none => simpa [hb] using h
  | some b =>
    rw [hb] at h
    obtain ⟨h1, h2, h3, h4⟩ := h
    refine ⟨h1, h2, h3, fun hc => ?_⟩
    obtain ⟨hp, cs, e, hh, hs⟩ := h4 hc
    obtain ⟨cs', hh', hs'⟩ := hk b hb cs e hh
    exact ⟨hp, cs', e, hh', by omega⟩
structure LeC (Γ Γ' : Cx) : Prop where
  cell : ∀ b o c, b < Γ.heap.size → ¬ Γ.own b → cell Γ.heap b o = some c → cell Γ'.heap b o = some c
  own : ∀ b, b < Γ.heap.size → Γ'.own b → Γ.own b
  size : Γ.heap.size ≤ Γ'.heap.size
  ref : ∀ k blk, get Γ.bx k = some blk → ∃ blk', get Γ'.bx k = some blk' ∧ blk.tot ≤ blk'.tot ∧
    (blk'.tot = blk.tot → Γ'.ι k = Γ.ι k ∧ ∀ b, Γ.ι k = some b → ∀ cs e, Γ.heap[b]? = some (.cells cs e (0, 0)) → ∃ cs', Γ'.heap[b]? = some (.cells cs' e (0, 0)) ∧ cs'.size = cs.size)
theorem Le.c {Γ Γ' : Cx} (h : Le Γ Γ') : LeC Γ Γ' where
  cell b o c hb hn hc := by rw [cell_of_heap (h.heap b hb fun h => hn (.inl h))]; exact hc
  own := h.own
  size := h.size
  ref := h.ref
theorem RepL.monoC {Γ Γ' : Cx} (hle : LeC Γ Γ') {l : List PV} {cs : List Value} (h : RepL Γ l cs) : RepL Γ' l cs := by
  induction h with
  | nil => exact .nil
  | un h hr ih => exact .un h ih
  | bl x hr ih => exact .bl x ih
  | int k n hr ih => exact .int k n ih
  | str l s h hr ih => exact .str l s h ih
  | st w l hl hw hr ihl ih => exact .st w l ihl hw ih
  | ar sz n l hl hn hs hr ihl ih => exact .ar sz n l ihl hn hs ih
  | sl sz l clip a rcap hl hw hc hk hb hr ihl ih =>
    refine .sl sz l clip a rcap ihl hw hc hk (fun hne => ?_) ih
    obtain ⟨b, o, ha, hlt, hm, hcell⟩ := hb hne
    refine ⟨b, o, ha, Nat.lt_of_lt_of_le hlt hle.size, fun hm' => hm (hle.own b hlt hm'), fun i c hc => ?_⟩
    exact hle.cell b _ c hlt hm (hcell i c hc)
  | rs k p off len tot sz c v blk hg h1 hv hr ih =>
    obtain ⟨blk', hg', hle', heq⟩ := hle.ref k blk hg.1
    refine .rs k p off len tot sz c v blk' ⟨hg', Nat.le_trans hg.2 hle'⟩ h1 (fun ht => ?_) ih
    have e1 : tot = blk.tot := by have := hg.2; omega
    obtain ⟨a, rcap, hv1, hv2⟩ := hv e1
    obtain ⟨h3, h4⟩ := heq (by omega)
    exact ⟨a, rcap, hv1, hv2.mono h3 h4⟩
  | np hr ih => exact .np ih
  | pt k p tot v blk hg h1 hv hr ih =>
    obtain ⟨blk', hg', hle', heq⟩ := hle.ref k blk hg.1
    refine .pt k p tot v blk' ⟨hg', Nat.le_trans hg.2 hle'⟩ h1 (fun ht => ?_) ih
    have e1 : tot = blk.tot := by have := hg.2; omega
    obtain ⟨b, hb, hv1⟩ := hv e1
    obtain ⟨h3, h4⟩ := heq (by omega)
    exact ⟨b, by rw [h3, hb], hv1⟩
  | fp sz l p b o hl hw hm hc hr ihl ih =>
    refine .fp sz l p b o ihl hw ⟨Nat.lt_of_lt_of_le hm.1 hle.size, fun hm' => hm.2 (hle.own b hm.1 hm')⟩ (fun i c hi => ?_) ih
    exact hle.cell b _ c hm.1 hm.2 (hc i c hi)
  | fn f first cap h1 h2 h3 h4 hr i1 i2 ih => exact .fn f first cap i1 i2 h3 h4 ih
  | nf hr ih => exact .nf ih
  | ifc t v h1 h2 hr i1 ih => exact .ifc t v i1 h2 ih
  | ni hr ih => exact .ni ih
  | mp k b hr ih => exact .mp k b ih
theorem RepL.mono {Γ Γ' : Cx} (hle : Le Γ Γ') {l : List PV} {cs : List Value} (h : RepL Γ l cs) : RepL Γ' l cs := h.monoC hle.c
theorem Le.refl (Γ : Cx) : Le Γ Γ := ⟨fun _ _ _ => rfl, fun _ _ h => h, rfl, Nat.le_refl _, fun _ blk h => ⟨blk, h, Nat.le_refl _, fun _ => ⟨rfl, fun _ _ cs _ h => ⟨cs, h, rfl⟩⟩⟩⟩
theorem Le.trans {A B C : Cx} (h : Le A B) (k : Le B C) : Le A C where
  heap b hb hm := by rw [k.heap b (Nat.lt_of_lt_of_le hb h.size) (fun hm' => hm (h.mutb b hb hm')), h.heap b hb hm]
  mutb b hb hm := h.mutb b hb (k.mutb b (Nat.lt_of_lt_of_le hb h.size) hm)
  prot := k.prot.trans h.prot
  size := Nat.le_trans h.size k.size
  ref i blk hi := by
    obtain ⟨b1, g1, l1, e1⟩ := h.ref i blk hi
    obtain ⟨b2, g2, l2, e2⟩ := k.ref i b1 g1
    refine ⟨b2, g2, Nat.le_trans l1 l2, fun ht => ?_⟩
    obtain ⟨i1, s1⟩ := e1 (by omega)
    obtain ⟨i2, s2⟩ := e2 (by omega)
    refine ⟨by rw [i2, i1], fun b hb cs e hc => ?_⟩
    obtain ⟨cs1, hc1, hs1⟩ := s1 b hb cs e hc
    obtain ⟨cs2, hc2, hs2⟩ := s2 b (by rw [i1, hb]) cs1 e hc1
    exact ⟨cs2, hc2, by omega⟩
theorem LeC.trans {A B C : Cx} (h : LeC A B) (k : LeC B C) : LeC A C where
  cell b o c hb hn hc := k.cell b o c (Nat.lt_of_lt_of_le hb h.size) (fun ho => hn (h.own b hb ho)) (h.cell b o c hb hn hc)
  own b hb ho := h.own b hb (k.own b (Nat.lt_of_lt_of_le hb h.size) ho)
  size := Nat.le_trans h.size k.size
  ref i blk hi := by
    obtain ⟨b1, g1, l1, e1⟩ := h.ref i blk hi
    obtain ⟨b2, g2, l2, e2⟩ := k.ref i b1 g1
    refine ⟨b2, g2, Nat.le_trans l1 l2, fun ht => ?_⟩
    obtain ⟨i1, s1⟩ := e1 (by omega)
    obtain ⟨i2, s2⟩ := e2 (by omega)
    refine ⟨by rw [i2, i1], fun b hb cs e hc => ?_⟩
    obtain ⟨cs1, hc1, hs1⟩ := s1 b hb cs e hc
    obtain ⟨cs2, hc2, hs2⟩ := s2 b (by rw [i1, hb]) cs1 e hc1
    exact ⟨cs2, hc2, by omega⟩
end Go.Ab
namespace Go.Ab
structure St where
  env : List (Nat × PV)
  bx : List (Nat × Blk)
def RepV1 (Γ : Cx) : PV → Value → Prop
  | .un, _ => True
  | .st w l, v => ∃ cs : List Value, v = .agg cs.toArray ∧ RepL Γ [.st w l] cs
  | .ar sz n l, v => ∃ cs : List Value, v = .agg cs.toArray ∧ RepL Γ [.ar sz n l] cs
  | p, v => RepL Γ [p] [v]
def AllV (Γ : Cx) : List PV → List Value → Prop
  | [], [] => True
  | p :: ps, v :: vs => RepV1 Γ p v ∧ AllV Γ ps vs
  | _, _ => False
def RepV (Γ : Cx) : PV → Value → Prop
  | .gd b p, v => (b = true → RepV Γ p v) ∧ (b = false → v = undef)
  | .tup l, v => ∃ vs : List Value, v = .tuple vs.toArray ∧ AllV Γ l vs
  | .un, _ => True
  | .st w l, v => ∃ cs : List Value, v = .agg cs.toArray ∧ RepL Γ [.st w l] cs
  | .ar sz n l, v => ∃ cs : List Value, v = .agg cs.toArray ∧ RepL Γ [.ar sz n l] cs
  | p, v => RepL Γ [p] [v]
mutual
def PV.beq : PV → PV → Bool
  | .bl x, .bl y => x == y
  | .int _ x, .int _ y => x == y
  | .str x, .str y => x == y
  | .st _ l, .st _ m => PV.beqL l m
  | .ar _ _ l, .ar _ _ m => PV.beqL l m
  | _, _ => false
def PV.beqL : List PV → List PV → Bool
  | [], [] => true
  | x :: l, y :: m => PV.beq x y && PV.beqL l m
  | _, _ => false
end
mutual
def shW : Sh → Nat
  | .st l => shWL l
  | .ar n e => n * shW e
  | _ => 1
def shWL : List Sh → Nat
  | [] => 0
  | x :: l => shW x + shWL l
end
mutual
def fits : Sh → PV → Bool
  | .b, .bl _ => true
  | .i k, .int k' _ => decide (k = k')
  | .s, .str _ => true
  | .st l, .st w m => decide (w = shWL l) && fitsL l m
  | .ar n e, .ar sz k m => decide (sz = shW e ∧ k = n ∧ m.length = n) && fitsA e m
  | _, _ => false
def fitsL : List Sh → List PV → Bool
  | [], [] => true
  | x :: l, y :: m => fits x y && fitsL l m
  | _, _ => false
def fitsA : Sh → List PV → Bool
  | _, [] => true
  | e, y :: m => fits e y && fitsA e m
end
mutual
def pcells : PV → List Value
  | .bl x => [.bool x]
  | .int k n => [.int k n]
  | .str l => [.string ⟨l.toArray⟩]
  | .st _ l => pcellsL l
  | .ar _ _ l => pcellsL l
  | _ => []
def pcellsL : List PV → List Value
  | [] => []
  | x :: l => pcells x ++ pcellsL l
end
def pval : PV → Value
  | .bl x => .bool x
  | .int k n => .int k n
  | .str l => .string ⟨l.toArray⟩
  | .st _ l => .agg (pcellsL l).toArray
  | .ar _ _ l => .agg (pcellsL l).toArray
  | _ => undef
def MapRep (ks vs : Sh) (l : List (PV × PV)) (o : Option Obj) : Prop :=
  ∃ es clock, o = some (.map es clock) ∧ es.toList.map (fun e => (e.key, e.val)) = l.map (fun x => (pval x.1, pval x.2)) ∧ ∀ x ∈ l, fits ks x.1 = true ∧ fits vs x.2 = true
def Blk.Rep (Γ : Cx) (ob : Option Nat) : Blk → Prop
  | .box v => ∃ b c e, ob = some b ∧ Γ.heap[b]? = some (.cells c e (0, 0)) ∧ RepL Γ [v] c.toList
  | .arr sz l => (∀ x ∈ l, x.width = sz) ∧ 0 < sz ∧ match ob with
    | none => True
    | some b => ∃ c e cs rest, Γ.heap[b]? = some (.cells c e (0, 0)) ∧ c.toList = cs ++ rest ∧ RepL Γ l cs
  | .map b ks vs l => ob = some b ∧ MapRep ks vs l Γ.heap[b]?
class Tabs where
  tab : Nat → Option (Array Value)
structure Mem [Tabs] (Γ : Cx) : Prop where
  blk : ∀ k blk, get Γ.bx k = some blk → blk.Rep Γ (Γ.ι k)
  inj : ∀ k k' b, (get Γ.bx k).isSome = true → (get Γ.bx k').isSome = true → Γ.ι k = some b → Γ.ι k' = some b → k = k'
  prot : ∀ b, Γ.prot b → b < Γ.heap.size
  apart : ∀ b, Γ.mutb b → ¬ Γ.prot b
  tab : ∀ b cs, Tabs.tab b = some cs → ¬ Γ.mutb b ∧ ∃ e x, Γ.heap[b]? = some (.cells cs e x)
structure Sim [Tabs] (nt : Nat) (ds : List Deferred) (s : St) (Γ : Cx) (a : Act) : Prop where
  bx : Γ.bx = s.bx
  size : a.tmps.size = nt
  defers : a.defers = ds
  env : ∀ k p, get s.env k = some p → RepV Γ p (a.tmps.getD k undef)
  mem : Mem Γ
inductive AX
  | t (n : Nat)
  | c (p : PV)
def vx (s : St) : AX → PV
  | .t n => (get s.env n).getD .un
  | .c p => p
def vg (g : Bool) (s : St) (x : AX) (K : PV → Prop) : Prop :=
  match vx s x with
  | .gd b p => (g = true → b = true) ∧ K p
  | p => K p
inductive ET
  | no | sh (x : Sh) | bl | ptr
inductive SK
  | str
  | sl (sz : Nat)
  | ar (n sz : Nat)
inductive AK
  | mv (x : AX)
  | pick (c a b : AX)
  | build (z : PV) (parts : List (Nat × AX))
  | load (agg : Bool) (w : Nat) (x : AX)
  | nilCheck (x : AX)
  | bin (op : BinOp) (eqs : ET) (x y : AX)
  | un (op : UnOp) (x : AX)
  | convI (k : IntKind) (x : AX)
  | convS (x : AX)
  | convB (x : AX)
  | mkFunc (f : Fn) (first cap : List AX)
  | slice (k : SK) (x : AX) (lo hi mx : Option AX)
  | fieldA (i off : Nat) (x : AX)
  | field (i off : Nat) (agg : Bool) (w : Nat) (x : AX)
  | indexA (k : SK) (x i : AX)
  | index (agg : Bool) (n w : Nat) (x i : AX)
  | indexS (x i : AX)
  | extract (i : Nat) (x : AX)
  | len (x : AX)
  | lenS (x : AX)
  | lenC (n : Nat)
  | mm (mx : Bool) (xs : List AX)
  | alloc (z : PV)
  | box (x : AX)
  | buildSlice (own : Bool) (sz : Nat) (z : PV) (n : Nat) (parts : List (Nat × AX))
  | makeSlice (sz bytes : Nat) (z : PV) (len cap : AX)
  | store (w : Nat) (a x : AX)
  | append (sz bytes : Nat) (str : Bool) (x y : AX)
  | copy (sz : Nat) (x y : AX)
  | fill (sz : Nat) (z : PV) (x : AX)
  | call (f : AX) (args : List AX)
  | callq (f : AX) (args : List AX)
  | isNil (ng : Bool) (x : AX)
  | s2a (n sz : Nat) (x : AX)
  | mkMap (ks vs : Sh)
  | mapGet (ks vs : Sh) (z : PV) (ok : Bool) (m x : AX)
  | mapSet (ks vs : Sh) (m x y : AX)
def binI (op : BinOp) (k : IntKind) (a b : Int) (K : PV → Prop) : Prop :=
  match op with
  | .add => K (.int k (k.wrap (a + b)))
  | .sub => K (.int k (k.wrap (a - b)))
  | .mul => K (.int k (k.wrap (a * b)))
  | .quo => b ≠ 0 ∧ K (.int k (k.wrap (a.tdiv b)))
  | .rem => b ≠ 0 ∧ K (.int k (a.tmod b))
  | .and => K (.int k (bits .and k a b))
  | .or => K (.int k (bits .or k a b))
  | .xor => K (.int k (bits .xor k a b))
  | .andNot => K (.int k (bits .andNot k a b))
  | .eql => K (.bl (a == b))
  | .neq => K (.bl (a != b))
  | .lss => K (.bl (decide (a < b)))
  | .leq => K (.bl (decide (a ≤ b)))
  | .gtr => K (.bl (decide (a > b)))
  | .geq => K (.bl (decide (a ≥ b)))
  | .shl => 0 ≤ b ∧ K (.int k (k.wrap (a * 2 ^ min b.toNat k.bits)))
  | .shr => 0 ≤ b ∧ K (.int k (a.fdiv (2 ^ min b.toNat k.bits)))
def binS (op : BinOp) (a b : List UInt8) (K : PV → Prop) : Prop :=
  match op with
  | .add => a.length + b.length ≤ 9223372036854775807 ∧ K (.str (a ++ b))
  | .eql => K (.bl (a == b))
  | .neq => K (.bl (!(a == b)))
  | .lss => K (.bl (Op.bytesLess a b))
  | .leq => K (.bl (Op.bytesLess a b || a == b))
  | .gtr => K (.bl (!(Op.bytesLess a b || a == b)))
  | .geq => K (.bl (!Op.bytesLess a b))
  | _ => False
def binE (op : BinOp) (b : Bool) (K : PV → Prop) : Prop :=
  match op with
  | .eql => K (.bl b)
  | .neq => K (.bl (!b))
  | _ => False
def binV (s : St) (op : BinOp) (eqs : ET) (p q : PV) (K : PV → Prop) : Prop :=
  match eqs with
  | .no => (match p, q with
    | .int k a, .int k' b => (op = .shl ∨ op = .shr ∨ k = k') ∧ binI op k a b K
    | .str a, .str b => binS op a b K
    | _, _ => False)
  | .bl => (match p, q with
    | .bl a, .bl b => binE op (a == b) K
    | _, _ => False)
  | .ptr => (match p, q with
    | .np, .np => binE op true K
    | .pt k _ tot, .np => (match get s.bx k with | some blk => tot = blk.tot ∧ binE op false K | none => False)
    | .fp _ _ _, .np => binE op false K
    | _, _ => False)
  | .sh x => (fits x p = true ∧ fits x q = true) ∧ binE op (PV.beq p q) K
def asBytes : List PV → Option (List UInt8)
  | [] => some []
  | .int .u8 n :: r => if 0 ≤ n ∧ n < 256 then (match asBytes r with | some l => some (UInt8.ofNat n.toNat :: l) | none => none) else none
  | _ => none
def content (s : St) : PV → (Nat → List PV → Prop) → Prop
  | .sl sz l _, K => K sz l
  | .rs k p off len tot sz _, K => match get s.bx k with
    | some (.arr sz' l) => (tot = l.length ∧ p = [] ∧ sz = sz' ∧ off + len ≤ l.length) ∧ K sz ((l.drop off).take len)
    | some (.box v) => match getP v p with
      | some (.ar sz' n l) => (tot = 0 ∧ sz = sz' ∧ off + len ≤ n) ∧ K sz ((l.drop off).take len)
      | _ => False
    | _ => False
  | _, _ => False
def intK (p : PV) (K : Int → Prop) : Prop := match p with | .int _ n => K n | _ => False
def lohi (g : Bool) (s : St) (lo hi : Option AX) (len cap : Nat) (K : Nat → Nat → Prop) : Prop :=
  (match hi with | none => fun (J : Nat → Prop) => J len | some x => fun J => vg g s x fun p => intK p fun h => (0 ≤ h ∧ h ≤ cap) ∧ J h.toNat) fun h =>
  (match lo with | none => fun (J : Nat → Prop) => J 0 | some x => fun J => vg g s x fun p => intK p fun l => (0 ≤ l ∧ l ≤ h) ∧ J l.toNat) fun l => K l h
def vgs (g : Bool) (s : St) : List AX → (List PV → Prop) → Prop
  | [], K => K []
  | x :: r, K => vg g s x fun p => vgs g s r fun ps => K (p :: ps)
def PV.cellular : PV → Bool
  | .un | .tup _ | .gd _ _ => false
  | _ => true
def setParts : List PV → List (Nat × PV) → Option (List PV)
  | l, [] => some l
  | l, (i, p) :: r => match l[i]? with
    | some q => if p.width = q.width ∧ p.cellular = true then setParts (l.set i p) r else none
    | none => none
def vgp (g : Bool) (s : St) : List (Nat × AX) → (List (Nat × PV) → Prop) → Prop
  | [], K => K []
  | (i, x) :: r, K => vg g s x fun p => vgp g s r fun ps => K ((i, p) :: ps)
def mmInt (mx : Bool) : Int → List PV → (Int → Prop) → Prop
  | a, [], K => K a
  | a, p :: r, K => intK p fun b => mmInt mx (if mx then max a b else min a b) r K
def ev (g : Bool) (s : St) : AK → (PV → Prop) → Prop
  | .mv x, K => vg g s x K
  | .pick c a b, K => vg g s c fun pc => match pc with
    | .bl x => (match vx s a, vx s b with
      | .bl ya, .bl yb => K (.bl (bif x then ya else yb))
      | .bl ya, .gd gb (.bl yb) => (x = false → gb = true) ∧ K (.bl (bif x then ya else yb))
      | .gd ga (.bl ya), .bl yb => (x = true → ga = true) ∧ K (.bl (bif x then ya else yb))
      | .gd ga (.bl ya), .gd gb (.bl yb) => ((x = true → ga = true) ∧ (x = false → gb = true)) ∧ K (.bl (bif x then ya else yb))
      | .bl ya, .un => x = true ∧ K (.bl ya)
      | .un, .bl yb => x = false ∧ K (.bl yb)
      | _, _ => False)
    | _ => False
  | .build z parts, K => vgp g s parts fun ps => (match z with
    | .st w l => match setParts l ps with | some l' => K (.st w l') | none => False
    | .ar sz n l => match setParts l ps with | some l' => K (.ar sz n l') | none => False
    | _ => False)
  | .load agg w x, K => vg g s x fun p => match p with
    | .pt k p tot => (match get s.bx k with
      | some blk => (match getB blk p with | some u => (tot = blk.tot ∧ u.width = w ∧ u.isAgg = agg) ∧ K u | none => False)
      | none => False)
    | .fp sz l p => (match getB (.arr sz l) p with | some u => (u.width = w ∧ u.isAgg = agg) ∧ K u | none => False)
    | _ => False
  | .nilCheck x, K => vg g s x fun p => match p with
    | .pt k p tot => (match get s.bx k with | some blk => tot = blk.tot ∧ K (.pt k p tot) | none => False)
    | .fp sz l p => K (.fp sz l p)
    | .fn (.func f) a b => K (.fn (.func f) a b)
    | _ => False
  | .bin op eqs x y, K => vg g s x fun p => vg g s y fun q => binV s op eqs p q K
  | .un op x, K => vg g s x fun p => match op, p with
    | .not, .bl b => K (.bl (!b))
    | .neg, .int k n => K (.int k (k.wrap (0 - n)))
    | .xor, .int k n => K (.int k (bits .xor k (if k.signed then -1 else k.max) n))
    | _, _ => False
  | .convI k x, K => vg g s x fun p => intK p fun n => K (.int k (k.wrap n))
  | .convS x, K => vg g s x fun p => content s p fun sz l => sz = 1 ∧ (match asBytes l with | some bs => K (.str bs) | none => False)
  | .mkFunc f first cap, K => vgs g s first fun ps => vgs g s cap fun qs => (ps.all (fun p => !p.isAgg && p.cellular) = true ∧ qs.all (fun p => !p.isAgg && p.cellular) = true) ∧ K (.fn f ps qs)
  | .slice .str x lo hi mx, K => vg g s x fun p => match p with
    | .str bs => mx.isNone = true ∧ lohi g s lo hi bs.length bs.length fun l h => K (.str ((bs.take h).drop l))
    | _ => False
  | .slice (.sl sz) x lo hi mx, K => vg g s x fun p => match p with
    | .sl sz' l clip => (match mx with
      | none => lohi g s lo hi l.length l.length fun a b => (sz' = sz) ∧ K (.sl sz ((l.take b).drop a) (clip && decide (b = l.length)))
      | some m => vg g s m fun q => intK q fun m => (0 ≤ m ∧ m ≤ l.length) ∧ lohi g s lo hi l.length m.toNat fun a b => (sz' = sz) ∧ K (.sl sz ((l.take b).drop a) (decide (b = m.toNat))))
    | .rs k p off len tot sz' c => (match get s.bx k with
      | some blk => (tot = blk.tot ∧ sz' = sz) ∧ (match mx with
        | none => lohi g s lo hi len len fun a b => K (.rs k p (off + a) (b - a) tot sz (if b = len then c else (match c with | .tip => .tip | _ => .any)))
        | some m => vg g s m fun q => intK q fun m => (0 ≤ m ∧ m ≤ len) ∧ lohi g s lo hi len m.toNat fun a b => K (.rs k p (off + a) (b - a) tot sz (if b = m.toNat then .clip else .any)))
      | none => False)
    | _ => False
  | .slice (.ar n sz) x lo hi mx, K => vg g s x fun p => match p with
    | .pt k p tot => (match get s.bx k with
      | some blk => tot = blk.tot ∧ mx.isNone = true ∧ lohi g s lo hi n n fun a b => K (.rs k p a (b - a) tot sz (if b = n then .clip else .any))
      | none => False)
    | .fp z l q => (match getB (.arr z l) q with
      | some (.ar z' n' l') => (z' = sz ∧ n' = n ∧ mx.isNone = true) ∧ lohi g s lo hi n n fun a b => K (.sl sz ((l'.take b).drop a) (decide (b = n)))
      | _ => False)
    | _ => False
  | .fieldA i off x, K => vg g s x fun p => match p with
    | .pt k p tot => (match get s.bx k with | some blk => tot = blk.tot ∧ K (.pt k (p ++ [.f i off]) tot) | none => False)
    | .fp sz l p => K (.fp sz l (p ++ [.f i off]))
    | _ => False
  | .field i off agg w x, K => vg g s x fun p => match p with
    | .st _ l => (match l[i]? with | some c => (widths (l.take i) = off ∧ c.width = w ∧ c.isAgg = agg) ∧ K c | none => False)
    | _ => False
  | .indexA (.sl sz) x i, K => vg g s x fun p => vg g s i fun q => intK q fun j => (match p with
    | .sl sz' l _ => (sz' = sz ∧ 0 ≤ j ∧ j < l.length) ∧ K (.fp sz l [.i j.toNat sz])
    | .rs k p off len tot sz' _ => (match get s.bx k with
      | some blk => (tot = blk.tot ∧ sz' = sz ∧ 0 ≤ j ∧ j < len) ∧ K (.pt k (p ++ [.i (off + j.toNat) sz]) tot)
      | none => False)
    | _ => False)
  | .indexA (.ar n sz) x i, K => vg g s x fun p => vg g s i fun q => intK q fun j => (0 ≤ j ∧ j < n) ∧ (match p with
    | .pt k p tot => (match get s.bx k with | some blk => tot = blk.tot ∧ K (.pt k (p ++ [.i j.toNat sz]) tot) | none => False)
    | .fp sz' l p => K (.fp sz' l (p ++ [.i j.toNat sz]))
    | _ => False)
  | .indexA .str _ _, _ => False
  | .index agg n w x i, K => vg g s x fun p => vg g s i fun q => intK q fun j => (match p with
    | .ar sz n' l => (match l[j.toNat]? with | some c => (0 ≤ j ∧ j < n ∧ n' = n ∧ sz = w ∧ c.isAgg = agg) ∧ K c | none => False)
    | _ => False)
  | .indexS x i, K => vg g s x fun p => vg g s i fun q => intK q fun j => (match p with
    | .str bs => (match bs[j.toNat]? with | some c => 0 ≤ j ∧ K (.int .u8 c.toNat) | none => False)
    | _ => False)
  | .extract i x, K => match vx s x with
    | .tup l => (match l[i]? with | some p => K p | none => False)
    | _ => False
  | .s2a n sz x, K => vg g s x fun p => match p with
    | .sl sz' l _ => (sz' = sz ∧ 0 < n ∧ n ≤ l.length) ∧ K (.fp sz l [.w 0 n sz])
    | .rs k p off len tot sz' _ => (match get s.bx k with | some blk => (tot = blk.tot ∧ sz' = sz ∧ 0 < n ∧ n ≤ len) ∧ K (.pt k (p ++ [.w off n sz]) tot) | none => False)
    | _ => False
  | .len x, K => vg g s x fun p => match p with
    | .sl _ l _ => K (.int .i64 l.length)
    | .rs k _ _ len tot _ _ => (match get s.bx k with | some blk => tot = blk.tot ∧ K (.int .i64 len) | none => False)
    | _ => False
  | .lenS x, K => vg g s x fun p => match p with
    | .str bs => K (.int .i64 bs.length)
    | _ => False
  | .lenC n, K => K (.int .i64 n)
  | .mm mx xs, K => vgs g s xs fun ps => match ps with
    | .int k a :: r => mmInt mx a r fun n => K (.int k n)
    | _ => False
  | _, _ => False
end Go.Ab
namespace Go.Ab
variable [Tabs]
def trV : Value → Option PV
  | .bool b => some (.bl b)
  | .int k n => some (.int k n)
  | .string s => some (.str s.data.toList)
  | .pointer none => some .np
  | .slice none 0 0 => some (.sl 0 [] true)
  | .nilFunc => some .nf
  | .nilIface => some .ni
  | _ => none
def trX : Operand → Option AX
  | .tmp t => some (.t t)
  | .const v => match trV v with | some p => some (.c p) | none => none
  | .func f => some (.c (.fn (.func f) [] []))
  | .global _ => none
def trXs : List Operand → Option (List AX)
  | [] => some []
  | x :: r => match trX x, trXs r with | some y, some l => some (y :: l) | _, _ => none
def trO : Option Operand → Option (Option AX)
  | none => some none
  | some x => match trX x with | some y => some (some y) | none => none
def trParts : List (Nat × Operand) → Option (List (Nat × AX))
  | [] => some []
  | (i, x) :: r => match trX x, trParts r with | some y, some l => some ((i, y) :: l) | _, _ => none
def szOf (P : Program) (t : TypeId) : Option Nat := match P.info? t with | some i => some i.size | none => none
def allM {α β : Type} (f : α → Option β) : List α → Option (List β)
  | [] => some []
  | x :: r => match f x, allM f r with | some y, some l => some (y :: l) | _, _ => none
def zeroPV (P : Program) (Z : Nat → PV → List PV) : Nat → TypeId → Option PV
  | 0, _ => none
  | n + 1, t => match P.underlying t with
    | some .bool => some (.bl false)
    | some (.int k) => some (.int k 0)
    | some .string => some (.str [])
    | some (.pointer _) => some .np
    | some (.slice e) => some (.sl (P.cellsOf e) [] true)
    | some (.func ..) => some .nf
    | some (.interface _) => some .ni
    | some (.struct fs) => match allM (fun f => zeroPV P Z n f.type) fs.toList with
      | some l => some (.st (P.cellsOf t) l)
      | none => none
    | some (.array k e) => match zeroPV P Z n e with
      | some z => some (.ar (P.cellsOf e) k (Z k z))
      | none => none
    | _ => none
mutual
def chk : PV → List Value → Option (List Value)
  | .bl x, .bool y :: r => if x = y then some r else none
  | .int k n, .int k' m :: r => if k = k' ∧ n = m then some r else none
  | .str l, .string s :: r => if s.data.toList = l then some r else none
  | .np, .pointer none :: r => some r
  | .sl _ [] _, .slice none 0 0 :: r => some r
  | .nf, .nilFunc :: r => some r
  | .ni, .nilIface :: r => some r
  | .st w l, vs => match chkL l vs with | some r => if vs.length = w + r.length then some r else none | none => none
  | .ar sz n l, vs => match chkL l vs with | some r => if l.length = n ∧ l.all (fun x => decide (x.width = sz)) = true then some r else none | none => none
  | _, _ => none
def chkL : List PV → List Value → Option (List Value)
  | [], vs => some vs
  | p :: r, vs => match chk p vs with | some ws => chkL r ws | none => none
end
def zeroOf0 (P : Program) (t : TypeId) : Option PV :=
  match zeroPV P List.replicate 20 t, P.info? t with
  | some z, some i => match i.zero with
    | some v => match chk z v.cells.toList with
      | some [] => if z.width = i.size then (match z.isAgg, v with
        | true, .agg _ => some z
        | true, _ => none
        | false, .agg _ => none
        | false, _ => some z) else none
      | _ => none
    | none => none
  | _, _ => none
noncomputable def zeroOf (P : Program) (t : TypeId) : Option PV :=
  match zeroOf0 P t with | some _ => zeroPV P zr 20 t | none => none
theorem zeroOf_eq {P : Program} {t : TypeId} {z : PV} (h : zeroOf P t = some z) : zeroOf0 P t = some z := by
  unfold zeroOf at h
  split at h
  · rename_i z' h0
    rw [zr_eq] at h
    have h1 := h0
    unfold zeroOf0 at h1
    split at h1
    · rename_i z2 i hz hi
      rw [h] at hz
      cases hz
      rw [h0]
      repeat' split at h1
      all_goals first | exact h1.symm | (simp at h1; done)
    · simp at h1
  · simp at h
def aggOf (P : Program) (t : TypeId) : Option Bool :=
  match P.underlying t with
  | some (.struct _) | some (.array _ _) => some true
  | some _ => some false
  | none => none
def offs : Nat → List PV → List (Nat × Nat)
  | _, [] => []
  | o, p :: r => (o, p.width) :: offs (o + p.width) r
def Sh.agg : Sh → Bool
  | .st _ | .ar _ _ => true
  | _ => false
def shOffs : Nat → List Sh → List Nat
  | _, [] => []
  | o, x :: l => o :: shOffs (o + shW x) l
def shOf (P : Program) : Nat → TypeId → Option Sh
  | 0, _ => none
  | n + 1, t => match P.underlying t with
    | some .bool => some .b
    | some (.int k) => some (.i k)
    | some .string => some .s
    | some (.struct fs) => match allM (fun f => shOf P n f.type) fs.toList with
      | some l => if P.stoodInHeld t = false ∧ fs.toList.all (fun f => f.name != "_") = true ∧ fs.toList.map (·.offset) = shOffs 0 l ∧ fs.toList.map (fun f => szOf P f.type) = l.map (fun x => some (shW x)) ∧
          fs.toList.map (fun f => aggOf P f.type) = l.map (fun x => some x.agg) then some (.st l) else none
      | none => none
    | some (.array k e) => match shOf P n e with
      | some x => if szOf P e = some (shW x) ∧ aggOf P e = some x.agg then some (.ar k x) else none
      | none => none
    | _ => none
noncomputable def trBuiltin (P : Program) (b : Builtin) (args : List Operand) (tys : List TypeId) : Option AK :=
  match b, args, tys with
  | .len, [x], [t] => match P.underlying t, trX x with
    | some .string, some y => some (.lenS y)
    | some (.slice _), some y => some (.len y)
    | some (.array n _), some _ => some (.lenC n)
    | some (.pointer a), some _ => match P.underlying a with | some (.array n _) => some (.lenC n) | _ => none
    | _, _ => none
  | .min, xs, _ => match trXs xs with | some l => some (.mm false l) | none => none
  | .max, xs, _ => match trXs xs with | some l => some (.mm true l) | none => none
  | .append, [x, y], [t, u] => match P.underlying t, P.underlying u, trX x, trX y with
    | some (.slice e), some d, some x, some y => match P.info? e with
      | some i => match i.zero with
        | some z => if z.cells.size = i.size ∧ 0 < i.size then (match d with
          | .slice _ => some (.append i.size i.bytes false x y)
          | .string => if i.size = 1 then some (.append i.size i.bytes true x y) else none
          | _ => none) else none
        | none => none
      | none => none
    | _, _, _, _ => none
  | .clear, [x], [t] => match P.underlying t, trX x with
    | some (.slice e), some x => match szOf P e, zeroOf P e with | some n, some z => if 0 < n then some (.fill n z x) else none | _, _ => none
    | _, _ => none
  | .copy, [x, y], [t, _] => match P.underlying t, trX x, trX y with
    | some (.slice e), some x, some y => match szOf P e with | some n => some (.copy n x y) | none => none
    | _, _, _ => none
  | _, _, _ => none
noncomputable def trK (P : Program) (own : Bool) : Op → Option AK
  | .move x | .assign x => match trX x with | some y => some (.mv y) | none => none
  | .pick c a b => match trX c, trX a, trX b with | some c, some a, some b => some (.pick c a b) | _, _, _ => none
  | .alloc t => match zeroOf P t with | some z => some (.alloc z) | none => none
  | .box _ x => match trX x with | some y => some (.box y) | none => none
  | .build t parts => match zeroOf P t, trParts parts.toList, P.underlying t with
    | some (.st w l), some ps, some (.struct fs) => if fs.toList.map (fun f => (f.offset, P.cellsOf f.type)) = offs 0 l ∧ fs.toList.all (fun f => (P.info? f.type).isSome) = true then some (.build (.st w l) ps) else none
    | some (.ar sz n l), some ps, some (.array _ e) => if szOf P e = some sz then some (.build (.ar sz n l) ps) else none
    | _, _, _ => none
  | .buildSlice t n parts => match P.underlying t, trParts parts.toList with
    | some (.slice e), some ps => match zeroOf P e, szOf P e with
      | some z, some sz => if 0 < sz ∧ n * sz ≤ 2 ^ 24 then some (.buildSlice own sz z n ps) else none
      | _, _ => none
    | _, _ => none
  | .load t a => match aggOf P t, szOf P t, trX a with
    | some g, some n, some x => if g = true ∨ n = 1 then some (.load g n x) else none
    | _, _, _ => none
  | .store t a v => match szOf P t, trX a, trX v with | some n, some x, some y => some (.store n x y) | _, _, _ => none
  | .nilCheck x => match trX x with | some y => some (.nilCheck y) | none => none
  | .binOp op t x y _ => match trX x, trX y with
    | some p, some q => if op = .eql ∨ op = .neq then (match P.underlying t with
        | some (.int _) | some .string => some (.bin op .no p q)
        | some .bool => some (.bin op .bl p q)
        | some (.pointer _) => some (.bin op .ptr p q)
        | some (.slice _) => (match y with | .const (.slice none 0 0) => some (.isNil (decide (op = .neq)) p) | _ => none)
        | some (.struct _) | some (.array _ _) => if P.eqGuardType P.depth t = false then (match shOf P 20 t with | some sh => some (.bin op (.sh sh) p q) | none => none) else none
        | _ => none) else some (.bin op .no p q)
    | _, _ => none
  | .unOp op _ x => match trX x with | some y => some (.un op y) | none => none
  | .convert s d x => match P.underlying s, P.underlying d, trX x with
    | some (.int _), some (.int k), some y => some (.convI k y)
    | some (.slice e), some .string, some y => (match P.underlying e with | some (.int .u8) => some (.convS y) | _ => none)
    | some .string, some (.slice e), some y => (match P.underlying e with | some (.int .u8) => some (.convB y) | _ => none)
    | _, _, _ => none
  | .makeFunc f a b => match trXs a.toList, trXs b.toList with | some p, some q => some (.mkFunc f p q) | _, _ => none
  | .makeSlice t l c => match P.underlying t, trX l, trX c with
    | some (.slice e), some l, some c => (match zeroOf P e, P.info? e with | some z, some i => if 0 < i.size then some (.makeSlice i.size i.bytes z l c) else none | _, _ => none)
    | _, _, _ => none
  | .slice t x lo hi mx => match P.underlying t, trX x, trO lo, trO hi, trO mx with
    | some .string, some x, some lo, some hi, some mx => some (.slice .str x lo hi mx)
    | some (.slice e), some x, some lo, some hi, some mx => (match szOf P e with | some n => if mx.isSome = true → hi.isSome = true then some (.slice (.sl n) x lo hi mx) else none | none => none)
    | some (.array n e), some x, some lo, some hi, some mx => (match szOf P e with | some sz => some (.slice (.ar n sz) x lo hi mx) | none => none)
    | _, _, _, _, _ => none
  | .fieldAddr t x f => match P.underlying t, trX x with
    | some (.struct fs), some y => (match fs[f]? with
      | some g => (match szOf P g.type with | some (_ + 1) => some (.fieldA f g.offset y) | _ => none)
      | none => none)
    | _, _ => none
  | .field t x f => match P.underlying t, trX x with
    | some (.struct fs), some y => (match fs[f]? with
      | some g => (match aggOf P g.type, szOf P g.type with | some a, some n => if a = true ∨ n = 1 then some (.field f g.offset a n y) else none | _, _ => none)
      | none => none)
    | _, _ => none
  | .indexAddr t x i => match P.underlying t, trX x, trX i with
    | some (.slice e), some x, some i => (match szOf P e with | some n => some (.indexA (.sl n) x i) | none => none)
    | some (.array k e), some x, some i => (match szOf P e with | some n => some (.indexA (.ar k n) x i) | none => none)
    | _, _, _ => none
  | .index t x i => match P.underlying t, trX x, trX i with
    | some (.array k e), some x, some i => (match aggOf P e, szOf P e with | some a, some n => if a = true ∨ n = 1 then some (.index a k n x i) else none | _, _ => none)
    | some .string, some x, some i => some (.indexS x i)
    | _, _, _ => none
  | .extract x i => match trX x with | some y => some (.extract i y) | none => none
  | .call { callee := .value f, args, .. } => match trX f, trXs args.toList with | some g, some l => some (.call g l) | _, _ => none
  | .call { callee := .builtin b, args, argTypes } => trBuiltin P b args.toList argTypes.toList
  | .sliceToArrayPointer t x => match P.underlying t, trX x with
    | some (.array n e), some y => (match szOf P e with | some sz => some (.s2a n sz y) | none => none)
    | _, _ => none
  | .makeMap t none => match P.underlying t with
    | some (.map k e) => (match shOf P 20 k, shOf P 20 e with | some ks, some vs => some (.mkMap ks vs) | _, _ => none)
    | _ => none
  | .lookup t m x ok => match P.underlying t, trX m, trX x with
    | some (.map k e), some m, some x => (match shOf P 20 k, shOf P 20 e, zeroOf P e with
      | some ks, some vs, some z => if fits vs z = true then some (.mapGet ks vs z ok m x) else none
      | _, _, _ => none)
    | _, _, _ => none
  | .mapUpdate t m x y => match P.underlying t, trX m, trX x, trX y with
    | some (.map k e), some m, some x, some y => (match shOf P 20 k, shOf P 20 e with | some ks, some vs => some (.mapSet ks vs m x y) | _, _ => none)
    | _, _, _, _ => none
  | _ => none
end Go.Ab
