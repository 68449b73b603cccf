/- Rules by which the abstract reading is worked out. No condition. -/
import Derived.Test.YtdfkcobijmbidaaGreatA4
set_option linter.all false
namespace Go.Ab
variable [Tabs]
variable {P : Program}
structure Pure (p : PV) : Prop where
  refs : ∀ f, refsOk f p = true
  ren : ∀ ρ, ren ρ p = p
  frz : ∀ k sz l0, frz k sz l0 p = p
structure PureL (l : List PV) : Prop where
  refs : ∀ f, refsOkL f l = true
  ren : ∀ ρ, renL ρ l = l
  frz : ∀ k sz l0, frzL k sz l0 l = l
theorem Pure.of {p : PV} (h : refsOk (fun _ => false) p = true) : Pure p where
  refs f := refsOk_weaken (by simp) p h
  ren ρ := refsOk_false_ren h
  frz k sz l0 := frz_id p (refsOk_weaken (by simp) p h)
theorem PureL.of {l : List PV} (h : refsOkL (fun _ => false) l = true) : PureL l where
  refs f := refsOkL_weaken (by simp) l h
  ren ρ := refsOkL_false_ren h
  frz k sz l0 := frzL_id l (refsOkL_weaken (by simp) l h)
theorem PureL.mk' {l : List PV} (h : ∀ p ∈ l, Pure p) : PureL l := by
  refine PureL.of ?_
  induction l with
  | nil => rfl
  | cons p l ih => simp only [refsOkL, Bool.and_eq_true]; exact ⟨(h p (by simp)).refs _, ih fun q hq => h q (by simp [hq])⟩
theorem PureL.map {α : Type} {e : α → PV} (h : ∀ x, Pure (e x)) (l : List α) : PureL (l.map e) :=
  PureL.mk' fun p hp => by obtain ⟨x, _, rfl⟩ := List.mem_map.1 hp; exact h x
theorem PureL.forget {l : List PV} (h : PureL l) : ∀ p ∈ l, Pure p := by
  intro p hp
  have h0 := h.refs (fun _ => false)
  refine Pure.of ?_
  clear h
  induction l with
  | nil => simp at hp
  | cons q l ih =>
    simp only [refsOkL, Bool.and_eq_true] at h0
    rcases List.mem_cons.1 hp with rfl | hp
    · exact h0.1
    · exact ih hp h0.2
theorem PureL.append {l m : List PV} (h : PureL l) (h' : PureL m) : PureL (l ++ m) :=
  PureL.mk' fun p hp => by rcases List.mem_append.1 hp with hp | hp; exact h.forget p hp; exact h'.forget p hp
theorem PureL.take {l : List PV} (h : PureL l) (n : Nat) : PureL (l.take n) := PureL.mk' fun p hp => h.forget p (List.mem_of_mem_take hp)
theorem PureL.drop {l : List PV} (h : PureL l) (n : Nat) : PureL (l.drop n) := PureL.mk' fun p hp => h.forget p (List.mem_of_mem_drop hp)
theorem PureL.sl {l : List PV} (h : PureL l) (sz : Nat) (c : Bool) : Pure (.sl sz l c) := Pure.of (by simp only [refsOk]; exact h.refs _)
theorem PureL.st {l : List PV} (h : PureL l) (w : Nat) : Pure (.st w l) := Pure.of (by simp only [refsOk]; exact h.refs _)
theorem PureL.ar {l : List PV} (h : PureL l) (sz n : Nat) : Pure (.ar sz n l) := Pure.of (by simp only [refsOk]; exact h.refs _)
def cloneFun (sz bytes : Nat) (z : PV) : AFun := ⟨8, [.mv (.t 2)],
  .seq (.region [⟨(some 2), none, true, .mv (.c (.sl sz [] true))⟩])
  (.seq (.seq (.region [⟨(some 3), none, true, .mv (.t 0)⟩,
        ⟨(some 4), none, false, .isNil false (.t 3)⟩])
    (.cond (.t 4)
      (.seq (.region [⟨(some 2), none, true, .mv (.c (.sl sz [] true))⟩])
      (.ret))
      (.skip)))
  (.seq (.region [⟨(some 5), none, false, .buildSlice false sz z 0 []⟩,
      ⟨(some 6), none, true, .mv (.t 0)⟩,
      ⟨(some 7), none, false, .append sz bytes false (.t 5) (.t 6)⟩,
      ⟨(some 2), none, true, .mv (.t 7)⟩])
  (.ret)))⟩
theorem clone_own {f : FuncId} {sz bytes : Nat} {z : PV} (ht : trFun P [] [] f = some (cloneFun sz bytes z).er) (hsz : 0 < sz) {l : List PV} (hr : PureL l) (c : Bool) (h1 : l.length * bytes ≤ 140737488355328) (h2 : l.length ≤ 9223372036854775807) :
    ACalls P f [.sl sz l c] [] (fun r fp => r = .rs KB [] 0 l.length l.length sz .tip ∧ fp = [.arr sz l]) := by
  refine ACalls.intro ht (by simp [cloneFun]) ?_
  simp [cloneFun, aw, wpl, wpo, do1, isEx, ev, ex, vg, vx, get, argEnv, thn, fpBx, St.put, put, vgp, setParts, src, content, exAppend]
  refine ⟨⟨⟨h1, h2⟩, ?_⟩, ?_⟩
  · refine ⟨[], [7], ?_⟩
    simp [cuts, get, evs, ev, vg, vx, getAll, fpKeys, tupOf, PV.flat, hr.refs, hr.ren, refsOk, refsOkB, renB, ren, ren1, idx, inKs]
  · rintro rfl
    refine ⟨[.vt 2 7 sz], [7], ?_⟩
    simp [cuts, cut1, vt1, hsz, get, put, evs, ev, vg, vx, getAll, fpKeys, tupOf, PV.flat, refsOk, refsOkL, refsOkB, renB, ren, renL, ren1, idx, inKs]
end Go.Ab
namespace Go.Ab
variable [Tabs]
variable {P : Program} [YCtx]
@[congr] theorem mmInt_cg {mx : Bool} {a a' : Int} {l l' : List PV} {K : Int → Prop} (h1 : a = a') (h2 : l = l') : mmInt mx a l K = mmInt mx a' l' K := by subst h1 h2; rfl
@[congr] theorem ev_cg {g g' : Bool} {s s' : St} {k : AK} {K : PV → Prop} (h : g = g') (h1 : s = s') : ev g s k K = ev g' s' k K := by subst h h1; rfl
@[congr] theorem wpo_cg {s s' : St} {o : AO} {K : St → Prop} (h : s = s') : wpo P s o K = wpo P s' o K := by subst h; rfl
@[congr] theorem aw_cg {s s' : St} {c : ACode} {Q : Exit → St → Prop} (h : s = s') : aw P c Q s = aw P c Q s' := by subst h; rfl
@[congr] theorem cuts_cg {s s' : St} {c : List Cut} {K : St → Prop} (h : s = s') : cuts c s K = cuts c s' K := by subst h; rfl
end Go.Ab
namespace Go.Ab
variable [Tabs]
variable {P : Program} {s : St} {g : Bool}
def optK {α : Type} : Option α → (α → Prop) → Prop
  | some a, K => K a
  | none, _ => False
@[congr] theorem optK_cg {α : Type} {o o' : Option α} {K : α → Prop} (h : o = o') : optK o K = optK o' K := by subst h; rfl
@[simp ↓] theorem optK_some {α : Type} (a : α) (K : α → Prop) : optK (some a) K = K a := id rfl
@[simp ↓] theorem optK_none {α : Type} (K : α → Prop) : optK none K = False := id rfl
def vgk (g : Bool) : PV → (PV → Prop) → Prop
  | .gd b p, K => (g = true → b = true) ∧ K p
  | p, K => K p
@[congr] theorem vgk_cg {g g' : Bool} {p p' : PV} {K : PV → Prop} (h : g = g') (h1 : p = p') : vgk g p K = vgk g' p' K := by subst h h1; rfl
theorem x_vg (x : AX) (K : PV → Prop) : vg g s x K = vgk g (vx s x) K := by unfold vg; cases vx s x <;> rfl
def pickK (x : Bool) (K : PV → Prop) : PV → PV → Prop
  | .bl ya, .bl yb => K (.bl (bif x then ya else yb))
  | .bl ya, .gd gb (.bl yb) => (x = false → gb = true) ∧ K (.bl (bif x then ya else yb))
  | .gd ga (.bl ya), .bl yb => (x = true → ga = true) ∧ K (.bl (bif x then ya else yb))
  | .gd ga (.bl ya), .gd gb (.bl yb) => ((x = true → ga = true) ∧ (x = false → gb = true)) ∧ K (.bl (bif x then ya else yb))
  | .bl ya, .un => x = true ∧ K (.bl ya)
  | .un, .bl yb => x = false ∧ K (.bl yb)
  | _, _ => False
@[congr] theorem pickK_cg {x x' : Bool} {K : PV → Prop} {p p' q q' : PV} (h : x = x') (h1 : p = p') (h2 : q = q') : pickK x K p q = pickK x' K p' q' := by subst h h1 h2; rfl
def pickC (s : St) (a b : AX) (K : PV → Prop) : PV → Prop
  | .bl x => pickK x K (vx s a) (vx s b)
  | _ => False
theorem x_pick (c a b : AX) (K : PV → Prop) : ev g s (.pick c a b) K = vgk g (vx s c) (pickC s a b K) := by
  simp only [ev, x_vg]; congr 1
def buildK (ps : List (Nat × PV)) (K : PV → Prop) : PV → Prop
  | .st w l => optK (setParts l ps) fun l' => K (.st w l')
  | .ar sz n l => optK (setParts l ps) fun l' => K (.ar sz n l')
  | _ => False
theorem x_build (z : PV) (parts : List (Nat × AX)) (K : PV → Prop) : ev g s (.build z parts) K = vgp g s parts fun ps => buildK ps K z := by
  simp only [ev]; congr 1; funext ps; cases z <;> simp only [buildK] <;> first | rfl | (unfold optK; (repeat' split) <;> simp_all; done)
def loadK (s : St) (agg : Bool) (w : Nat) (K : PV → Prop) : PV → Prop
  | .pt k p tot => optK (get s.bx k) fun blk => optK (getB blk p) fun u => (tot = blk.tot ∧ u.width = w ∧ u.isAgg = agg) ∧ K u
  | .fp sz l p => optK (getB (.arr sz l) p) fun u => (u.width = w ∧ u.isAgg = agg) ∧ K u
  | _ => False
theorem x_load (agg : Bool) (w : Nat) (x : AX) (K : PV → Prop) : ev g s (.load agg w x) K = vgk g (vx s x) (loadK s agg w K) := by
  simp only [ev, x_vg]; congr 1; funext p; cases p <;> simp only [loadK] <;> first | rfl | (unfold optK; (repeat' split) <;> simp_all; done)
def nilK (s : St) (K : PV → Prop) : PV → Prop
  | .pt k p tot => optK (get s.bx k) fun blk => tot = blk.tot ∧ K (.pt k p tot)
  | .fp sz l p => K (.fp sz l p)
  | .fn (.func f) a b => K (.fn (.func f) a b)
  | _ => False
theorem x_nilCheck (x : AX) (K : PV → Prop) : ev g s (.nilCheck x) K = vgk g (vx s x) (nilK s K) := by
  simp only [ev, x_vg]; congr 1; funext p
  cases p <;> (try (rename_i f a b; cases f)) <;> simp only [nilK] <;> first | rfl | (unfold optK; (repeat' split) <;> simp_all; done)
def binP (s : St) (op : BinOp) (K : PV → Prop) : PV → PV → Prop
  | .np, .np => binE op true K
  | .pt k _ tot, .np => optK (get s.bx k) fun blk => tot = blk.tot ∧ binE op false K
  | .fp _ _ _, .np => binE op false K
  | _, _ => False
def binN (op : BinOp) (K : PV → Prop) : PV → PV → Prop
  | .int k a, .int k' b => (op = .shl ∨ op = .shr ∨ k = k') ∧ binI op k a b K
  | .str a, .str b => binS op a b K
  | _, _ => False
def binB (op : BinOp) (K : PV → Prop) : PV → PV → Prop
  | .bl a, .bl b => binE op (a == b) K
  | _, _ => False
theorem x_binN (op : BinOp) (x y : AX) (K : PV → Prop) : ev g s (.bin op .no x y) K = vgk g (vx s x) fun p => vgk g (vx s y) fun q => binN op K p q := by
  simp only [ev, x_vg]; congr 1
theorem x_binB (op : BinOp) (x y : AX) (K : PV → Prop) : ev g s (.bin op .bl x y) K = vgk g (vx s x) fun p => vgk g (vx s y) fun q => binB op K p q := by
  simp only [ev, x_vg]; congr 1
theorem x_binP (op : BinOp) (x y : AX) (K : PV → Prop) : ev g s (.bin op .ptr x y) K = vgk g (vx s x) fun p => vgk g (vx s y) fun q => binP s op K p q := by
  simp only [ev, x_vg]; congr 1; funext p; congr 1; funext q; cases p <;> cases q <;> simp only [binV, binP] <;> first | rfl | (unfold optK; (repeat' split) <;> simp_all; done)
theorem x_binS (op : BinOp) (sh : Sh) (x y : AX) (K : PV → Prop) : ev g s (.bin op (.sh sh) x y) K = vgk g (vx s x) fun p => vgk g (vx s y) fun q => (fits sh p = true ∧ fits sh q = true) ∧ binE op (PV.beq p q) K := by
  simp only [ev, x_vg]; congr 1
def intC (K : Int → Prop) : PV → Prop
  | .int _ n => K n
  | _ => False
theorem x_intK (p : PV) (K : Int → Prop) : intK p K = intC K p := by cases p <;> rfl
def unK (op : UnOp) (K : PV → Prop) : PV → Prop
  | .bl b => (match op with | .not => K (.bl (!b)) | _ => False)
  | .int k n => (match op with | .neg => K (.int k (k.wrap (0 - n))) | .xor => K (.int k (bits .xor k (if k.signed then -1 else k.max) n)) | _ => False)
  | _ => False
theorem x_un (op : UnOp) (x : AX) (K : PV → Prop) : ev g s (.un op x) K = vgk g (vx s x) (unK op K) := by
  simp only [ev, x_vg]; congr 1; funext p; cases p <;> cases op <;> rfl
def conK (s : St) (K : Nat → List PV → Prop) : PV → Prop
  | .sl sz l _ => K sz l
  | .rs k p off len tot sz _ => optK (get s.bx k) fun
    | .arr sz' l => (tot = l.length ∧ p = [] ∧ sz = sz' ∧ off + len ≤ l.length) ∧ K sz ((l.drop off).take len)
    | .box v => optK (getP v p) fun
      | .ar sz' n l => (tot = 0 ∧ sz = sz' ∧ off + len ≤ n) ∧ K sz ((l.drop off).take len)
      | _ => False
    | .map .. => False
  | _ => False
theorem x_content (p : PV) (K : Nat → List PV → Prop) : content s p K = conK s K p := by
  cases p <;> simp only [content, conK]
  rename_i k p off len tot sz c
  cases get s.bx k with
  | none => rfl
  | some b =>
    cases b with
    | arr sz' l => rfl
    | box v =>
      simp only [optK_some]
      cases getP v p with
      | none => rfl
      | some u => cases u <;> rfl
    | map b ks vs l => rfl
theorem x_convS (x : AX) (K : PV → Prop) : ev g s (.convS x) K = vgk g (vx s x) (conK s fun sz l => sz = 1 ∧ optK (asBytes l) fun bs => K (.str bs)) := by
  simp only [ev, x_vg]; congr 1; funext p; rw [x_content]; congr 1; funext sz l; cases asBytes l <;> rfl
def fieldAK (s : St) (i off : Nat) (K : PV → Prop) : PV → Prop
  | .pt k p tot => optK (get s.bx k) fun blk => tot = blk.tot ∧ K (.pt k (p ++ [.f i off]) tot)
  | .fp sz l p => K (.fp sz l (p ++ [.f i off]))
  | _ => False
theorem x_fieldA (i off : Nat) (x : AX) (K : PV → Prop) : ev g s (.fieldA i off x) K = vgk g (vx s x) (fieldAK s i off K) := by
  simp only [ev, x_vg]; congr 1; funext p; cases p <;> simp only [fieldAK] <;> first | rfl | (unfold optK; (repeat' split) <;> simp_all; done)
def s2aK (s : St) (n sz : Nat) (K : PV → Prop) : PV → Prop
  | .sl sz' l _ => (sz' = sz ∧ 0 < n ∧ n ≤ l.length) ∧ K (.fp sz l [.w 0 n sz])
  | .rs k p off len tot sz' _ => optK (get s.bx k) fun blk => (tot = blk.tot ∧ sz' = sz ∧ 0 < n ∧ n ≤ len) ∧ K (.pt k (p ++ [.w off n sz]) tot)
  | _ => False
theorem x_s2a (n sz : Nat) (x : AX) (K : PV → Prop) : ev g s (.s2a n sz x) K = vgk g (vx s x) (s2aK s n sz K) := by
  simp only [ev, x_vg]; congr 1; funext p; cases p <;> simp only [s2aK] <;> first | rfl | (unfold optK; (repeat' split) <;> simp_all; done)
def fieldK (i off : Nat) (agg : Bool) (w : Nat) (K : PV → Prop) : PV → Prop
  | .st _ l => optK l[i]? fun c => (widths (l.take i) = off ∧ c.width = w ∧ c.isAgg = agg) ∧ K c
  | _ => False
theorem x_field (i off : Nat) (agg : Bool) (w : Nat) (x : AX) (K : PV → Prop) : ev g s (.field i off agg w x) K = vgk g (vx s x) (fieldK i off agg w K) := by
  simp only [ev, x_vg]; congr 1; funext p; cases p <;> simp only [fieldK] <;> first | rfl | (unfold optK; (repeat' split) <;> simp_all; done)
def idxSl (s : St) (sz : Nat) (j : Int) (K : PV → Prop) : PV → Prop
  | .sl sz' l _ => (sz' = sz ∧ 0 ≤ j ∧ j < l.length) ∧ K (.fp sz l [.i j.toNat sz])
  | .rs k p off len tot sz' _ => optK (get s.bx k) fun blk => (tot = blk.tot ∧ sz' = sz ∧ 0 ≤ j ∧ j < len) ∧ K (.pt k (p ++ [.i (off + j.toNat) sz]) tot)
  | _ => False
theorem x_indexA_sl (sz : Nat) (x i : AX) (K : PV → Prop) : ev g s (.indexA (.sl sz) x i) K = vgk g (vx s x) fun p => vgk g (vx s i) (intC fun j => idxSl s sz j K p) := by
  simp only [ev, x_vg, x_intK]; congr 1; funext p; congr 1; funext q; congr 1; funext j; cases p <;> simp only [idxSl] <;> first | rfl | (unfold optK; (repeat' split) <;> simp_all; done)
def idxAr (s : St) (sz : Nat) (j : Int) (K : PV → Prop) : PV → Prop
  | .pt k p tot => optK (get s.bx k) fun blk => tot = blk.tot ∧ K (.pt k (p ++ [.i j.toNat sz]) tot)
  | .fp sz' l p => K (.fp sz' l (p ++ [.i j.toNat sz]))
  | _ => False
theorem x_indexA_ar (n sz : Nat) (x i : AX) (K : PV → Prop) : ev g s (.indexA (.ar n sz) x i) K = vgk g (vx s x) fun p => vgk g (vx s i) (intC fun j => (0 ≤ j ∧ j < n) ∧ idxAr s sz j K p) := by
  simp only [ev, x_vg, x_intK]; congr 1; funext p; congr 1; funext q; congr 1; funext j; cases p <;> simp only [idxAr] <;> first | rfl | (unfold optK; (repeat' split) <;> simp_all; done)
@[congr] theorem idxSl_cg {s s' : St} {sz : Nat} {j j' : Int} {K : PV → Prop} {p p' : PV} (h : s = s') (h1 : j = j') (h2 : p = p') : idxSl s sz j K p = idxSl s' sz j' K p' := by subst h h1 h2; rfl
def idxV (agg : Bool) (n w : Nat) (j : Int) (K : PV → Prop) : PV → Prop
  | .ar sz n' l => optK l[j.toNat]? fun c => (0 ≤ j ∧ j < n ∧ n' = n ∧ sz = w ∧ c.isAgg = agg) ∧ K c
  | _ => False
theorem x_index (agg : Bool) (n w : Nat) (x i : AX) (K : PV → Prop) : ev g s (.index agg n w x i) K = vgk g (vx s x) fun p => vgk g (vx s i) (intC fun j => idxV agg n w j K p) := by
  simp only [ev, x_vg, x_intK]; congr 1; funext p; congr 1; funext q; congr 1; funext j; cases p <;> simp only [idxV] <;> first | rfl | (unfold optK; (repeat' split) <;> simp_all; done)
def idxS (j : Int) (K : PV → Prop) : PV → Prop
  | .str bs => optK bs[j.toNat]? fun c => 0 ≤ j ∧ K (.int .u8 c.toNat)
  | _ => False
theorem x_indexS (x i : AX) (K : PV → Prop) : ev g s (.indexS x i) K = vgk g (vx s x) fun p => vgk g (vx s i) (intC fun j => idxS j K p) := by
  simp only [ev, x_vg, x_intK]; congr 1; funext p; congr 1; funext q; congr 1; funext j; cases p <;> simp only [idxS] <;> first | rfl | (unfold optK; (repeat' split) <;> simp_all; done)
def extK (i : Nat) (K : PV → Prop) : PV → Prop
  | .tup l => optK l[i]? K
  | _ => False
@[congr] theorem extK_cg {i : Nat} {K : PV → Prop} {p p' : PV} (h : p = p') : extK i K p = extK i K p' := by subst h; rfl
theorem x_extract (i : Nat) (x : AX) (K : PV → Prop) : ev g s (.extract i x) K = extK i K (vx s x) := by
  simp only [ev]; cases vx s x <;> simp only [extK] <;> first | rfl | (unfold optK; (repeat' split) <;> simp_all; done)
def lenK (s : St) (K : PV → Prop) : PV → Prop
  | .sl _ l _ => K (.int .i64 l.length)
  | .rs k _ _ len tot _ _ => optK (get s.bx k) fun blk => tot = blk.tot ∧ K (.int .i64 len)
  | _ => False
theorem x_len (x : AX) (K : PV → Prop) : ev g s (.len x) K = vgk g (vx s x) (lenK s K) := by
  simp only [ev, x_vg]; congr 1; funext p; cases p <;> simp only [lenK] <;> first | rfl | (unfold optK; (repeat' split) <;> simp_all; done)
end Go.Ab
namespace Go.Ab
variable [Tabs]
variable {P : Program} {s : St} {g : Bool}
def slStr (s : St) (g : Bool) (lo hi mx : Option AX) (K : PV → Prop) : PV → Prop
  | .str bs => mx.isNone = true ∧ lohi g s lo hi bs.length bs.length fun l h => K (.str ((bs.take h).drop l))
  | _ => False
theorem x_slice_str (x : AX) (lo hi mx : Option AX) (K : PV → Prop) : ev g s (.slice .str x lo hi mx) K = vgk g (vx s x) (slStr s g lo hi mx K) := by
  simp only [ev, x_vg]; congr 1
def slFa (s : St) (g : Bool) (n sz : Nat) (lo hi mx : Option AX) (K : PV → Prop) : PV → Prop
  | .ar z' n' l' => (z' = sz ∧ n' = n ∧ mx.isNone = true) ∧ lohi g s lo hi n n fun a b => K (.sl sz ((l'.take b).drop a) (decide (b = n)))
  | _ => False
def slAr (s : St) (g : Bool) (n sz : Nat) (lo hi mx : Option AX) (K : PV → Prop) : PV → Prop
  | .pt k p tot => optK (get s.bx k) fun blk => tot = blk.tot ∧ mx.isNone = true ∧ lohi g s lo hi n n fun a b => K (.rs k p a (b - a) tot sz (if b = n then .clip else .any))
  | .fp z l q => optK (getB (.arr z l) q) (slFa s g n sz lo hi mx K)
  | _ => False
theorem x_slice_ar (n sz : Nat) (x : AX) (lo hi mx : Option AX) (K : PV → Prop) : ev g s (.slice (.ar n sz) x lo hi mx) K = vgk g (vx s x) (slAr s g n sz lo hi mx K) := by
  simp only [ev, x_vg]; congr 1; funext p; cases p <;> simp only [slAr] <;> first | rfl | (unfold optK; (repeat' split) <;> simp_all; done) | (rename_i z l q; cases getB (.arr z l) q with | none => rfl | some u => cases u <;> rfl)
def slSl (s : St) (g : Bool) (sz : Nat) (lo hi : Option AX) (K : PV → Prop) : PV → Prop
  | .sl sz' l clip => lohi g s lo hi l.length l.length fun a b => (sz' = sz) ∧ K (.sl sz ((l.take b).drop a) (clip && decide (b = l.length)))
  | .rs k p off len tot sz' c => optK (get s.bx k) fun blk => (tot = blk.tot ∧ sz' = sz) ∧ lohi g s lo hi len len fun a b => K (.rs k p (off + a) (b - a) tot sz (if b = len then c else (match c with | .tip => .tip | _ => .any)))
  | _ => False
theorem x_slice_sl (sz : Nat) (x : AX) (lo hi : Option AX) (K : PV → Prop) : ev g s (.slice (.sl sz) x lo hi none) K = vgk g (vx s x) (slSl s g sz lo hi K) := by
  simp only [ev, x_vg]; congr 1; funext p; cases p <;> simp only [slSl] <;> first | rfl | (unfold optK; (repeat' split) <;> simp_all; done)
def slSm (s : St) (g : Bool) (sz : Nat) (lo hi : Option AX) (m : AX) (K : PV → Prop) : PV → Prop
  | .sl sz' l _ => vgk g (vx s m) (intC fun m => (0 ≤ m ∧ m ≤ l.length) ∧ lohi g s lo hi l.length m.toNat fun a b => (sz' = sz) ∧ K (.sl sz ((l.take b).drop a) (decide (b = m.toNat))))
  | .rs k p off len tot sz' _ => optK (get s.bx k) fun blk => (tot = blk.tot ∧ sz' = sz) ∧ vgk g (vx s m) (intC fun m => (0 ≤ m ∧ m ≤ len) ∧ lohi g s lo hi len m.toNat fun a b => K (.rs k p (off + a) (b - a) tot sz (if b = m.toNat then .clip else .any)))
  | _ => False
theorem x_slice_sm (sz : Nat) (x : AX) (lo hi : Option AX) (m : AX) (K : PV → Prop) : ev g s (.slice (.sl sz) x lo hi (some m)) K = vgk g (vx s x) (slSm s g sz lo hi m K) := by
  simp only [ev, x_vg]; congr 1; funext p; cases p <;> simp only [slSm, x_intK] <;> first | rfl | (unfold optK; (repeat' split) <;> simp_all; done)
def lohK (g : Bool) (s : St) (lo : Option AX) (K : Nat → Nat → Prop) (h : Nat) : Prop :=
  match lo with | none => K 0 h | some x => vgk g (vx s x) (intC fun l => (0 ≤ l ∧ l ≤ h) ∧ K l.toNat h)
theorem x_lohi_n (lo : Option AX) (len cap : Nat) (K : Nat → Nat → Prop) : lohi g s lo none len cap K = lohK g s lo K len := by
  cases lo <;> simp only [lohi, lohK, x_vg, x_intK]
theorem x_lohi_s (lo : Option AX) (x : AX) (len cap : Nat) (K : Nat → Nat → Prop) : lohi g s lo (some x) len cap K = vgk g (vx s x) (intC fun h => (0 ≤ h ∧ h ≤ cap) ∧ lohK g s lo K h.toNat) := by
  cases lo <;> simp only [lohi, lohK, x_vg, x_intK]
end Go.Ab
namespace Go.Ab
variable [Tabs]
variable {P : Program} {s : St} {g : Bool}
def srcK (s : St) (sz : Nat) (K : List PV → Prop) (q : PV) : Prop := conK s (fun sz' ys => (ys = [] ∨ sz' = sz) ∧ K ys) q
theorem x_src (sz : Nat) (q : PV) (K : List PV → Prop) : src s false sz q K = srcK s sz K q := by simp only [src, Bool.false_eq_true, if_false, srcK, x_content]
def srcS (sz : Nat) (K : List PV → Prop) : PV → Prop
  | .str bs => sz = 1 ∧ K (bs.map u8)
  | _ => False
theorem x_srcS (sz : Nat) (q : PV) (K : List PV → Prop) : src s true sz q K = srcS sz K q := by simp only [src, if_true]; cases q <;> rfl
theorem x_append (d : Option Nat) (sz bytes : Nat) (str : Bool) (x y : AX) (K : St → Prop) : ex s d (.append sz bytes str x y) K = vgk true (vx s x) fun p => vgk true (vx s y) fun q => src s str sz q fun ys => exAppend s d sz bytes p ys K := by
  simp only [ex, x_vg]
theorem x_alloc (k : Nat) (z : PV) (K : St → Prop) : ex s (some k) (.alloc z) K = (get s.bx k = none ∧ K { env := put s.env k (.pt k [] 0), bx := put s.bx k (.box z) }) := id rfl
theorem x_box (k : Nat) (x : AX) (K : St → Prop) : ex s (some k) (.box x) K = vgk true (vx s x) fun p => (get s.bx k = none ∧ p.cellular = true) ∧ K { env := put s.env k (.pt k [] 0), bx := put s.bx k (.box p) } := by
  simp only [ex, x_vg]
theorem x_buildSlice_f (d : Option Nat) (sz n : Nat) (z : PV) (parts : List (Nat × AX)) (K : St → Prop) : ex s d (.buildSlice false sz z n parts) K = vgp true s parts fun ps => optK (setParts (List.replicate n z) (ps.map fun x => (x.1, wk x.2))) fun l => K (s.put d (.sl sz l true)) := by
  simp only [ex, Bool.false_eq_true, if_false]; congr 1; funext ps; cases setParts (List.replicate n z) (ps.map fun x => (x.1, wk x.2)) <;> rfl
theorem x_buildSlice_t (k : Nat) (sz n : Nat) (z : PV) (parts : List (Nat × AX)) (K : St → Prop) : ex s (some k) (.buildSlice true sz z n parts) K = vgp true s parts fun ps => optK (setParts (List.replicate n z) (ps.map fun x => (x.1, wk x.2))) fun l => get s.bx k = none ∧ K { env := put s.env k (.rs k [] 0 n n sz .tip), bx := put s.bx k (.arr sz l) } := by
  simp only [ex, if_true]; congr 1; funext ps; cases setParts (List.replicate n z) (ps.map fun x => (x.1, wk x.2)) <;> rfl
def apTip (s : St) (d k len tot sz sz' bytes : Nat) (ys : List PV) (K : St → Prop) : Blk → Prop
  | .arr sz'' l => (tot = l.length ∧ len = l.length ∧ sz' = sz ∧ sz'' = sz ∧ (l.length + ys.length) * bytes ≤ 140737488355328 ∧ l.length + ys.length ≤ 9223372036854775807) ∧
      K { env := put s.env d (.rs k [] 0 (l.length + ys.length) (l.length + ys.length) sz .tip), bx := put s.bx k (.arr sz (l ++ ys)) }
  | _ => False
theorem x_ap_sl (d sz bytes sz0 : Nat) (l ys : List PV) (K : St → Prop) : exAppend s (some d) sz bytes (.sl sz0 l true) ys K = ((get s.bx d = none ∧ (l = [] ∨ (sz0 = sz ∧ ys ≠ [])) ∧ (l.length + ys.length) * bytes ≤ 140737488355328 ∧ l.length + ys.length ≤ 9223372036854775807) ∧
        K { env := put s.env d (.rs d [] 0 (l.length + ys.length) (l.length + ys.length) sz .tip), bx := put s.bx d (.arr sz (l ++ ys)) }) := rfl
theorem x_ap_tip (d sz bytes k len tot sz' : Nat) (ys : List PV) (K : St → Prop) : exAppend s (some d) sz bytes (.rs k [] 0 len tot sz' .tip) ys K = optK (get s.bx k) (apTip s d k len tot sz sz' bytes ys K) := by
  simp only [exAppend]
  cases get s.bx k with
  | none => rfl
  | some b => cases b <;> rfl
theorem x_ap_clip (d sz bytes k off len tot sz' : Nat) (p : List Step) (ys : List PV) (K : St → Prop) : exAppend s (some d) sz bytes (.rs k p off len tot sz' .clip) ys K = conK s (fun sz'' l => (get s.bx d = none ∧ sz'' = sz ∧ ys ≠ [] ∧ (l.length + ys.length) * bytes ≤ 140737488355328 ∧ l.length + ys.length ≤ 9223372036854775807) ∧
        K { env := put s.env d (.rs d [] 0 (l.length + ys.length) (l.length + ys.length) sz .tip), bx := put s.bx d (.arr sz (l ++ ys)) }) (.rs k p off len tot sz' .clip) := by
  rw [← x_content]
  cases p <;> cases off <;> rfl
end Go.Ab
namespace Go.Ab
variable [Tabs]
variable {P : Program} {s : St} {g : Bool} [YCtx]
def storeK (s : St) (n : Nat) (v : PV) (K : St → Prop) : PV → Prop
  | .pt k pth tot => optK (get s.bx k) fun blk => optK (setB blk pth (wkb blk v)) fun blk' => (tot = blk.tot ∧ v.width = n ∧ v.cellular = true) ∧ K { s with bx := put s.bx k blk' }
  | _ => False
theorem x_store (d : Option Nat) (n : Nat) (x y : AX) (K : St → Prop) : ex s d (.store n x y) K = vgk true (vx s x) fun p => vgk true (vx s y) fun v => storeK s n v K p := by
  simp only [ex, x_vg]; congr 1; funext p; congr 1; funext v
  cases p <;> simp only [storeK]
  rename_i k pth tot
  cases get s.bx k with
  | none => rfl
  | some b => simp only [optK_some]; cases setB b pth (wkb b v) <;> rfl
def isNilK (s : St) (d : Option Nat) (ng : Bool) (K : St → Prop) : PV → Prop
  | .sl _ l _ => ∀ b : Bool, (b = true → l = []) → K (s.put d (.bl (b != ng)))
  | .rs k _ _ len tot _ _ => optK (get s.bx k) fun blk => tot = blk.tot ∧ ∀ b : Bool, (b = true → len = 0) → K (s.put d (.bl (b != ng)))
  | _ => False
theorem x_isNil (d : Option Nat) (ng : Bool) (x : AX) (K : St → Prop) : ex s d (.isNil ng x) K = vgk true (vx s x) (isNilK s d ng K) := by
  simp only [ex, x_vg]; congr 1; funext p
  cases p <;> simp only [isNilK]
  rename_i k _ _ _ _ _ _
  cases get s.bx k <;> rfl
theorem x_makeSlice (k sz bytes : Nat) (z : PV) (len cap : AX) (K : St → Prop) : ex s (some k) (.makeSlice sz bytes z len cap) K = vgk true (vx s len) (intC fun l => vgk true (vx s cap) (intC fun c =>
    (get s.bx k = none ∧ 0 ≤ l ∧ l ≤ c ∧ c * bytes ≤ 281474976710656 ∧ c ≤ 9223372036854775807) ∧
        K { env := put s.env k (.rs k [] 0 l.toNat l.toNat sz .tip), bx := put s.bx k (.arr sz (List.replicate l.toNat z)) })) := by
  simp only [ex, x_vg, x_intK]
def gdK (want mg : Bool) (M : Bool → Prop) (D U : Prop) : PV → Prop
  | .bl b => if mg = true then M (b == want) else (b = want → D) ∧ (b ≠ want → U)
  | .gd g (.bl b) => if mg = true then M (g && b == want) else (g = true → b = want → D) ∧ ((g = true → b ≠ want) → U)
  | _ => False
@[congr] theorem gdK_cg {want mg : Bool} {M : Bool → Prop} {D U : Prop} {p p' : PV} (h : p = p') : gdK want mg M D U p = gdK want mg M D U p' := by subst h; rfl
theorem x_wpo_g (d : Option Nat) (sl : Nat) (want mg : Bool) (k : AK) (K : St → Prop) : wpo P s ⟨d, some (sl, want), mg, k⟩ K =
    gdK want mg (fun g => ev g s k fun p => K (s.put d (.gd g p))) (do1 P s ⟨d, some (sl, want), mg, k⟩ K) (K (s.put d .un)) ((get s.env sl).getD .un) := by
  simp only [wpo]
  generalize (get s.env sl).getD .un = p
  cases p <;> try rfl
def cdK (A B : Prop) : PV → Prop
  | .bl b => (b = true → A) ∧ (b = false → B)
  | .gd g (.bl b) => g = true ∧ (b = true → A) ∧ (b = false → B)
  | _ => False
@[congr] theorem cdK_cg {A B : Prop} {p p' : PV} (h : p = p') : cdK A B p = cdK A B p' := by subst h; rfl
theorem x_cond (c : AX) (x y : ACode) (Q : Exit → St → Prop) : aw P (.cond c x y) Q s = cdK (aw P x Q s) (aw P y Q s) (vx s c) := by
  simp only [aw]
  generalize vx s c = p
  cases p <;> try rfl
def callR (P : Program) (s : St) (d : Option Nat) (K : St → Prop) (args : List PV) : PV → Prop
  | .fn (.func fid) first cap => ∃ ks os, CallK P s d fid (first ++ args ++ cap) ks os K
  | .fn (.yield l) [] [] => YCallK s d l args K
  | _ => False
theorem x_vgs_n (K : List PV → Prop) : vgs g s [] K = K [] := id rfl
theorem x_vgs_c (x : AX) (xs : List AX) (K : List PV → Prop) : vgs g s (x :: xs) K = vgk g (vx s x) fun p => vgs g s xs fun ps => K (p :: ps) := by simp only [vgs, x_vg]
theorem x_vgp_n (K : List (Nat × PV) → Prop) : vgp g s [] K = K [] := id rfl
theorem x_vgp_c (i : Nat) (x : AX) (xs : List (Nat × AX)) (K : List (Nat × PV) → Prop) : vgp g s ((i, x) :: xs) K = vgk g (vx s x) fun p => vgp g s xs fun ps => K ((i, p) :: ps) := by simp only [vgp, x_vg]
theorem x_callW (d : Option Nat) (f : AX) (args : List AX) (K : St → Prop) : callW P s d f args K = vgk true (vx s f) fun pf => vgs true s args fun ps => callR P s d K ps pf := by
  simp only [callW, x_vg]; congr 1
end Go.Ab
namespace Go.Ab
variable [Tabs]
@[simp ↓] theorem vgk_bl {g : Bool} {K : PV → Prop} (cx : Bool) : vgk g (.bl cx) K = K (.bl cx) := id rfl
@[simp ↓] theorem vgk_int {g : Bool} {K : PV → Prop} (ck : IntKind) (cn : Int) : vgk g (.int ck cn) K = K (.int ck cn) := id rfl
@[simp ↓] theorem vgk_str {g : Bool} {K : PV → Prop} (cl : List UInt8) : vgk g (.str cl) K = K (.str cl) := id rfl
@[simp ↓] theorem vgk_st {g : Bool} {K : PV → Prop} (cw : Nat) (cl : List PV) : vgk g (.st cw cl) K = K (.st cw cl) := id rfl
@[simp ↓] theorem vgk_ar {g : Bool} {K : PV → Prop} (cz cn : Nat) (cl : List PV) : vgk g (.ar cz cn cl) K = K (.ar cz cn cl) := id rfl
@[simp ↓] theorem vgk_tup {g : Bool} {K : PV → Prop} (cl : List PV) : vgk g (.tup cl) K = K (.tup cl) := id rfl
@[simp ↓] theorem vgk_sl {g : Bool} {K : PV → Prop} (cz : Nat) (cl : List PV) (cc : Bool) : vgk g (.sl cz cl cc) K = K (.sl cz cl cc) := id rfl
@[simp ↓] theorem vgk_rs {g : Bool} {K : PV → Prop} (ck : Nat) (cp : List Step) (co cl ct cz : Nat) (cc : CapK) : vgk g (.rs ck cp co cl ct cz cc) K = K (.rs ck cp co cl ct cz cc) := id rfl
@[simp ↓] theorem vgk_np {g : Bool} {K : PV → Prop} : vgk g .np K = K .np := id rfl
@[simp ↓] theorem vgk_pt {g : Bool} {K : PV → Prop} (ck : Nat) (cp : List Step) (ct : Nat) : vgk g (.pt ck cp ct) K = K (.pt ck cp ct) := id rfl
@[simp ↓] theorem vgk_fp {g : Bool} {K : PV → Prop} (cz : Nat) (cl : List PV) (cp : List Step) : vgk g (.fp cz cl cp) K = K (.fp cz cl cp) := id rfl
@[simp ↓] theorem vgk_fn {g : Bool} {K : PV → Prop} (cf : FuncId) (ca cb : List PV) : vgk g (.fn (.func cf) ca cb) K = K (.fn (.func cf) ca cb) := id rfl
@[simp ↓] theorem vgk_nf {g : Bool} {K : PV → Prop} : vgk g .nf K = K .nf := id rfl
@[simp ↓] theorem vgk_gd {g : Bool} {K : PV → Prop} (cb : Bool) (cv : PV) : vgk g (.gd cb cv) K = ((g = true → cb = true) ∧ K cv) := id rfl
@[simp ↓] theorem loadK_pt {s : St} {agg : Bool} {w : Nat} {K : PV → Prop} (ck : Nat) (cp : List Step) (ct : Nat) : loadK s agg w K (.pt ck cp ct) = (optK (get s.bx ck) fun blk => optK (getB blk cp) fun u => (ct = blk.tot ∧ u.width = w ∧ u.isAgg = agg) ∧ K u) := id rfl
@[simp ↓] theorem loadK_fp {s : St} {agg : Bool} {w : Nat} {K : PV → Prop} (cz : Nat) (cl : List PV) (cp : List Step) : loadK s agg w K (.fp cz cl cp) = (optK (getB (.arr cz cl) cp) fun u => (u.width = w ∧ u.isAgg = agg) ∧ K u) := id rfl
@[simp ↓] theorem nilK_pt {s : St} {K : PV → Prop} (ck : Nat) (cp : List Step) (ct : Nat) : nilK s K (.pt ck cp ct) = (optK (get s.bx ck) fun blk => ct = blk.tot ∧ K (.pt ck cp ct)) := id rfl
@[simp ↓] theorem buildK_st {ps : List (Nat × PV)} {K : PV → Prop} (cw : Nat) (cl : List PV) : buildK ps K (.st cw cl) = (optK (setParts cl ps) fun l' => K (.st cw l')) := id rfl
@[simp ↓] theorem buildK_ar {ps : List (Nat × PV)} {K : PV → Prop} (cz cn : Nat) (cl : List PV) : buildK ps K (.ar cz cn cl) = (optK (setParts cl ps) fun l' => K (.ar cz cn l')) := id rfl
@[simp ↓] theorem intC_int {K : Int → Prop} (ck : IntKind) (cn : Int) : intC K (.int ck cn) = (K cn) := id rfl
@[simp ↓] theorem conK_sl {s : St} {K : Nat → List PV → Prop} (cz : Nat) (cl : List PV) (cc : Bool) : conK s K (.sl cz cl cc) = (K cz cl) := id rfl
@[simp ↓] theorem fieldAK_pt {s : St} {i off : Nat} {K : PV → Prop} (ck : Nat) (cp : List Step) (ct : Nat) : fieldAK s i off K (.pt ck cp ct) = (optK (get s.bx ck) fun blk => ct = blk.tot ∧ K (.pt ck (cp ++ [.f i off]) ct)) := id rfl
@[simp ↓] theorem fieldAK_fp {s : St} {i off : Nat} {K : PV → Prop} (cz : Nat) (cl : List PV) (cp : List Step) : fieldAK s i off K (.fp cz cl cp) = (K (.fp cz cl (cp ++ [.f i off]))) := id rfl
@[simp ↓] theorem s2aK_sl {s : St} {n sz : Nat} {K : PV → Prop} (cz : Nat) (cl : List PV) (cc : Bool) : s2aK s n sz K (.sl cz cl cc) = ((cz = sz ∧ 0 < n ∧ n ≤ cl.length) ∧ K (.fp sz cl [.w 0 n sz])) := id rfl
@[simp ↓] theorem idxSl_sl {s : St} {sz : Nat} {j : Int} {K : PV → Prop} (cz : Nat) (cl : List PV) (cc : Bool) : idxSl s sz j K (.sl cz cl cc) = ((cz = sz ∧ 0 ≤ j ∧ j < cl.length) ∧ K (.fp sz cl [.i j.toNat sz])) := id rfl
@[simp ↓] theorem idxSl_rs {s : St} {sz : Nat} {j : Int} {K : PV → Prop} (ck : Nat) (cp : List Step) (co cl ct cz : Nat) (cc : CapK) : idxSl s sz j K (.rs ck cp co cl ct cz cc) = (optK (get s.bx ck) fun blk => (ct = blk.tot ∧ cz = sz ∧ 0 ≤ j ∧ j < cl) ∧ K (.pt ck (cp ++ [.i (co + j.toNat) sz]) ct)) := id rfl
@[simp ↓] theorem idxAr_pt {s : St} {sz : Nat} {j : Int} {K : PV → Prop} (ck : Nat) (cp : List Step) (ct : Nat) : idxAr s sz j K (.pt ck cp ct) = (optK (get s.bx ck) fun blk => ct = blk.tot ∧ K (.pt ck (cp ++ [.i j.toNat sz]) ct)) := id rfl
@[simp ↓] theorem extK_tup {i : Nat} {K : PV → Prop} (cl : List PV) : extK i K (.tup cl) = (optK cl[i]? K) := id rfl
@[simp ↓] theorem lenK_sl {s : St} {K : PV → Prop} (cz : Nat) (cl : List PV) (cc : Bool) : lenK s K (.sl cz cl cc) = (K (.int .i64 cl.length)) := id rfl
@[simp ↓] theorem lenK_rs {s : St} {K : PV → Prop} (ck : Nat) (cp : List Step) (co cl ct cz : Nat) (cc : CapK) : lenK s K (.rs ck cp co cl ct cz cc) = (optK (get s.bx ck) fun blk => ct = blk.tot ∧ K (.int .i64 cl)) := id rfl
@[simp ↓] theorem slStr_str {s : St} {g : Bool} {lo hi mx : Option AX} {K : PV → Prop} (cl : List UInt8) : slStr s g lo hi mx K (.str cl) = (mx.isNone = true ∧ lohi g s lo hi cl.length cl.length fun l h => K (.str ((cl.take h).drop l))) := id rfl
@[simp ↓] theorem slAr_fp {s : St} {g : Bool} {n sz : Nat} {lo hi mx : Option AX} {K : PV → Prop} (cz : Nat) (cl : List PV) (cp : List Step) : slAr s g n sz lo hi mx K (.fp cz cl cp) = optK (getB (.arr cz cl) cp) (slFa s g n sz lo hi mx K) := id rfl
@[simp ↓] theorem slFa_ar {s : St} {g : Bool} {n sz : Nat} {lo hi mx : Option AX} {K : PV → Prop} (z' n' : Nat) (l' : List PV) : slFa s g n sz lo hi mx K (.ar z' n' l') = ((z' = sz ∧ n' = n ∧ mx.isNone = true) ∧ lohi g s lo hi n n fun a b => K (.sl sz ((l'.take b).drop a) (decide (b = n)))) := id rfl
@[simp ↓] theorem slAr_pt {s : St} {g : Bool} {n sz : Nat} {lo hi mx : Option AX} {K : PV → Prop} (ck : Nat) (cp : List Step) (ct : Nat) : slAr s g n sz lo hi mx K (.pt ck cp ct) = (optK (get s.bx ck) fun blk => ct = blk.tot ∧ mx.isNone = true ∧ lohi g s lo hi n n fun a b => K (.rs ck cp a (b - a) ct sz (if b = n then .clip else .any))) := id rfl
@[simp ↓] theorem storeK_pt {s : St} {n : Nat} {v : PV} {K : St → Prop} (ck : Nat) (cp : List Step) (ct : Nat) : storeK s n v K (.pt ck cp ct) = (optK (get s.bx ck) fun blk => optK (setB blk cp (wkb blk v)) fun blk' => (ct = blk.tot ∧ v.width = n ∧ v.cellular = true) ∧ K { s with bx := put s.bx ck blk' }) := id rfl
@[simp ↓ 500] theorem cdK_bl {A B : Prop} (cx : Bool) : cdK A B (.bl cx) = ((cx = true → A) ∧ (cx = false → B)) := id rfl
@[simp ↓] theorem pickC_bl {s : St} {a b : AX} {K : PV → Prop} (cx : Bool) : pickC s a b K (.bl cx) = (pickK cx K (vx s a) (vx s b)) := id rfl
end Go.Ab
namespace Go.Ab
variable [Tabs]
variable {P : Program} {s : St} {g : Bool}
theorem x_mv (x : AX) (K : PV → Prop) : ev g s (.mv x) K = vgk g (vx s x) K := by simp only [ev, x_vg]
theorem x_convI (k : IntKind) (x : AX) (K : PV → Prop) : ev g s (.convI k x) K = vgk g (vx s x) (intC fun n => K (.int k (k.wrap n))) := by simp only [ev, x_vg, x_intK]
theorem x_lenC (n : Nat) (K : PV → Prop) : ev g s (.lenC n) K = K (.int .i64 n) := id rfl
end Go.Ab
namespace Go.Ab
variable [Tabs]
variable {P : Program} {s : St} [YCtx]
@[simp ↓] theorem do1_mv (d : Option Nat) (gd : Option (Nat × Bool)) (mg : Bool) (x : AX) (K : St → Prop) : do1 P s ⟨d, gd, mg, .mv x⟩ K = ev true s (.mv x) fun p => K (s.put d p) := id rfl
@[simp ↓] theorem do1_pick (d : Option Nat) (gd : Option (Nat × Bool)) (mg : Bool) (c a b : AX) (K : St → Prop) : do1 P s ⟨d, gd, mg, .pick c a b⟩ K = ev true s (.pick c a b) fun p => K (s.put d p) := id rfl
@[simp ↓] theorem do1_build (d : Option Nat) (gd : Option (Nat × Bool)) (mg : Bool) (z : PV) (ps : List (Nat × AX)) (K : St → Prop) : do1 P s ⟨d, gd, mg, .build z ps⟩ K = ev true s (.build z ps) fun p => K (s.put d p) := id rfl
@[simp ↓] theorem do1_load (d : Option Nat) (gd : Option (Nat × Bool)) (mg : Bool) (a : Bool) (w : Nat) (x : AX) (K : St → Prop) : do1 P s ⟨d, gd, mg, .load a w x⟩ K = ev true s (.load a w x) fun p => K (s.put d p) := id rfl
@[simp ↓] theorem do1_nilCheck (d : Option Nat) (gd : Option (Nat × Bool)) (mg : Bool) (x : AX) (K : St → Prop) : do1 P s ⟨d, gd, mg, .nilCheck x⟩ K = ev true s (.nilCheck x) fun p => K (s.put d p) := id rfl
@[simp ↓] theorem do1_bin (d : Option Nat) (gd : Option (Nat × Bool)) (mg : Bool) (o : BinOp) (e : ET) (x y : AX) (K : St → Prop) : do1 P s ⟨d, gd, mg, .bin o e x y⟩ K = ev true s (.bin o e x y) fun p => K (s.put d p) := id rfl
@[simp ↓] theorem do1_un (d : Option Nat) (gd : Option (Nat × Bool)) (mg : Bool) (o : UnOp) (x : AX) (K : St → Prop) : do1 P s ⟨d, gd, mg, .un o x⟩ K = ev true s (.un o x) fun p => K (s.put d p) := id rfl
@[simp ↓] theorem do1_convI (d : Option Nat) (gd : Option (Nat × Bool)) (mg : Bool) (k : IntKind) (x : AX) (K : St → Prop) : do1 P s ⟨d, gd, mg, .convI k x⟩ K = ev true s (.convI k x) fun p => K (s.put d p) := id rfl
@[simp ↓] theorem do1_convS (d : Option Nat) (gd : Option (Nat × Bool)) (mg : Bool) (x : AX) (K : St → Prop) : do1 P s ⟨d, gd, mg, .convS x⟩ K = ev true s (.convS x) fun p => K (s.put d p) := id rfl
@[simp ↓] theorem do1_mkFunc (d : Option Nat) (gd : Option (Nat × Bool)) (mg : Bool) (f : Fn) (a b : List AX) (K : St → Prop) : do1 P s ⟨d, gd, mg, .mkFunc f a b⟩ K = ev true s (.mkFunc f a b) fun p => K (s.put d p) := id rfl
@[simp ↓] theorem do1_slice (d : Option Nat) (gd : Option (Nat × Bool)) (mg : Bool) (k : SK) (x : AX) (l h m : Option AX) (K : St → Prop) : do1 P s ⟨d, gd, mg, .slice k x l h m⟩ K = ev true s (.slice k x l h m) fun p => K (s.put d p) := id rfl
@[simp ↓] theorem do1_fieldA (d : Option Nat) (gd : Option (Nat × Bool)) (mg : Bool) (i o : Nat) (x : AX) (K : St → Prop) : do1 P s ⟨d, gd, mg, .fieldA i o x⟩ K = ev true s (.fieldA i o x) fun p => K (s.put d p) := id rfl
@[simp ↓] theorem do1_s2a (d : Option Nat) (gd : Option (Nat × Bool)) (mg : Bool) (n z : Nat) (x : AX) (K : St → Prop) : do1 P s ⟨d, gd, mg, .s2a n z x⟩ K = ev true s (.s2a n z x) fun p => K (s.put d p) := id rfl
@[simp ↓] theorem do1_mkMap (d : Option Nat) (gd : Option (Nat × Bool)) (mg : Bool) (a b : Sh) (K : St → Prop) : do1 P s ⟨d, gd, mg, .mkMap a b⟩ K = ex s d (.mkMap a b) K := id rfl
@[simp ↓] theorem do1_mapGet (d : Option Nat) (gd : Option (Nat × Bool)) (mg : Bool) (a b : Sh) (z : PV) (ok : Bool) (m x : AX) (K : St → Prop) : do1 P s ⟨d, gd, mg, .mapGet a b z ok m x⟩ K = ex s d (.mapGet a b z ok m x) K := id rfl
@[simp ↓] theorem do1_mapSet (d : Option Nat) (gd : Option (Nat × Bool)) (mg : Bool) (a b : Sh) (m x y : AX) (K : St → Prop) : do1 P s ⟨d, gd, mg, .mapSet a b m x y⟩ K = ex s d (.mapSet a b m x y) K := id rfl
@[simp ↓] theorem do1_indexA (d : Option Nat) (gd : Option (Nat × Bool)) (mg : Bool) (k : SK) (x i : AX) (K : St → Prop) : do1 P s ⟨d, gd, mg, .indexA k x i⟩ K = ev true s (.indexA k x i) fun p => K (s.put d p) := id rfl
@[simp ↓] theorem do1_extract (d : Option Nat) (gd : Option (Nat × Bool)) (mg : Bool) (i : Nat) (x : AX) (K : St → Prop) : do1 P s ⟨d, gd, mg, .extract i x⟩ K = ev true s (.extract i x) fun p => K (s.put d p) := id rfl
@[simp ↓] theorem do1_len (d : Option Nat) (gd : Option (Nat × Bool)) (mg : Bool) (x : AX) (K : St → Prop) : do1 P s ⟨d, gd, mg, .len x⟩ K = ev true s (.len x) fun p => K (s.put d p) := id rfl
@[simp ↓] theorem do1_mm (d : Option Nat) (gd : Option (Nat × Bool)) (mg : Bool) (m : Bool) (xs : List AX) (K : St → Prop) : do1 P s ⟨d, gd, mg, .mm m xs⟩ K = ev true s (.mm m xs) fun p => K (s.put d p) := id rfl
@[simp ↓] theorem do1_alloc (d : Option Nat) (gd : Option (Nat × Bool)) (mg : Bool) (z : PV) (K : St → Prop) : do1 P s ⟨d, gd, mg, .alloc z⟩ K = ex s d (.alloc z) K := id rfl
@[simp ↓] theorem do1_box (d : Option Nat) (gd : Option (Nat × Bool)) (mg : Bool) (x : AX) (K : St → Prop) : do1 P s ⟨d, gd, mg, .box x⟩ K = ex s d (.box x) K := id rfl
@[simp ↓] theorem do1_buildSlice (d : Option Nat) (gd : Option (Nat × Bool)) (mg : Bool) (o : Bool) (sz : Nat) (z : PV) (n : Nat) (ps : List (Nat × AX)) (K : St → Prop) : do1 P s ⟨d, gd, mg, .buildSlice o sz z n ps⟩ K = ex s d (.buildSlice o sz z n ps) K := id rfl
@[simp ↓] theorem do1_makeSlice (d : Option Nat) (gd : Option (Nat × Bool)) (mg : Bool) (sz b : Nat) (z : PV) (l c : AX) (K : St → Prop) : do1 P s ⟨d, gd, mg, .makeSlice sz b z l c⟩ K = ex s d (.makeSlice sz b z l c) K := id rfl
@[simp ↓] theorem do1_store (d : Option Nat) (gd : Option (Nat × Bool)) (mg : Bool) (w : Nat) (a x : AX) (K : St → Prop) : do1 P s ⟨d, gd, mg, .store w a x⟩ K = ex s d (.store w a x) K := id rfl
@[simp ↓] theorem do1_append (d : Option Nat) (gd : Option (Nat × Bool)) (mg : Bool) (sz b : Nat) (st : Bool) (x y : AX) (K : St → Prop) : do1 P s ⟨d, gd, mg, .append sz b st x y⟩ K = ex s d (.append sz b st x y) K := id rfl
@[simp ↓] theorem do1_copy (d : Option Nat) (gd : Option (Nat × Bool)) (mg : Bool) (sz : Nat) (x y : AX) (K : St → Prop) : do1 P s ⟨d, gd, mg, .copy sz x y⟩ K = ex s d (.copy sz x y) K := id rfl
@[simp ↓] theorem do1_call (d : Option Nat) (gd : Option (Nat × Bool)) (mg : Bool) (f : AX) (l : List AX) (K : St → Prop) : do1 P s ⟨d, gd, mg, .call f l⟩ K = callW P s d f l K := id rfl
@[simp ↓] theorem do1_callq (d : Option Nat) (gd : Option (Nat × Bool)) (mg : Bool) (f : AX) (l : List AX) (K : St → Prop) : do1 P s ⟨d, gd, mg, .callq f l⟩ K = callQ P s d f l K := id rfl
end Go.Ab
namespace Go.Ab
variable [Tabs]
variable {P : Program} {s : St}
theorem callK_pure {d : Option Nat} {f : FuncId} {args : List PV} {R : PV → Prop} {K : St → Prop} (hA : ACalls P f args [] (fun r fp => R r ∧ fp = [])) (hp : PureL args) (hr : ∀ r, R r → Pure r) (h : ∀ r, R r → K (s.put d r)) :
    ∃ ks os, CallK P s d f args ks os K := by
  refine ⟨[], [], [], (fun r fp => R r ∧ fp = []), rfl, by simp, by simp, hp.refs _, rfl, ?_, ?_⟩
  · rw [hp.ren]; exact hA
  · rintro r fp ⟨hR, rfl⟩
    refine ⟨⟨rfl, (hr r hR).refs _, rfl⟩, ?_⟩
    rw [(hr r hR).ren]
    exact h r hR
theorem callK_own {d : Option Nat} {f : FuncId} {args : List PV} {sz : Nat} {R : List PV → Prop} {K : St → Prop} (o : Nat) (hA : ACalls P f args [] (fun r fp => ∃ l, R l ∧ r = .rs KB [] 0 l.length l.length sz .tip ∧ fp = [.arr sz l])) (hp : PureL args) (ho : get s.bx o = none)
    (hl : ∀ l, R l → PureL l) (h : ∀ l, R l → K ({ s with bx := put s.bx o (.arr sz l) }.put d (.rs o [] 0 l.length l.length sz .tip))) : ∃ ks os, CallK P s d f args ks os K := by
  refine ⟨[], [o], [], (fun r fp => ∃ l, R l ∧ r = .rs KB [] 0 l.length l.length sz .tip ∧ fp = [.arr sz l]), rfl, by simp, by simpa using ho, hp.refs _, rfl, ?_, ?_⟩
  · rw [hp.ren]; exact hA
  · rintro r fp ⟨l, hR, rfl, rfl⟩
    have hpl := hl l hR
    have e : ren2 [o] KB = o := by simp [ren2]
    refine ⟨⟨rfl, by simp [refsOk, inFp], by simp [refsOkB, hpl.refs]⟩, ?_⟩
    simpa [putAll, renB, hpl.ren, ren, e] using h l hR
end Go.Ab
namespace Go.Ab
variable [Tabs]
variable {P : Program} {s : St} {g : Bool} [YCtx]
attribute [simp ↓] x_pick x_build x_load x_nilCheck x_binP x_binN x_binB x_binS x_intK x_un x_content x_convS x_fieldA x_s2a x_field x_indexA_sl x_indexA_ar x_index x_indexS x_extract x_len
  x_slice_str x_slice_ar x_slice_sl x_slice_sm x_lohi_n x_lohi_s x_src x_srcS x_append x_alloc x_box x_buildSlice_f x_buildSlice_t x_ap_sl x_ap_tip x_ap_clip
  x_store x_isNil x_makeSlice x_vgs_n x_vgs_c x_vgp_n x_vgp_c x_mv x_convI x_lenC
inductive Tg {α : Sort _} (a : α) : Type
  | mk
def callS (P : Program) (s : St) (d : Option Nat) (f : FuncId) (args : List PV) (K : St → Prop) (_ : Tg K) : Prop := ∃ ks os, CallK P s d f args ks os K
def callT (P : Program) (s : St) (d : Option Nat) (f : FuncId) (args : List PV) (K : St → Prop) (_ : Tg K) : Prop :=
  ∃ v, (refsOkL (fun _ => false) args = true ∧ refsOk (fun _ => false) v = true) ∧ ACalls P f args [] (fun r fp => r = v ∧ fp = []) ∧ K (s.put d v)
def yS (s : St) (d : Option Nat) (l : Nat) (args : List PV) (K : St → Prop) (_ : Tg K) : Prop := YCallK s d l args K
def callsR (P : Program) (s : St) (d : Option Nat) (K : St → Prop) (t : Tg K) (args : List PV) : PV → Prop
  | .fn (.func fid) first cap => callS P s d fid (first ++ args ++ cap) K t
  | .fn (.yield l) [] [] => yS s d l args K t
  | _ => False
def calltR (P : Program) (s : St) (d : Option Nat) (K : St → Prop) (t : Tg K) (args : List PV) : PV → Prop
  | .fn (.func fid) first cap => callT P s d fid (first ++ args ++ cap) K t
  | _ => False
@[simp ↓] theorem callsR_fn (d : Option Nat) (K : St → Prop) (t : Tg K) (l a b : List PV) (f : FuncId) : callsR P s d K t l (.fn (.func f) a b) = callS P s d f (a ++ l ++ b) K t := _root_.id rfl
@[simp ↓] theorem callsR_y (d : Option Nat) (K : St → Prop) (t : Tg K) (l : List PV) (y : Nat) : callsR P s d K t l (.fn (.yield y) [] []) = yS s d y l K t := _root_.id rfl
@[simp ↓] theorem calltR_fn (d : Option Nat) (K : St → Prop) (t : Tg K) (l a b : List PV) (f : FuncId) : calltR P s d K t l (.fn (.func f) a b) = callT P s d f (a ++ l ++ b) K t := _root_.id rfl
@[simp ↓] theorem x_callS (d : Option Nat) (f : AX) (args : List AX) (K : St → Prop) : callW P s d f args K = vgk true (vx s f) fun pf => vgs true s args fun ps => callsR P s d K .mk ps pf := by
  rw [x_callW]; congr 1
@[simp ↓] theorem x_callT (d : Option Nat) (f : AX) (args : List AX) (K : St → Prop) : callQ P s d f args K = vgk true (vx s f) fun pf => vgs true s args fun ps => calltR P s d K .mk ps pf := by
  simp only [callQ, x_vg]; congr 1
@[simp ↓] theorem vx_t (n : Nat) : vx s (.t n) = (get s.env n).getD .un := _root_.id rfl
@[simp ↓] theorem vx_c (p : PV) : vx s (.c p) = p := _root_.id rfl
@[simp ↓] theorem get_nil {α : Type} (n : Nat) : get ([] : List (Nat × α)) n = none := _root_.id rfl
@[simp ↓] theorem get_cons {α : Type} (k n : Nat) (v : α) (r : List (Nat × α)) : get ((k, v) :: r) n = if k = n then some v else get r n := _root_.id rfl
@[simp ↓] theorem put_nil {α : Type} (n : Nat) (x : α) : put [] n x = [(n, x)] := _root_.id rfl
@[simp ↓] theorem put_cons {α : Type} (k n : Nat) (v x : α) (r : List (Nat × α)) : put ((k, v) :: r) n x = if k = n then (n, x) :: r else if n < k then (n, x) :: (k, v) :: r else (k, v) :: put r n x := _root_.id rfl
@[simp ↓] theorem stput_some (d : Nat) (p : PV) : s.put (some d) p = { s with env := put s.env d p } := _root_.id rfl
@[simp ↓] theorem wpl_nil (K : St → Prop) : wpl P s [] K = K s := _root_.id rfl
@[simp ↓] theorem wpl_cons (o : AO) (l : List AO) (K : St → Prop) : wpl P s (o :: l) K = wpo P s o fun s' => wpl P s' l K := _root_.id rfl
def LpS (P : Program) (x : ACode) (Q : Exit → St → Prop) (_ : Tg (x, Q)) (s : St) : Prop := Lp (fun Q s => aw P x Q s) Q s
def RgS (P : Program) (ps : List Nat) (x y : ACode) (Q : Exit → St → Prop) (_ : Tg (x, y, Q)) (s : St) : PV → Prop
  | .fn (.func fid) [] cap => RangeK P (fun Q s => aw P x Q s) (fun Q s => aw P y Q s) s fid cap ps fun s' => Q .normal s'
  | _ => False
def RndS (n : Nat) (R : List Blk → Prop) (_ : Tg R) (s : St) : Prop := RndK n R s
@[simp ↓] theorem aw_rangeF (g : AX) (ps : List Nat) (x y : ACode) (Q : Exit → St → Prop) : aw P (.rangeF g ps x y) Q s = RgS P ps x y Q .mk s (vx s g) := by
  simp only [aw]; generalize vx s g = p; cases p <;> rfl
@[simp ↓] theorem roundQ_normal (n : Nat) (R : List Blk → Prop) : roundQ n R .normal s = RndS n R .mk s := _root_.id rfl
def RetS (n : Nat) (res : List AK) (R : PV → List Blk → Prop) (_ : Tg R) (s : St) : Prop := RetK n res R s
theorem aw_lk (c : ACode) (Q : Exit → St → Prop) : aw P (lk c) Q s = aw P c Q s := by rw [lk_e]
@[simp ↓] theorem aw_skip (Q : Exit → St → Prop) : aw P .skip Q s = Q .normal s := _root_.id rfl
@[simp ↓] theorem aw_region (l : List AO) (Q : Exit → St → Prop) : aw P (.region l) Q s = wpl P s l (Q .normal) := _root_.id rfl
@[simp ↓] theorem aw_seq (x y : ACode) (Q : Exit → St → Prop) : aw P (.seq x y) Q s = aw P x (thn Q fun s' => aw P y Q s') s := _root_.id rfl
@[simp ↓] theorem aw_cond (n : Nat) (v : PV) (e : List (Nat × PV)) (b : List (Nat × Blk)) (c : AX) (x y : ACode) (Q : Exit → St → Prop) : aw P (.cond c x y) Q ⟨(n, v) :: e, b⟩ = cdK (aw P x Q ⟨(n, v) :: e, b⟩) (aw P y Q ⟨(n, v) :: e, b⟩) (vx ⟨(n, v) :: e, b⟩ c) := x_cond c x y Q
@[simp ↓] theorem wpo_n (n : Nat) (v : PV) (e : List (Nat × PV)) (b : List (Nat × Blk)) (d : Option Nat) (mg : Bool) (k : AK) (K : St → Prop) : wpo P ⟨(n, v) :: e, b⟩ ⟨d, none, mg, k⟩ K = do1 P ⟨(n, v) :: e, b⟩ ⟨d, none, mg, k⟩ K := _root_.id rfl
@[simp ↓] theorem wpo_n0 (b : List (Nat × Blk)) (d : Option Nat) (mg : Bool) (k : AK) (K : St → Prop) : wpo P ⟨[], b⟩ ⟨d, none, mg, k⟩ K = do1 P ⟨[], b⟩ ⟨d, none, mg, k⟩ K := _root_.id rfl
@[simp ↓] theorem wpo_g (n : Nat) (v : PV) (e : List (Nat × PV)) (b : List (Nat × Blk)) (d : Option Nat) (sl : Nat) (want mg : Bool) (k : AK) (K : St → Prop) : wpo P ⟨(n, v) :: e, b⟩ ⟨d, some (sl, want), mg, k⟩ K =
    gdK want mg (fun g => ev g ⟨(n, v) :: e, b⟩ k fun p => K (St.put ⟨(n, v) :: e, b⟩ d (.gd g p))) (do1 P ⟨(n, v) :: e, b⟩ ⟨d, some (sl, want), mg, k⟩ K) (K (St.put ⟨(n, v) :: e, b⟩ d .un)) ((get ((n, v) :: e) sl).getD .un) := x_wpo_g d sl want mg k K
@[simp ↓] theorem aw_block (id : Nat) (x : ACode) (Q : Exit → St → Prop) : aw P (.block id x) Q s = aw P x (inb id Q) s := _root_.id rfl
@[simp ↓] theorem aw_loop (x : ACode) (Q : Exit → St → Prop) : aw P (.loop x) Q s = LpS P x Q .mk s := _root_.id rfl
@[simp ↓] theorem aw_exit (id : Nat) (Q : Exit → St → Prop) : aw P (.exit id) Q s = Q (.exit id) s := _root_.id rfl
@[simp ↓] theorem aw_ret (Q : Exit → St → Prop) : aw P .ret Q s = Q .ret s := _root_.id rfl
@[simp ↓] theorem thn_normal (Q : Exit → St → Prop) (K : St → Prop) : thn Q K .normal s = K s := _root_.id rfl
@[simp ↓] theorem thn_ret (Q : Exit → St → Prop) (K : St → Prop) : thn Q K .ret s = Q .ret s := _root_.id rfl
@[simp ↓] theorem thn_exit (Q : Exit → St → Prop) (K : St → Prop) (i : Nat) : thn Q K (.exit i) s = Q (.exit i) s := _root_.id rfl
@[simp ↓] theorem inb_normal (Q : Exit → St → Prop) (i : Nat) : inb i Q .normal s = Q .normal s := _root_.id rfl
@[simp ↓] theorem inb_ret (Q : Exit → St → Prop) (i : Nat) : inb i Q .ret s = Q .ret s := _root_.id rfl
@[simp ↓] theorem inb_exit (Q : Exit → St → Prop) (i j : Nat) : inb i Q (.exit j) s = if j = i then Q .normal s else Q (.exit j) s := _root_.id rfl
@[simp ↓] theorem ends_ret (n : Nat) (res : List AK) (R : PV → List Blk → Prop) : ends n res R .ret s = RetS n res R .mk s := _root_.id rfl
@[simp ↓] theorem ends_normal (n : Nat) (res : List AK) (R : PV → List Blk → Prop) : ends n res R .normal s = RetS n res R .mk s := _root_.id rfl
@[simp ↓] theorem cuts_nil (K : St → Prop) : cuts [] s K = K s := _root_.id rfl
@[simp ↓] theorem cuts_cons (c : Cut) (r : List Cut) (K : St → Prop) : cuts (c :: r) s K = cut1 c s fun s' => cuts r s' K := _root_.id rfl
@[simp ↓] theorem cut1_keep (sl : List Nat) (K : St → Prop) : cut1 (.keep sl) s K = K { s with env := keepL sl s.env } := _root_.id rfl
def wb1K (s : St) (k : Nat) (K : St → Prop) : Blk → Prop
  | .box v => K { s with bx := put s.bx k (.box (wk v)) }
  | _ => False
@[simp ↓] theorem wb1K_box (k : Nat) (K : St → Prop) (v : PV) : wb1K s k K (.box v) = K { s with bx := put s.bx k (.box (wk v)) } := _root_.id rfl
@[simp ↓] theorem cut1_wb (k : Nat) (K : St → Prop) : cut1 (.wb k) s K = optK (get s.bx k) (wb1K s k K) := by
  simp only [cut1, wb1]
  cases get s.bx k with
  | none => rfl
  | some b => cases b <;> rfl
def vbP (s : St) (b k sz : Nat) (w : Option PV) (K : St → Prop) : PV → Prop
  | .sl _ [] true => optK w fun v' => (get s.bx k = none ∧ 0 < sz) ∧ K { s with bx := put (put s.bx k (.arr sz [])) b (.box v') }
  | _ => False
@[simp ↓] theorem vbP_sl (b k sz z : Nat) (w : Option PV) (K : St → Prop) : vbP s b k sz w K (.sl z [] true) = optK w fun v' => (get s.bx k = none ∧ 0 < sz) ∧ K { s with bx := put (put s.bx k (.arr sz [])) b (.box v') } := _root_.id rfl
def vbK (s : St) (b : Nat) (p : List Step) (k sz : Nat) (K : St → Prop) : Blk → Prop
  | .box v => optK (getP v p) (vbP s b k sz (setP v p (.rs k [] 0 0 0 sz .tip)) K)
  | _ => False
@[simp ↓] theorem vbK_box (b : Nat) (p : List Step) (k sz : Nat) (v : PV) (K : St → Prop) : vbK s b p k sz K (.box v) = optK (getP v p) (vbP s b k sz (setP v p (.rs k [] 0 0 0 sz .tip)) K) := _root_.id rfl
@[simp ↓] theorem cut1_vb (b : Nat) (p : List Step) (k sz : Nat) (K : St → Prop) : cut1 (.vb b p k sz) s K = optK (get s.bx b) (vbK s b p k sz K) := by
  simp only [cut1, vb1]
  cases get s.bx b with
  | none => rfl
  | some x =>
    cases x with
    | arr _ _ => rfl
    | map b ks vs l => rfl
    | box v =>
      simp only [optK, vbK]
      cases h1 : getP v p with
      | none => cases setP v p (.rs k [] 0 0 0 sz .tip) <;> rfl
      | some u =>
        cases h2 : setP v p (.rs k [] 0 0 0 sz .tip) with
        | none =>
          simp only [vbP]
          split <;> simp_all
        | some v' =>
          simp only [vbP]
          split <;> simp_all
@[simp ↓] theorem cut1_wk (n : Nat) (K : St → Prop) : cut1 (.wk n) s K = optK (get s.env n) fun p => K { s with env := put s.env n (wk p) } := by
  simp only [cut1, wk1]; cases get s.env n <;> rfl
def fzK (s : St) (k : Nat) (K : St → Prop) : Blk → Prop
  | .arr sz l => (refsOkL (fun j => decide (j ≠ k)) l = true ∧ k < KB) ∧ K { env := mapV (frz k sz l) s.env, bx := mapV (frzB k sz l) (del s.bx k) }
  | _ => False
@[simp ↓] theorem fzK_arr (k sz : Nat) (l : List PV) (K : St → Prop) : fzK s k K (.arr sz l) = ((refsOkL (fun j => decide (j ≠ k)) l = true ∧ k < KB) ∧ K { env := mapV (frz k sz l) s.env, bx := mapV (frzB k sz l) (del s.bx k) }) := _root_.id rfl
@[simp ↓] theorem cut1_fz (k : Nat) (K : St → Prop) : cut1 (.fz k) s K = optK (get s.bx k) (fzK s k K) := by
  simp only [cut1, fz1]; cases get s.bx k with
  | none => rfl
  | some b => cases b <;> rfl
@[simp ↓] theorem cut1_dr (k : Nat) (K : St → Prop) : cut1 (.dr k) s K = ((refsEnv (fun j => decide (j ≠ k)) s.env = true ∧ refsBx (fun j => decide (j ≠ k)) (del s.bx k) = true ∧ k < KB) ∧ K { s with bx := del s.bx k }) := _root_.id rfl
def vtK (s : St) (n k sz : Nat) (K : St → Prop) : PV → Prop
  | .sl _ [] true => (get s.bx k = none ∧ 0 < sz) ∧ K { env := put s.env n (.rs k [] 0 0 0 sz .tip), bx := put s.bx k (.arr sz []) }
  | _ => False
@[simp ↓] theorem vtK_sl (n k sz z : Nat) (K : St → Prop) : vtK s n k sz K (.sl z [] true) = ((get s.bx k = none ∧ 0 < sz) ∧ K { env := put s.env n (.rs k [] 0 0 0 sz .tip), bx := put s.bx k (.arr sz []) }) := _root_.id rfl
@[simp ↓] theorem cut1_vt (n k sz : Nat) (K : St → Prop) : cut1 (.vt n k sz) s K = optK (get s.env n) (vtK s n k sz K) := by
  simp only [cut1, vt1]; cases get s.env n with
  | none => rfl
  | some p =>
    cases p with
    | sl z l c => cases l <;> cases c <;> rfl
    | _ => rfl
@[simp] theorem KB_lt {n : Nat} (h : n < 9000) : n < KB := h
@[simp ↓] theorem evs_nil (K : List PV → Prop) : evs s [] K = K [] := _root_.id rfl
@[simp ↓] theorem evs_cons (k : AK) (r : List AK) (K : List PV → Prop) : evs s (k :: r) K = ev true s k fun p => evs s r fun ps => K (p :: ps) := _root_.id rfl
@[simp ↓] theorem fpKeys_zero : fpKeys 0 = [] := _root_.id rfl
@[simp ↓] theorem getAll_nil (bx : List (Nat × Blk)) : getAll bx [] = some [] := _root_.id rfl
@[simp ↓] theorem tupOf_one (p : PV) : tupOf [p] = p := _root_.id rfl
@[simp ↓] theorem tupOf_two (p q : PV) (l : List PV) : tupOf (p :: q :: l) = .tup (p :: q :: l) := _root_.id rfl
theorem RetS.plain {res : List AK} {R : PV → List Blk → Prop} {t : Tg R} (c : List Cut) (h : cuts c s fun s' => evs s' res fun ps => (ps.all PV.flat = true ∧ PureL ps) ∧ R (tupOf ps) []) : RetS 0 res R t s := by
  refine ⟨c, [], ?_⟩
  have hm : ∀ (c : List Cut) (s : St) (K K' : St → Prop), (∀ s, K s → K' s) → cuts c s K → cuts c s K' := by
    intro c
    induction c with
    | nil => intro s K K' h hk; exact h s hk
    | cons x c ih =>
      intro s K K' h hk
      cases x with
      | fz k => simp only [cuts_cons, cut1, fz1] at hk ⊢; split at hk <;> simp_all; exact ih _ _ _ (fun s hs => h s hs) hk.2
      | dr k => simp only [cuts_cons, cut1, dr1] at hk ⊢; exact ⟨hk.1, ih _ _ _ h hk.2⟩
      | keep sl => simp only [cuts_cons, cut1] at hk ⊢; exact ih _ _ _ h hk
      | vt n k z => simp only [cuts_cons, cut1, vt1] at hk ⊢; split at hk <;> simp_all; exact ih _ _ _ (fun s hs => h s hs) hk.2
      | wk n => simp only [cuts_cons, cut1, wk1] at hk ⊢; split at hk <;> simp_all; exact ih _ _ _ (fun s hs => h s hs) hk
      | wb n => simp only [cuts_cons, cut1, wb1] at hk ⊢; split at hk <;> simp_all; exact ih _ _ _ (fun s hs => h s hs) hk
      | vb n p k z => simp only [cuts_cons, cut1, vb1] at hk ⊢; split at hk <;> simp_all; split at hk <;> simp_all; exact ih _ _ _ (fun s hs => h s hs) hk.2
  have hev : ∀ (k : AK) (s : St) (K K' : PV → Prop), (∀ p, K p → K' p) → ev true s k K → ev true s k K' := by
    intro k s K K' h hk
    obtain ⟨p, h1, h2⟩ := dt_ev true s k K hk
    exact h2 K' (h p h1)
  have hevs : ∀ (l : List AK) (s : St) (K K' : List PV → Prop), (∀ p, K p → K' p) → evs s l K → evs s l K' := by
    intro l
    induction l with
    | nil => intro s K K' h hk; exact h _ hk
    | cons x l ih => intro s K K' h hk; exact hev _ _ _ _ (fun p hp => ih _ _ _ (fun q hq => h _ hq) hp) hk
  refine hm _ _ _ _ (fun s' hs' => hevs _ _ _ _ (fun ps hps => ?_) hs') h
  obtain ⟨⟨h1, h2⟩, h3⟩ := hps
  have hp : Pure (tupOf ps) := by
    match ps, h2 with
    | [], h2 => exact Pure.of rfl
    | [p], h2 => exact h2.forget p (by simp)
    | p :: q :: l, h2 => exact Pure.of (by simp only [tupOf_two, refsOk]; exact h2.refs _)
  refine ⟨[], ⟨rfl, by simp, rfl⟩, ⟨h1, hp.refs _, rfl⟩, ?_⟩
  rw [hp.ren]; exact h3
end Go.Ab
namespace Go.Ab
variable [Tabs]
variable {P : Program} {s : St} [YCtx]
theorem wpl_mono : ∀ {l : List AO} {s : St} {K K' : St → Prop}, (∀ p, K p → K' p) → wpl P s l K → wpl P s l K'
  | [], s, K, K', h, hk => h _ hk
  | o :: l, s, K, K', h, hk => wpo_mono (fun s' hs' => wpl_mono h hs') hk
theorem stepc_mono {W : List Nat} {f : Bool} {o : AO} {K K' : St → Prop} (h : ∀ p, K p → K' p) (hk : stepc P W f s o K) : stepc P W f s o K' := by
  unfold stepc at hk ⊢
  split at hk
  · split at hk
    · rename_i h1 h2; rw [if_pos h1, if_pos h2]; exact wpo_mono (fun t ht => h _ ht) hk
    · rename_i h1 h2; rw [if_pos h1, if_neg h2]; exact wpo_mono h hk
  · rename_i h1; rw [if_neg h1]; exact wpo_mono (fun t ht => ⟨ht.1, h _ ht.2⟩) hk
theorem wpcx_mono {aos : List AO} {fl : Nat → Bool} {W : List Nat} : ∀ {l : List Nat} {s : St} {K K' : St → Prop}, (∀ p, K p → K' p) → wpcx P aos fl W s l K → wpcx P aos fl W s l K'
  | [], s, K, K', h, hk => h _ hk
  | i :: l, s, K, K', h, hk => by
    simp only [wpcx] at hk ⊢
    split at hk
    · exact ⟨hk.1, stepc_mono (fun t ht => wpcx_mono h ht) hk.2⟩
    · exact hk.elim
theorem aw_mono : ∀ {c : ACode} {s : St} {Q Q' : Exit → St → Prop}, (∀ e s, Q e s → Q' e s) → aw P c Q s → aw P c Q' s := by
  have hthn : ∀ {Q Q' : Exit → St → Prop} {K K' : St → Prop}, (∀ e s, Q e s → Q' e s) → (∀ s, K s → K' s) → ∀ e s, thn Q K e s → thn Q' K' e s := by
    intro Q Q' K K' h hk e s he
    cases e <;> first | exact hk _ he | exact h _ _ he
  intro c
  induction c with
  | skip => intro s Q Q' h hk; exact h _ _ hk
  | region l => intro s Q Q' h hk; exact wpl_mono (h .normal) hk
  | regionD l o u => intro s Q Q' h hk; obtain ⟨W, hk⟩ := hk; exact ⟨W, wpcx_mono (h .normal) hk⟩
  | seq x y ihx ihy => intro s Q Q' h hk; exact ihx (hthn h fun s hs => ihy h hs) hk
  | cond c x y ihx ihy =>
    intro s Q Q' h hk
    simp only [aw] at hk ⊢
    split at hk
    · exact ⟨fun e => ihx h (hk.1 e), fun e => ihy h (hk.2 e)⟩
    · exact ⟨hk.1, fun e => ihx h (hk.2.1 e), fun e => ihy h (hk.2.2 e)⟩
    · exact hk.elim
  | block id x ih =>
    intro s Q Q' h hk
    simp only [aw] at hk ⊢
    refine ih (fun e s he => ?_) hk
    cases e <;> simp only [inb] at he ⊢ <;> first | exact h _ _ he | (split at he <;> rename_i hi <;> simp only [hi, if_true, if_false] <;> exact h _ _ he)
  | loop x ih =>
    intro s Q Q' h hk
    obtain ⟨I, c, h1, h2⟩ := hk
    exact ⟨I, c, h1, fun n s hs => ih (hthn h fun s hs => hs) (h2 n s hs)⟩
  | exit id => intro s Q Q' h hk; exact h _ _ hk
  | ret => intro s Q Q' h hk; exact h _ _ hk
  | seqm x y ihx ihy =>
    intro s Q Q' h hk
    obtain ⟨M, h1, h2⟩ := hk
    exact ⟨M, ihx (hthn h fun s hs => hs) h1, fun s hs => ihy h (h2 s hs)⟩
  | rangeF g ps x y ihx ihy =>
    intro s Q Q' h hk
    simp only [aw] at hk ⊢
    split at hk
    · obtain ⟨hno, ks, blks, Y, R, h1, h2, h3, h4⟩ := hk
      exact ⟨hno, ks, blks, Y, R, h1, h2, h3, fun fp hR => ⟨(h4 fp hR).1, h _ _ (h4 fp hR).2⟩⟩
    · exact hk.elim
end Go.Ab
namespace Go.Ab
variable [Tabs]
variable {P : Program} {s : St} [YCtx]
theorem cuts_mono : ∀ (c : List Cut) {s : St} {K K' : St → Prop}, (∀ s, K s → K' s) → cuts c s K → cuts c s K'
  | [], s, K, K', h, hk => h s hk
  | x :: c, s, K, K', h, hk => by
    cases x with
    | fz k =>
      simp only [cuts_cons, cut1, fz1] at hk ⊢
      split at hk
      · exact ⟨hk.1, cuts_mono c h hk.2⟩
      · exact hk.elim
    | dr k => simp only [cuts_cons, cut1, dr1] at hk ⊢; exact ⟨hk.1, cuts_mono c h hk.2⟩
    | keep sl => simp only [cuts_cons, cut1] at hk ⊢; exact cuts_mono c h hk
    | vt n k z =>
      simp only [cuts_cons, cut1, vt1] at hk ⊢
      split at hk
      · exact ⟨hk.1, cuts_mono c h hk.2⟩
      · exact hk.elim
    | wk n =>
      simp only [cuts_cons, cut1, wk1] at hk ⊢
      split at hk
      · exact cuts_mono c h hk
      · exact hk.elim
    | wb n =>
      simp only [cuts_cons, cut1, wb1] at hk ⊢
      split at hk
      · exact cuts_mono c h hk
      · exact hk.elim
    | vb n p k z =>
      simp only [cuts_cons, cut1, vb1] at hk ⊢
      split at hk
      · split at hk
        · exact ⟨hk.1, cuts_mono c h hk.2⟩
        · exact hk.elim
      · exact hk.elim
theorem cuts_append : ∀ (c d : List Cut) {s : St} {K : St → Prop}, cuts (c ++ d) s K = cuts c s fun s' => cuts d s' K
  | [], d, s, K => rfl
  | x :: c, d, s, K => by
    simp only [List.cons_append, cuts_cons]
    congr 1; funext s'
    exact cuts_append c d
def puts {α : Type} : List (Nat × α) → List (Nat × α) → List (Nat × α)
  | l, [] => l
  | l, x :: r => puts (put l x.1 x.2) r
@[simp ↓] theorem puts_nil {α : Type} (l : List (Nat × α)) : puts l [] = l := id rfl
@[simp ↓] theorem puts_cons {α : Type} (l r : List (Nat × α)) (x : Nat × α) : puts l (x :: r) = puts (put l x.1 x.2) r := id rfl
@[simp ↓] theorem keepL_nil {α : Type} (sl : List Nat) : keepL sl ([] : List (Nat × α)) = [] := id rfl
@[simp ↓] theorem keepL_cons {α : Type} (sl : List Nat) (j : Nat) (v : α) (r : List (Nat × α)) : keepL sl ((j, v) :: r) = if sl.contains j = true then (j, v) :: keepL sl r else keepL sl r := id rfl
@[simp ↓] theorem del_nil {α : Type} (k : Nat) : del ([] : List (Nat × α)) k = [] := id rfl
@[simp ↓] theorem del_cons {α : Type} (j k : Nat) (v : α) (r : List (Nat × α)) : del ((j, v) :: r) k = if j = k then del r k else (j, v) :: del r k := id rfl
@[simp ↓] theorem mapV_nil {α : Type} (f : α → α) : mapV f [] = [] := id rfl
@[simp ↓] theorem mapV_cons {α : Type} (f : α → α) (j : Nat) (v : α) (r : List (Nat × α)) : mapV f ((j, v) :: r) = (j, f v) :: mapV f r := id rfl
def upd (s : St) (ks : List Nat) (E : List (Nat × PV)) (B : List (Nat × Blk)) : St := { env := puts (keepL ks s.env) E, bx := puts s.bx B }
@[simp ↓] theorem upd_mk (e : List (Nat × PV)) (b : List (Nat × Blk)) (ks : List Nat) (E : List (Nat × PV)) (B : List (Nat × Blk)) : upd ⟨e, b⟩ ks E B = ⟨puts (keepL ks e) E, puts b B⟩ := id rfl
theorem LpS.rng {x : ACode} {Q : Exit → St → Prop} {t : Tg (x, Q)} (n : Nat) (I : Nat → Prop) (ks : List Nat) (E : Nat → List (Nat × PV)) (B : Nat → List (Nat × Blk)) (c0 : List Cut)
    (h : cuts c0 s fun s0 => upd s0 ks (E 0) (B 0) = upd s0 ks [] [] ∧ I 0 ∧
      (∀ i, i < n → I i → ∀ K : St → Prop, (∀ s2, upd s2 ks [] [] = upd s0 ks (E (i + 1)) (B (i + 1)) → I (i + 1) → K s2) → aw P x (thn Q fun s' => ∃ c : List Cut, cuts c s' K) (upd s0 ks (E i) (B i))) ∧
      (I n → ∀ K : St → Prop, aw P x (thn Q K) (upd s0 ks (E n) (B n)))) : LpS P x Q t s := by
  refine ⟨fun m st => ∃ s0 i, i ≤ n ∧ m = n - i ∧ I i ∧ st = upd s0 ks (E i) (B i) ∧
    (∀ i, i < n → I i → ∀ K : St → Prop, (∀ s2, upd s2 ks [] [] = upd s0 ks (E (i + 1)) (B (i + 1)) → I (i + 1) → K s2) → aw P x (thn Q fun s' => ∃ c : List Cut, cuts c s' K) (upd s0 ks (E i) (B i))) ∧
      (I n → ∀ K : St → Prop, aw P x (thn Q K) (upd s0 ks (E n) (B n))), c0 ++ [.keep ks], ?_, ?_⟩
  · rw [cuts_append]
    refine cuts_mono c0 (fun s0 hs => ?_) h
    obtain ⟨h1, h2, h3, h4⟩ := hs
    exact ⟨n, s0, 0, by omega, by omega, h2, by rw [h1]; rfl, h3, h4⟩
  · rintro m st ⟨s0, i, hi, rfl, hI, rfl, h3, h4⟩
    by_cases hlt : i < n
    · have hcut : ∀ (K : St → Prop) s', (∃ c : List Cut, cuts c s' fun s2 => cuts [.keep ks] s2 K) → ∃ c : List Cut, cuts c s' K := fun K s' ⟨c, hc⟩ => ⟨c ++ [.keep ks], by rw [cuts_append]; exact hc⟩
      have := h3 i hlt hI (fun s2 => cuts [.keep ks] s2 fun s' => ∃ m, m < n - i ∧ ∃ s0 i, i ≤ n ∧ m = n - i ∧ I i ∧ s' = upd s0 ks (E i) (B i) ∧
        (∀ i, i < n → I i → ∀ K : St → Prop, (∀ s2, upd s2 ks [] [] = upd s0 ks (E (i + 1)) (B (i + 1)) → I (i + 1) → K s2) → aw P x (thn Q fun s' => ∃ c : List Cut, cuts c s' K) (upd s0 ks (E i) (B i))) ∧
        (I n → ∀ K : St → Prop, aw P x (thn Q K) (upd s0 ks (E n) (B n))))
        (fun s2 e hI' => ⟨n - (i + 1), by omega, s0, i + 1, by omega, rfl, hI', by rw [← e]; rfl, h3, h4⟩)
      refine aw_mono (fun e s' he => ?_) this
      cases e with
      | normal => exact hcut _ _ he
      | _ => exact he
    · have hin : i = n := by omega
      subst hin
      exact h4 hI _
end Go.Ab
namespace Go.Ab
variable [Tabs]
variable {P : Program} {s : St} [YCtx]
theorem pure_iff {p : PV} : Pure p ↔ refsOk (fun _ => false) p = true := ⟨fun h => h.refs _, Pure.of⟩
theorem pureL_iff {l : List PV} : PureL l ↔ refsOkL (fun _ => false) l = true := ⟨fun h => h.refs _, PureL.of⟩
@[simp] theorem pure_int (k : IntKind) (n : Int) : Pure (.int k n) := Pure.of rfl
@[simp] theorem pure_bl (b : Bool) : Pure (.bl b) := Pure.of rfl
@[simp] theorem pure_str (b : List UInt8) : Pure (.str b) := Pure.of rfl
@[simp] theorem pure_u8 (b : UInt8) : Pure (u8 b) := Pure.of rfl
@[simp] theorem pure_sl (z : Nat) (l : List PV) (c : Bool) : Pure (.sl z l c) ↔ PureL l := by simp only [pure_iff, pureL_iff, refsOk]
@[simp] theorem pure_st (z : Nat) (l : List PV) : Pure (.st z l) ↔ PureL l := by simp only [pure_iff, pureL_iff, refsOk]
@[simp] theorem pure_ar (z n : Nat) (l : List PV) : Pure (.ar z n l) ↔ PureL l := by simp only [pure_iff, pureL_iff, refsOk]
@[simp] theorem pure_tup (l : List PV) : Pure (.tup l) ↔ PureL l := by simp only [pure_iff, pureL_iff, refsOk]
@[simp] theorem pureL_nil : PureL [] := PureL.of rfl
@[simp] theorem pureL_cons (p : PV) (l : List PV) : PureL (p :: l) ↔ Pure p ∧ PureL l := by simp only [pure_iff, pureL_iff, refsOkL, Bool.and_eq_true]
@[simp] theorem pureL_append (l m : List PV) : PureL (l ++ m) ↔ PureL l ∧ PureL m := by induction l <;> simp [*, and_assoc]
@[simp] theorem pureL_take {l : List PV} (h : PureL l) (n : Nat) : PureL (l.take n) := h.take n
@[simp] theorem pureL_drop {l : List PV} (h : PureL l) (n : Nat) : PureL (l.drop n) := h.drop n
@[simp] theorem pureL_map {α : Type} {e : α → PV} (h : ∀ x, Pure (e x)) (l : List α) : PureL (l.map e) := PureL.map h l
@[simp] theorem pureL_replicate {p : PV} (h : Pure p) (n : Nat) : PureL (List.replicate n p) := PureL.mk' fun q hq => by rw [(List.mem_replicate.1 hq).2]; exact h
@[simp] theorem pureL_set {l : List PV} {p : PV} (h : PureL l) (hp : Pure p) (n : Nat) : PureL (l.set n p) := PureL.mk' fun q hq => by rcases List.mem_or_eq_of_mem_set hq with h' | h'; exact h.forget q h'; rw [h']; exact hp
@[simp] theorem frz_pure {p : PV} (h : Pure p) (k z : Nat) (l : List PV) : frz k z l p = p := h.frz k z l
@[simp] theorem frzL_pure {p : List PV} (h : PureL p) (k z : Nat) (l : List PV) : frzL k z l p = p := h.frz k z l
@[simp] theorem frz_rs (k z k' off len tot z' : Nat) (l0 : List PV) (p : List Step) (c : CapK) : frz k z l0 (.rs k' p off len tot z' c) = if k' = k then (if tot = l0.length ∧ p = [] ∧ z' = z ∧ off + len ≤ l0.length then .sl z ((l0.drop off).take len) (decide (c = .clip)) else .un) else .rs k' p off len tot z' c := by simp [frz]
@[simp] theorem frz_pt (k z k' tot : Nat) (l0 : List PV) (p : List Step) : frz k z l0 (.pt k' p tot) = if k' = k then (if tot = l0.length then .fp z l0 p else .un) else .pt k' p tot := by simp [frz]
@[simp] theorem frzL_cons (k z : Nat) (l0 : List PV) (p : PV) (l : List PV) : frzL k z l0 (p :: l) = frz k z l0 p :: frzL k z l0 l := _root_.id rfl
@[simp] theorem frzL_append (k z : Nat) (l0 l m : List PV) : frzL k z l0 (l ++ m) = frzL k z l0 l ++ frzL k z l0 m := by induction l <;> simp [*]
@[simp] theorem frz_st (k z w : Nat) (l0 l : List PV) : frz k z l0 (.st w l) = .st w (frzL k z l0 l) := by simp [frz]
@[simp] theorem refsOkL_append (f : Nat → Bool) (l m : List PV) : refsOkL f (l ++ m) = (refsOkL f l && refsOkL f m) := by induction l <;> simp [*, refsOkL, Bool.and_assoc]
@[simp] theorem frzB_arr (k z z' : Nat) (l0 l : List PV) : frzB k z l0 (.arr z' l) = .arr z' (frzL k z l0 l) := id rfl
@[simp] theorem frzB_box (k z : Nat) (l0 : List PV) (v : PV) : frzB k z l0 (.box v) = .box (frz k z l0 v) := id rfl
@[simp] theorem refsOkL_pure {l : List PV} (h : PureL l) (f : Nat → Bool) : refsOkL f l = true := h.refs f
@[simp] theorem refsOk_pure {p : PV} (h : Pure p) (f : Nat → Bool) : refsOk f p = true := h.refs f
@[simp] theorem refsOk_rs (f : Nat → Bool) (k : Nat) (p : List Step) (a b c d : Nat) (e : CapK) : refsOk f (.rs k p a b c d e) = f k := by simp [refsOk]
@[simp] theorem refsOk_pt (f : Nat → Bool) (k : Nat) (p : List Step) (a : Nat) : refsOk f (.pt k p a) = f k := by simp [refsOk]
@[simp] theorem refsOkL_cons (f : Nat → Bool) (p : PV) (l : List PV) : refsOkL f (p :: l) = (refsOk f p && refsOkL f l) := id rfl
@[simp] theorem refsEnv_nil (f : Nat → Bool) : refsEnv f [] = true := id rfl
@[simp] theorem refsEnv_cons (f : Nat → Bool) (n : Nat) (p : PV) (r : List (Nat × PV)) : refsEnv f ((n, p) :: r) = (refsOk f p && refsEnv f r) := id rfl
@[simp] theorem refsBx_nil (f : Nat → Bool) : refsBx f [] = true := id rfl
@[simp] theorem refsBx_cons (f : Nat → Bool) (n : Nat) (p : Blk) (r : List (Nat × Blk)) : refsBx f ((n, p) :: r) = (refsOkB f p && refsBx f r) := id rfl
@[simp] theorem refsOkB_arr (f : Nat → Bool) (z : Nat) (l : List PV) : refsOkB f (.arr z l) = refsOkL f l := id rfl
@[simp] theorem refsOkB_box (f : Nat → Bool) (v : PV) : refsOkB f (.box v) = refsOk f v := id rfl
@[simp] theorem wk_sl (z : Nat) (l : List PV) (c : Bool) : wk (.sl z l c) = .sl z (wkL l) false := by simp [wk]
@[simp] theorem wk_st (z : Nat) (l : List PV) : wk (.st z l) = .st z (wkL l) := by simp [wk]
@[simp] theorem wk_ar (z n : Nat) (l : List PV) : wk (.ar z n l) = .ar z n (wkL l) := by simp [wk]
@[simp] theorem wk_int (k : IntKind) (n : Int) : wk (.int k n) = .int k n := by simp [wk]
@[simp] theorem wk_bl (b : Bool) : wk (.bl b) = .bl b := by simp [wk]
@[simp] theorem wk_str (b : List UInt8) : wk (.str b) = .str b := by simp [wk]
@[simp] theorem wk_pt (k : Nat) (p : List Step) (a : Nat) : wk (.pt k p a) = .pt k p a := by simp [wk]
@[simp] theorem wk_rs (k : Nat) (p : List Step) (a b c d : Nat) (e : CapK) : wk (.rs k p a b c d e) = .rs k p a b c d e := by simp [wk]
@[simp] theorem wk_u8 (b : UInt8) : wk (u8 b) = u8 b := by simp [u8]
@[simp] theorem wkL_nil : wkL [] = [] := id rfl
@[simp] theorem wkL_cons (p : PV) (l : List PV) : wkL (p :: l) = wk p :: wkL l := id rfl
@[simp] theorem wkL_append (l m : List PV) : wkL (l ++ m) = wkL l ++ wkL m := by induction l <;> simp [*]
@[simp] theorem wkL_take (l : List PV) (n : Nat) : wkL (l.take n) = (wkL l).take n := by simp only [wkL_eq, List.map_take]
@[simp] theorem wkL_drop (l : List PV) (n : Nat) : wkL (l.drop n) = (wkL l).drop n := by simp only [wkL_eq, List.map_drop]
@[simp] theorem wkL_map {α : Type} {e : α → PV} (h : ∀ x, wk (e x) = e x) (l : List α) : wkL (l.map e) = l.map e := by rw [wkL_eq, List.map_map]; congr 1; funext x; exact h x
@[simp] theorem wkL_replicate {p : PV} (h : wk p = p) (n : Nat) : wkL (List.replicate n p) = List.replicate n p := by rw [wkL_eq, List.map_replicate, h]
def ARet (P : Program) (f : FuncId) (args : List PV) (v : PV) : Prop := ACalls P f args [] (fun r fp => r = v ∧ fp = [])
def AOwn (P : Program) (f : FuncId) (args : List PV) (sz : Nat) (l : List PV) : Prop := ACalls P f args [] (fun r fp => r = .rs KB [] 0 l.length l.length sz .tip ∧ fp = [.arr sz l])
theorem AllR.wkL {Γ : Cx} : ∀ {l : List PV} {vs : List Value}, AllR Γ l vs → AllR Γ (Ab.wkL l) vs
  | [], [], _ => trivial
  | [], _ :: _, h => by simp [AllR] at h
  | _ :: _, [], h => by simp [AllR] at h
  | p :: l, v :: vs, h => by simp only [AllR, Ab.wkL] at h ⊢; exact ⟨h.1.wk, AllR.wkL h.2⟩
theorem ACalls.wkA {f : FuncId} {args : List PV} {fp : List Blk} {R : PV → List Blk → Prop} (h : ACalls P f (wkL args) fp R) : ACalls P f args fp R :=
  fun Γ w vs h1 h2 h3 h4 => h Γ w vs h1 h2 h3 h4.wkL
theorem AOwn.frz {f : FuncId} {args : List PV} {sz : Nat} {l : List PV} (h : AOwn P f args sz l) (hl : PureL l) : ARet P f args (.sl sz l false) := by
  refine fun Γ w vs h1 h2 h3 h4 => (h Γ w vs h1 h2 h3 h4).mono ?_
  rintro e w' ⟨v, r, fp', Γ', e1, ⟨rfl, rfl⟩, e3, e4, e5, e6, e7, e8⟩
  have hg : get Γ'.bx KB = some (.arr sz l) := by rw [e5, get_fpBx]; simp
  have hf := frz_of e4 hg (hl.refs _)
  refine ⟨v, .sl sz l false, [], { Γ' with bx := mapV (frzB KB sz l) (del Γ'.bx KB) }, e1, ⟨rfl, rfl⟩, e3, mem_del e4 _ (fun j blk hne hb => (e4.blk j blk hb).frz hf), ?_, ?_, ?_, e8⟩
  · rw [e5]; simp [fpBx]
  · have := e6.frz hf
    simpa using this
  · refine ⟨e7.heap, fun b hb hm => ?_, e7.prot, e7.size, fun k blk hk => ?_⟩
    · obtain ⟨k, blk, g1, g2⟩ := hm
      rw [e5] at g1
      simp [fpBx] at g1
    · rw [h3] at hk; simp [fpBx] at hk
theorem callS.ret {d : Option Nat} {f : FuncId} {args args' : List PV} {v : PV} {K : St → Prop} {t : Tg K} (hA : ARet P f args' v) (ha : wkL args = args') (hp : PureL args) (hv : Pure v) (h : K (s.put d v)) : callS P s d f args K t := by
  subst ha
  exact callK_pure (R := fun r => r = v) (ACalls.wkA hA) hp (by rintro r rfl; exact hv) (by rintro r rfl; exact h)
theorem callS.own {d : Option Nat} {f : FuncId} {args args' : List PV} {sz : Nat} {l : List PV} {K : St → Prop} {t : Tg K} (o : Nat) (hA : AOwn P f args' sz l) (ha : wkL args = args') (hp : PureL args) (hl : PureL l) (ho : get s.bx o = none)
    (h : K ({ s with bx := put s.bx o (.arr sz l) }.put d (.rs o [] 0 l.length l.length sz .tip))) : callS P s d f args K t := by
  subst ha
  refine callK_own (R := fun l' => l' = l) o (ACalls.mono (ACalls.wkA hA) ?_) hp ho (by rintro r rfl; exact hl) (by rintro r rfl; exact h)
  rintro r fp ⟨rfl, rfl⟩; exact ⟨l, rfl, rfl, rfl⟩
theorem callT.ret {d : Option Nat} {f : FuncId} {args args' : List PV} {v : PV} {K : St → Prop} {t : Tg K} (hA : ARet P f args' v) (ha : wkL args = args') (hp : PureL args) (hv : Pure v) (h : K (s.put d v)) : callT P s d f args K t := by
  subst ha
  exact ⟨v, ⟨hp.refs _, hv.refs _⟩, ACalls.wkA hA, h⟩
end Go.Ab
namespace Go.Ab
variable [Tabs]
variable {P : Program} {s : St} {K : PV → Prop} [YCtx]
@[simp ↓] theorem binN_add (k : IntKind) (a b : Int) : binN .add K (.int k a) (.int k b) = K (.int k (k.wrap (a + b))) := by simp [binN, binI]
@[simp ↓] theorem binN_sub (k : IntKind) (a b : Int) : binN .sub K (.int k a) (.int k b) = K (.int k (k.wrap (a - b))) := by simp [binN, binI]
@[simp ↓] theorem binN_mul (k : IntKind) (a b : Int) : binN .mul K (.int k a) (.int k b) = K (.int k (k.wrap (a * b))) := by simp [binN, binI]
@[simp ↓] theorem binN_quo (k : IntKind) (a b : Int) : binN .quo K (.int k a) (.int k b) = (b ≠ 0 ∧ K (.int k (k.wrap (a.tdiv b)))) := by simp [binN, binI]
@[simp ↓] theorem binN_rem (k : IntKind) (a b : Int) : binN .rem K (.int k a) (.int k b) = (b ≠ 0 ∧ K (.int k (a.tmod b))) := by simp [binN, binI]
@[simp ↓] theorem binN_and (k : IntKind) (a b : Int) : binN .and K (.int k a) (.int k b) = K (.int k (bits .and k a b)) := by simp [binN, binI]
@[simp ↓] theorem binN_or (k : IntKind) (a b : Int) : binN .or K (.int k a) (.int k b) = K (.int k (bits .or k a b)) := by simp [binN, binI]
@[simp ↓] theorem binN_andNot (k : IntKind) (a b : Int) : binN .andNot K (.int k a) (.int k b) = K (.int k (bits .andNot k a b)) := by simp [binN, binI]
@[simp ↓] theorem binN_eql (k : IntKind) (a b : Int) : binN .eql K (.int k a) (.int k b) = K (.bl (decide (a = b))) := by simp [binN, binI]; rfl
@[simp ↓] theorem binN_neq (k : IntKind) (a b : Int) : binN .neq K (.int k a) (.int k b) = K (.bl (decide (a ≠ b))) := by
  simp only [binN, binI, or_true, true_and]
  congr 2; by_cases h : a = b <;> simp [h]
@[simp ↓] theorem binN_lss (k : IntKind) (a b : Int) : binN .lss K (.int k a) (.int k b) = K (.bl (decide (a < b))) := by simp [binN, binI]
@[simp ↓] theorem binN_leq (k : IntKind) (a b : Int) : binN .leq K (.int k a) (.int k b) = K (.bl (decide (a ≤ b))) := by simp [binN, binI]
@[simp ↓] theorem binN_gtr (k : IntKind) (a b : Int) : binN .gtr K (.int k a) (.int k b) = K (.bl (decide (b < a))) := by simp [binN, binI]
@[simp ↓] theorem binN_geq (k : IntKind) (a b : Int) : binN .geq K (.int k a) (.int k b) = K (.bl (decide (b ≤ a))) := by simp [binN, binI]
@[simp ↓] theorem binN_shl (k k' : IntKind) (a b : Int) : binN .shl K (.int k a) (.int k' b) = (0 ≤ b ∧ K (.int k (k.wrap (a * 2 ^ min b.toNat k.bits)))) := by simp [binN, binI]
@[simp ↓] theorem binN_shr (k k' : IntKind) (a b : Int) : binN .shr K (.int k a) (.int k' b) = (0 ≤ b ∧ K (.int k (a.fdiv (2 ^ min b.toNat k.bits)))) := by simp [binN, binI]
@[simp ↓] theorem binN_str (op : BinOp) (a b : List UInt8) : binN op K (.str a) (.str b) = binS op a b K := id rfl
@[simp ↓] theorem binS_add (a b : List UInt8) : binS .add a b K = (a.length + b.length ≤ 9223372036854775807 ∧ K (.str (a ++ b))) := id rfl
@[simp ↓] theorem binS_eql (a b : List UInt8) : binS .eql a b K = K (.bl (decide (a = b))) := by
  simp only [binS]; congr 2; by_cases h : a = b <;> simp [h]
@[simp ↓] theorem binS_lss (a b : List UInt8) : binS .lss a b K = K (.bl (Op.bytesLess a b)) := id rfl
@[simp ↓] theorem binE_eql (b : Bool) : binE .eql b K = K (.bl b) := id rfl
@[simp ↓] theorem binE_neq (b : Bool) : binE .neq b K = K (.bl (!b)) := id rfl
@[simp ↓] theorem binB_bl (op : BinOp) (a b : Bool) : binB op K (.bl a) (.bl b) = binE op (a == b) K := id rfl
@[simp ↓] theorem unK_not (b : Bool) : unK .not K (.bl b) = K (.bl (!b)) := id rfl
@[simp ↓] theorem srcK_eq (sz : Nat) (K : List PV → Prop) (q : PV) : srcK s sz K q = conK s (fun sz' ys => (ys = [] ∨ sz' = sz) ∧ K ys) q := id rfl
@[simp ↓] theorem apTip_arr (d k len tot sz sz' bytes sz'' : Nat) (ys l : List PV) (K : St → Prop) : apTip s d k len tot sz sz' bytes ys K (.arr sz'' l) = ((tot = l.length ∧ len = l.length ∧ sz' = sz ∧ sz'' = sz ∧ (l.length + ys.length) * bytes ≤ 140737488355328 ∧ l.length + ys.length ≤ 9223372036854775807) ∧
      K { env := put s.env d (.rs k [] 0 (l.length + ys.length) (l.length + ys.length) sz .tip), bx := put s.bx k (.arr sz (l ++ ys)) }) := rfl
def conB (off len tot sz : Nat) (p : List Step) (K : Nat → List PV → Prop) : Blk → Prop
  | .arr sz' l => (tot = l.length ∧ p = [] ∧ sz = sz' ∧ off + len ≤ l.length) ∧ K sz ((l.drop off).take len)
  | .box v => optK (getP v p) fun
      | .ar sz' n l => (tot = 0 ∧ sz = sz' ∧ off + len ≤ n) ∧ K sz ((l.drop off).take len)
      | _ => False
  | .map .. => False
@[simp ↓] theorem conK_rs (K : Nat → List PV → Prop) (k off len tot sz : Nat) (p : List Step) (c : CapK) : conK s K (.rs k p off len tot sz c) = optK (get s.bx k) (conB off len tot sz p K) := by
  simp only [conK]; congr 1
@[simp ↓] theorem conB_arr (off len tot sz sz' : Nat) (l : List PV) (p : List Step) (K : Nat → List PV → Prop) : conB off len tot sz p K (.arr sz' l) = ((tot = l.length ∧ p = [] ∧ sz = sz' ∧ off + len ≤ l.length) ∧ K sz ((l.drop off).take len)) := id rfl
def conA (off len tot sz : Nat) (K : Nat → List PV → Prop) : PV → Prop
  | .ar sz' n l => (tot = 0 ∧ sz = sz' ∧ off + len ≤ n) ∧ K sz ((l.drop off).take len)
  | _ => False
@[simp ↓] theorem conB_box (off len tot sz : Nat) (v : PV) (p : List Step) (K : Nat → List PV → Prop) : conB off len tot sz p K (.box v) = optK (getP v p) (conA off len tot sz K) := by
  simp only [conB]; congr 1
@[simp ↓] theorem conA_ar (off len tot sz sz' n : Nat) (l : List PV) (K : Nat → List PV → Prop) : conA off len tot sz K (.ar sz' n l) = ((tot = 0 ∧ sz = sz' ∧ off + len ≤ n) ∧ K sz ((l.drop off).take len)) := id rfl
@[simp ↓] theorem slSl_sl (g : Bool) (sz z : Nat) (lo hi : Option AX) (l : List PV) (c : Bool) : slSl s g sz lo hi K (.sl z l c) = lohi g s lo hi l.length l.length (fun a b => (z = sz) ∧ K (.sl sz ((l.take b).drop a) (c && decide (b = l.length)))) := id rfl
def capS (c : CapK) (e : Bool) : CapK := bif e then c else (match c with | .tip => .tip | _ => .any)
@[simp ↓] theorem slSl_rs (g : Bool) (sz z k off len tot : Nat) (p : List Step) (c : CapK) (lo hi : Option AX) : slSl s g sz lo hi K (.rs k p off len tot z c) = optK (get s.bx k) fun blk => (tot = blk.tot ∧ z = sz) ∧ lohi g s lo hi len len fun a b => K (.rs k p (off + a) (b - a) tot sz (capS c (decide (b = len)))) := by
  simp only [slSl]; congr 1; funext blk; congr 2; funext a b; by_cases h : b = len <;> simp [h, capS] <;> cases c <;> rfl
@[simp ↓] theorem slSm_sl (g : Bool) (sz z : Nat) (lo hi : Option AX) (m : AX) (l : List PV) (c : Bool) : slSm s g sz lo hi m K (.sl z l c) = vgk g (vx s m) (intC fun m => (0 ≤ m ∧ m ≤ l.length) ∧ lohi g s lo hi l.length m.toNat fun a b => (z = sz) ∧ K (.sl sz ((l.take b).drop a) (decide (b = m.toNat)))) := id rfl
def capM (e : Bool) : CapK := bif e then .clip else .any
@[simp] theorem capM_t : capM true = .clip := id rfl
@[simp] theorem capS_t (c : CapK) : capS c true = c := id rfl
@[simp ↓] theorem slSm_rs (g : Bool) (sz z k off len tot : Nat) (p : List Step) (c : CapK) (lo hi : Option AX) (m : AX) : slSm s g sz lo hi m K (.rs k p off len tot z c) = optK (get s.bx k) fun blk => (tot = blk.tot ∧ z = sz) ∧ vgk g (vx s m) (intC fun m => (0 ≤ m ∧ m ≤ len) ∧ lohi g s lo hi len m.toNat fun a b => K (.rs k p (off + a) (b - a) tot sz (capM (decide (b = m.toNat))))) := by
  simp only [slSm]; congr 1; funext blk; congr 2; congr 1; funext m; congr 2; funext a b; by_cases h : b = m.toNat <;> simp [h, capM]
@[simp ↓] theorem lohK_n (g : Bool) (K : Nat → Nat → Prop) (h : Nat) : lohK g s none K h = K 0 h := id rfl
@[simp ↓] theorem lohK_s (g : Bool) (x : AX) (K : Nat → Nat → Prop) (h : Nat) : lohK g s (some x) K h = vgk g (vx s x) (intC fun l => (0 ≤ l ∧ l ≤ h) ∧ K l.toNat h) := id rfl
def mmC (mx : Bool) (K : PV → Prop) : List PV → Prop
  | .int k a :: r => mmInt mx a r fun n => K (.int k n)
  | _ => False
@[simp ↓] theorem mmC_int (mx : Bool) (k : IntKind) (a : Int) (r : List PV) : mmC mx K (.int k a :: r) = mmInt mx a r fun n => K (.int k n) := id rfl
@[simp ↓] theorem x_mm (g mx : Bool) (xs : List AX) : ev g s (.mm mx xs) K = vgs g s xs (mmC mx K) := by
  simp only [ev]; congr 1
@[simp ↓] theorem mmInt_nil (mx : Bool) (a : Int) (K : Int → Prop) : mmInt mx a [] K = K a := id rfl
@[simp ↓] theorem mmInt_max (a b : Int) (k : IntKind) (r : List PV) (K : Int → Prop) : mmInt true a (.int k b :: r) K = mmInt true (max a b) r K := by simp [mmInt, intC]
@[simp ↓] theorem mmInt_min (a b : Int) (k : IntKind) (r : List PV) (K : Int → Prop) : mmInt false a (.int k b :: r) K = mmInt false (min a b) r K := by simp [mmInt, intC]
@[simp ↓] theorem x_mkFunc (g : Bool) (f : Fn) (a b : List AX) : ev g s (.mkFunc f a b) K = vgs g s a fun ps => vgs g s b fun qs => (ps.all (fun p => !p.isAgg && p.cellular) = true ∧ qs.all (fun p => !p.isAgg && p.cellular) = true) ∧ K (.fn f ps qs) := by simp only [ev]
@[simp] theorem ge0 {α : Type} (x : α) (l : List α) : (x :: l)[0]? = some x := _root_.id rfl
@[simp ↓] theorem gdK_mt (want : Bool) (M : Bool → Prop) (D U : Prop) (b : Bool) : gdK want true M D U (.bl b) = M (b == want) := id rfl
@[simp ↓] theorem gdK_tt (M : Bool → Prop) (D U : Prop) : gdK true false M D U (.bl true) = D := by simp [gdK]
@[simp ↓] theorem gdK_tf (M : Bool → Prop) (D U : Prop) : gdK true false M D U (.bl false) = U := by simp [gdK]
@[simp ↓] theorem gdK_ff (M : Bool → Prop) (D U : Prop) : gdK false false M D U (.bl false) = D := by simp [gdK]
@[simp ↓] theorem cdK_t (A B : Prop) : cdK A B (.bl true) = A := by simp [cdK]
@[simp ↓] theorem cdK_f (A B : Prop) : cdK A B (.bl false) = B := by simp [cdK]
@[simp ↓] theorem gdK_gt (want : Bool) (M : Bool → Prop) (D U : Prop) (g b : Bool) : gdK want true M D U (.gd g (.bl b)) = M (g && b == want) := id rfl
@[simp ↓] theorem gdK_gtt (M : Bool → Prop) (D U : Prop) : gdK true false M D U (.gd true (.bl true)) = D := by simp [gdK]
@[simp ↓] theorem gdK_gtf (M : Bool → Prop) (D U : Prop) : gdK true false M D U (.gd true (.bl false)) = U := by simp [gdK]
@[simp ↓] theorem gdK_gft (M : Bool → Prop) (D U : Prop) : gdK false false M D U (.gd true (.bl true)) = U := by simp [gdK]
@[simp ↓] theorem gdK_gff (M : Bool → Prop) (D U : Prop) : gdK false false M D U (.gd true (.bl false)) = D := by simp [gdK]
@[simp ↓] theorem pickK_bb (x a b : Bool) : pickK x K (.bl a) (.bl b) = K (.bl (bif x then a else b)) := id rfl
@[simp ↓] theorem pickK_bg (x a g b : Bool) : pickK x K (.bl a) (.gd g (.bl b)) = ((x = false → g = true) ∧ K (.bl (bif x then a else b))) := id rfl
@[simp ↓] theorem pickK_gb (x a g b : Bool) : pickK x K (.gd g (.bl a)) (.bl b) = ((x = true → g = true) ∧ K (.bl (bif x then a else b))) := id rfl
@[simp ↓] theorem pickK_bu (x a : Bool) : pickK x K (.bl a) .un = (x = true ∧ K (.bl a)) := id rfl
@[simp ↓] theorem pickK_ub (x a : Bool) : pickK x K .un (.bl a) = (x = false ∧ K (.bl a)) := id rfl
@[simp] theorem wrap_i64 {n : Int} (h : -9223372036854775808 ≤ n ∧ n ≤ 9223372036854775807) : IntKind.i64.wrap n = n := by
  simp only [IntKind.wrap, IntKind.bits, IntKind.signed]; simp; omega
@[simp] theorem wrap_u8 {n : Int} (h : 0 ≤ n ∧ n ≤ 255) : IntKind.u8.wrap n = n := by
  simp only [IntKind.wrap, IntKind.bits, IntKind.signed]; simp; omega
@[simp] theorem wrap_u32 {n : Int} (h : 0 ≤ n ∧ n ≤ 4294967295) : IntKind.u32.wrap n = n := by
  simp only [IntKind.wrap, IntKind.bits, IntKind.signed]; simp; omega
@[simp] theorem wrap_u64 {n : Int} (h : 0 ≤ n ∧ n ≤ 18446744073709551615) : IntKind.u64.wrap n = n := by
  simp only [IntKind.wrap, IntKind.bits, IntKind.signed]; simp; omega
theorem asBytes_map (b : List UInt8) : asBytes (b.map u8) = some b := by
  induction b with
  | nil => rfl
  | cons x b ih =>
    have h : (x.toNat : Int) < 256 := by have := x.toNat_lt; omega
    simp [u8, asBytes, ih]; omega
@[simp] theorem asBytes_map' (b : List UInt8) : asBytes (b.map u8) = some b := asBytes_map b
@[simp ↓] theorem getB_arr' (sz j s : Nat) (l : List PV) (r : List Step) : getB (.arr sz l) (.i j s :: r) = if s = sz then l[j]?.bind fun c => getP c r else none := by
  first | (simp only [getB]; cases l[j]? <;> rfl) | (simp only [getP]; cases l[j]? <;> rfl)
@[simp ↓] theorem getB_arrw (sz o n s : Nat) (l : List PV) (r : List Step) : getB (.arr sz l) (.w o n s :: r) = if s = sz ∧ o + n ≤ l.length then getP (.ar sz n ((l.drop o).take n)) r else none := _root_.id rfl
@[simp ↓] theorem getB_box' (v : PV) (p : List Step) : getB (.box v) p = getP v p := by cases p <;> rfl
@[simp ↓] theorem getP_nil (v : PV) : getP v [] = some v := by cases v <;> rfl
@[simp ↓] theorem getP_f (w i o : Nat) (l : List PV) (r : List Step) : getP (.st w l) (.f i o :: r) = if widths (l.take i) = o then l[i]?.bind fun c => getP c r else none := by
  simp only [getP]; cases l[i]? <;> rfl
@[simp ↓] theorem getP_i (sz n j s : Nat) (l : List PV) (r : List Step) : getP (.ar sz n l) (.i j s :: r) = if s = sz then l[j]?.bind fun c => getP c r else none := by
  first | (simp only [getB]; cases l[j]? <;> rfl) | (simp only [getP]; cases l[j]? <;> rfl)
@[simp ↓] theorem setP_nil (v x : PV) : setP v [] x = if x.width = v.width then some x else none := by cases v <;> rfl
@[simp ↓] theorem setP_f (w i o : Nat) (l : List PV) (r : List Step) (x : PV) : setP (.st w l) (.f i o :: r) x = if widths (l.take i) = o then l[i]?.bind fun c => (setP c r x).bind fun c' => some (.st w (l.set i c')) else none := by
  simp only [setP]; cases l[i]? with
  | none => rfl
  | some c => simp only [Option.bind_some]; cases setP c r x <;> rfl
@[simp ↓] theorem setP_i (sz n j s : Nat) (l : List PV) (r : List Step) (x : PV) : setP (.ar sz n l) (.i j s :: r) x = if s = sz then l[j]?.bind fun c => (setP c r x).bind fun c' => some (.ar sz n (l.set j c')) else none := by
  simp only [setP]; cases l[j]? with
  | none => rfl
  | some c => simp only [Option.bind_some]; cases setP c r x <;> rfl
@[simp ↓] theorem setB_box' (v x : PV) (p : List Step) : setB (.box v) p x = (setP v p x).bind fun v' => some (.box v') := by
  simp only [setB]; cases setP v p x <;> rfl
@[simp ↓] theorem setB_arr' (sz j s : Nat) (l : List PV) (r : List Step) (x : PV) : setB (.arr sz l) (.i j s :: r) x = if s = sz then l[j]?.bind fun c => (setP c r x).bind fun c' => some (.arr sz (l.set j c')) else none := by
  simp only [setB]; cases l[j]? with
  | none => rfl
  | some c => simp only [Option.bind_some]; cases setP c r x <;> rfl
@[simp] theorem wkb_arr (z : Nat) (l : List PV) (v : PV) : wkb (.arr z l) v = wk v := id rfl
@[simp] theorem wkb_box (u v : PV) : wkb (.box u) v = v := id rfl
@[simp] theorem blk_tot_arr (z : Nat) (l : List PV) : (Blk.arr z l).tot = l.length := id rfl
@[simp] theorem blk_tot_box (v : PV) : (Blk.box v).tot = 0 := id rfl
@[simp ↓] theorem setParts_nil (l : List PV) : setParts l [] = some l := id rfl
@[simp ↓] theorem setParts_cons (l : List PV) (i : Nat) (p : PV) (r : List (Nat × PV)) : setParts l ((i, p) :: r) = l[i]?.bind fun q => if p.width = q.width ∧ p.cellular = true then setParts (l.set i p) r else none := by
  simp only [setParts]; cases l[i]? <;> rfl
@[simp] theorem w_st (w : Nat) (l : List PV) : (PV.st w l).width = w := id rfl
@[simp] theorem w_ar (sz n : Nat) (l : List PV) : (PV.ar sz n l).width = n * sz := id rfl
@[simp] theorem w_int (k : IntKind) (n : Int) : (PV.int k n).width = 1 := id rfl
@[simp] theorem w_bl (b : Bool) : (PV.bl b).width = 1 := id rfl
@[simp] theorem w_sl (z : Nat) (l : List PV) (c : Bool) : (PV.sl z l c).width = 1 := id rfl
@[simp] theorem w_rs (k : Nat) (p : List Step) (a b c d : Nat) (e : CapK) : (PV.rs k p a b c d e).width = 1 := id rfl
@[simp] theorem w_pt (k : Nat) (p : List Step) (a : Nat) : (PV.pt k p a).width = 1 := id rfl
@[simp] theorem w_u8 (b : UInt8) : (u8 b).width = 1 := id rfl
@[simp] theorem widths_nil : widths [] = 0 := id rfl
@[simp] theorem widths_cons (p : PV) (l : List PV) : widths (p :: l) = p.width + widths l := id rfl
@[simp] theorem agg_st (w : Nat) (l : List PV) : (PV.st w l).isAgg = true := id rfl
@[simp] theorem agg_ar (sz n : Nat) (l : List PV) : (PV.ar sz n l).isAgg = true := id rfl
@[simp] theorem agg_int (k : IntKind) (n : Int) : (PV.int k n).isAgg = false := id rfl
@[simp] theorem agg_bl (b : Bool) : (PV.bl b).isAgg = false := id rfl
@[simp] theorem agg_sl (z : Nat) (l : List PV) (c : Bool) : (PV.sl z l c).isAgg = false := id rfl
@[simp] theorem agg_rs (k : Nat) (p : List Step) (a b c d : Nat) (e : CapK) : (PV.rs k p a b c d e).isAgg = false := id rfl
@[simp] theorem agg_pt (k : Nat) (p : List Step) (a : Nat) : (PV.pt k p a).isAgg = false := id rfl
@[simp] theorem agg_u8 (b : UInt8) : (u8 b).isAgg = false := id rfl
@[simp] theorem cel_st (w : Nat) (l : List PV) : (PV.st w l).cellular = true := id rfl
@[simp] theorem cel_ar (sz n : Nat) (l : List PV) : (PV.ar sz n l).cellular = true := id rfl
@[simp] theorem cel_int (k : IntKind) (n : Int) : (PV.int k n).cellular = true := id rfl
@[simp] theorem cel_bl (b : Bool) : (PV.bl b).cellular = true := id rfl
@[simp] theorem cel_sl (z : Nat) (l : List PV) (c : Bool) : (PV.sl z l c).cellular = true := id rfl
@[simp] theorem cel_rs (k : Nat) (p : List Step) (a b c d : Nat) (e : CapK) : (PV.rs k p a b c d e).cellular = true := id rfl
@[simp] theorem cel_pt (k : Nat) (p : List Step) (a : Nat) : (PV.pt k p a).cellular = true := id rfl
@[simp] theorem flat_st (w : Nat) (l : List PV) : (PV.st w l).flat = true := id rfl
@[simp] theorem flat_ar (sz n : Nat) (l : List PV) : (PV.ar sz n l).flat = true := id rfl
@[simp] theorem flat_int (k : IntKind) (n : Int) : (PV.int k n).flat = true := id rfl
@[simp] theorem flat_bl (b : Bool) : (PV.bl b).flat = true := id rfl
@[simp] theorem flat_str (b : List UInt8) : (PV.str b).flat = true := id rfl
@[simp] theorem flat_sl (z : Nat) (l : List PV) (c : Bool) : (PV.sl z l c).flat = true := id rfl
@[simp] theorem flat_rs (k : Nat) (p : List Step) (a b c d : Nat) (e : CapK) : (PV.rs k p a b c d e).flat = true := id rfl
@[simp] theorem flat_pt (k : Nat) (p : List Step) (a : Nat) : (PV.pt k p a).flat = true := id rfl
@[simp] theorem flat_fn (f : Fn) (a b : List PV) : (PV.fn f a b).flat = true := id rfl
end Go.Ab
namespace Go.Ab
variable [Tabs]
variable {P : Program} {s : St} [YCtx]
theorem RetS.with {n : Nat} {res : List AK} {R : PV → List Blk → Prop} {t : Tg R} (c : List Cut) (ks : List Nat)
    (h : cuts c s fun s' => evs s' res fun ps => optK (getAll s'.bx ks) fun blks => (ks.Nodup ∧ ks.take n = fpKeys n) ∧ (ps.all PV.flat = true ∧ refsOk (inKs ks) (tupOf ps) = true ∧ blks.all (refsOkB (inKs ks)) = true) ∧ R (ren (ren1 ks) (tupOf ps)) (blks.map (renB (ren1 ks)))) : RetS n res R t s := by
  refine ⟨c, ks, cuts_mono c (fun s' hs' => ?_) h⟩
  have hevs : ∀ (l : List AK) (s : St) (K K' : List PV → Prop), (∀ p, K p → K' p) → evs s l K → evs s l K' := by
    intro l
    induction l with
    | nil => intro s K K' h hk; exact h _ hk
    | cons x l ih => intro s K K' h hk; exact ev_mono (fun p hp => ih _ _ _ (fun q hq => h _ hq) hp) hk
  refine hevs _ _ _ _ (fun ps hps => ?_) hs'
  cases hg : getAll s'.bx ks with
  | none => rw [hg] at hps; exact hps.elim
  | some blks => rw [hg] at hps; exact ⟨blks, ⟨rfl, hps.1.1, hps.1.2⟩, hps.2.1, hps.2.2⟩
@[simp] theorem getAll_cons (bx : List (Nat × Blk)) (k : Nat) (r : List Nat) : getAll bx (k :: r) = (get bx k).bind fun b => (getAll bx r).bind fun l => some (b :: l) := by
  simp only [getAll]; cases get bx k <;> cases getAll bx r <;> rfl
@[simp] theorem ren_pure {p : PV} (h : Pure p) (ρ : Nat → Nat) : ren ρ p = p := h.ren ρ
@[simp] theorem renL_pure {p : List PV} (h : PureL p) (ρ : Nat → Nat) : renL ρ p = p := h.ren ρ
@[simp] theorem ren_rs (ρ : Nat → Nat) (k : Nat) (p : List Step) (a b c d : Nat) (e : CapK) : ren ρ (.rs k p a b c d e) = .rs (ρ k) p a b c d e := by simp [ren]
@[simp] theorem ren_pt (ρ : Nat → Nat) (k : Nat) (p : List Step) (a : Nat) : ren ρ (.pt k p a) = .pt (ρ k) p a := by simp [ren]
@[simp] theorem ren_st (ρ : Nat → Nat) (w : Nat) (l : List PV) : ren ρ (.st w l) = .st w (renL ρ l) := by simp [ren]
@[simp] theorem renL_cons (ρ : Nat → Nat) (p : PV) (l : List PV) : renL ρ (p :: l) = ren ρ p :: renL ρ l := id rfl
@[simp] theorem renB_arr (ρ : Nat → Nat) (z : Nat) (l : List PV) : renB ρ (.arr z l) = .arr z (renL ρ l) := id rfl
@[simp] theorem renB_box (ρ : Nat → Nat) (v : PV) : renB ρ (.box v) = .box (ren ρ v) := id rfl
@[simp] theorem ren1_cons (k : Nat) (ks : List Nat) (j : Nat) : ren1 (k :: ks) j = ((idx (k :: ks) j).map (KB + ·)).getD j := by
  simp only [ren1]; cases idx (k :: ks) j <;> rfl
@[simp] theorem idx_cons (x : Nat) (r : List Nat) (k : Nat) : idx (x :: r) k = if x = k then some 0 else (idx r k).map (· + 1) := by
  simp only [idx]; cases idx r k <;> rfl
@[simp] theorem inKs_eq (ks : List Nat) (k : Nat) : inKs ks k = (idx ks k).isSome := id rfl
@[simp] theorem refsOk_st (f : Nat → Bool) (w : Nat) (l : List PV) : refsOk f (.st w l) = refsOkL f l := by simp [refsOk]
@[simp] theorem take_len_map {α β : Type} (f : α → β) (l : List α) : (l.map f).take l.length = l.map f := List.take_of_length_le (by simp)
@[simp] theorem take_len_snoc {α β : Type} (f : α → β) (l : List α) (x : β) : (l.map f ++ [x]).take (l.length + 1) = l.map f ++ [x] := List.take_of_length_le (by simp)
@[simp] theorem zr_pure {p : PV} (h : Pure p) (n : Nat) : PureL (zr n p) := by rw [zr_eq]; exact pureL_replicate h n
@[simp] theorem zr_wk {p : PV} (h : wk p = p) (n : Nat) : wkL (zr n p) = zr n p := by rw [zr_eq]; exact wkL_replicate h n
theorem pureL_mu8 (b : List UInt8) : PureL (b.map u8) := by simp
@[simp] theorem pureL_mu8' (b : List UInt8) : PureL (b.map u8) ↔ True := iff_true_intro (pureL_mu8 b)
end Go.Ab
namespace Go.Ab
variable [Tabs]
variable {P : Program} {s : St} [YCtx]
def DrS (P : Program) (l : List AO) (o u : List Nat) (K : St → Prop) (_ : Tg K) (s : St) : Prop := ∃ W, wpcx P l u.contains W s o K
@[simp ↓] theorem aw_regionD (l : List AO) (o u : List Nat) (Q : Exit → St → Prop) : aw P (.regionD l o u) Q s = DrS P l o u (Q .normal) .mk s := _root_.id rfl
def freeL (s : St) : List (AO × Bool) → Bool
  | [] => true
  | (x, _) :: r => (match x.isAl with | some k => (get s.bx k).isNone | none => true) && freeL s r
def wpcl (P : Program) (W : List Nat) (s : St) : List (AO × Bool) → (St → Prop) → Prop
  | [], K => K s
  | (x, f) :: r, K => freeL s ((x, f) :: r) = true ∧ stepc P W f s x fun t => wpcl P W t r K
def selD (l : List AO) (u : List Nat) : List Nat → Option (List (AO × Bool))
  | [] => some []
  | i :: r => match l[i]?, selD l u r with | some x, some m => some ((x, u.contains i) :: m) | _, _ => none
theorem freeL_of {l : List AO} {u : List Nat} : ∀ {o : List Nat} {m : List (AO × Bool)}, selD l u o = some m → freeL s m = freeB l s o
  | [], m, hm => by simp [selD] at hm; subst hm; rfl
  | i :: r, m, hm => by
    simp only [selD] at hm
    split at hm
    · rename_i x m' hx hm'
      simp only [Option.some.injEq] at hm; subst hm
      rw [freeB_cons]
      simp only [freeL, freeL_of hm']
      congr 1
      simp only [freeB, List.all_cons, List.all_nil, Bool.and_true, hx]
      cases x.isAl <;> rfl
    · simp at hm
theorem wpcl_of {l : List AO} {u : List Nat} {W : List Nat} : ∀ {o : List Nat} {m : List (AO × Bool)} {s : St} {K : St → Prop}, selD l u o = some m → wpcl P W s m K → wpcx P l u.contains W s o K
  | [], m, s, K, hm, h => by simp [selD] at hm; subst hm; exact h
  | i :: r, m, s, K, hm, h => by
    simp only [selD] at hm
    split at hm
    · rename_i x m' hx hm'
      simp only [Option.some.injEq] at hm; subst hm
      have hf : freeL s ((x, u.contains i) :: m') = freeB l s (i :: r) := freeL_of (u := u) (by simp only [selD, hx, hm'])
      simp only [wpcx, hx, wpcl] at h ⊢
      exact ⟨hf ▸ h.1, stepc_mono (fun t ht => wpcl_of hm' ht) h.2⟩
    · simp at hm
theorem DrS.of {l : List AO} {o u : List Nat} {K : St → Prop} {t : Tg K} (W : List Nat) (m : List (AO × Bool)) (hm : selD l u o = some m) (h : wpcl P W s m K) : DrS P l o u K t s := ⟨W, wpcl_of hm h⟩
def frB (W : List Nat) (c : List (Nat × Blk)) : List (Nat × Blk) → Prop
  | [] => True
  | (k, b) :: r => (W.contains k = true ∨ get c k = some b) ∧ frB W c r
theorem fr_of {W : List Nat} {t : St} : ∀ {l : List (Nat × Blk)} {e : List (Nat × PV)}, frB W t.bx l → Fr W ⟨e, l⟩ t
  | [], e, _ => fun k b _ h => by simp [get] at h
  | (n, v) :: r, e, h => fun k b hw hb => by
    simp only [get] at hb
    split at hb
    · rename_i hk; subst hk
      simp only [Option.some.injEq] at hb; subst hb
      rcases h.1 with h1 | h1
      · rw [h1] at hw; simp at hw
      · exact h1
    · exact fr_of (e := e) h.2 k b hw hb
def wpcf (P : Program) (W : List Nat) (s : St) : List (AO × Bool) → (St → Prop) → Prop
  | [], K => K s
  | (x, f) :: r, K => if x.quiet = true then (if f = true then wpo P (s.less W) x (fun t => wpcf P W { t with bx := s.bx } r K) else wpo P s x (fun t => wpcf P W t r K))
      else freeL s ((x, f) :: r) = true ∧ wpo P s x (fun t => (f = true → frB W t.bx s.bx) ∧ wpcf P W t r K)
theorem freeL_bx {s s' : St} (h : s'.bx = s.bx) : ∀ m : List (AO × Bool), freeL s' m = freeL s m
  | [] => rfl
  | (x, f) :: r => by simp only [freeL, freeL_bx h r, h]
theorem wpcf_free {W : List Nat} : ∀ {m : List (AO × Bool)} {s : St} {K : St → Prop}, wpcf P W s m K → freeL s m = true
  | [], s, K, h => rfl
  | (x, f) :: r, s, K, h => by
    simp only [wpcf] at h
    split at h
    · rename_i hq
      simp only [freeL, isAl_quiet hq, Bool.true_and]
      split at h
      · obtain ⟨v, h1, _⟩ := wpo_dts hq h
        have := wpcf_free h1
        exact (freeL_bx (s := s) (s' := { env := ((s.less W).put x.dst v).env, bx := s.bx }) rfl r).symm.trans this
      · obtain ⟨v, h1, _⟩ := wpo_dts hq h
        have := wpcf_free h1
        rwa [freeL_bx (put_bx _ _)] at this
    · exact h.1
theorem wpcl_of_f {W : List Nat} : ∀ {m : List (AO × Bool)} {s : St} {K : St → Prop}, wpcf P W s m K → wpcl P W s m K
  | [], s, K, h => h
  | (x, f) :: r, s, K, h => by
    refine ⟨wpcf_free h, ?_⟩
    simp only [wpcf, stepc] at h ⊢
    split at h
    · rename_i hq
      rw [if_pos hq]
      split at h
      · rename_i hf; rw [if_pos hf]; exact wpo_mono (fun t ht => wpcl_of_f ht) h
      · rename_i hf; rw [if_neg hf]; exact wpo_mono (fun t ht => wpcl_of_f ht) h
    · rename_i hq
      rw [if_neg hq]
      exact wpo_mono (fun t ht => ⟨fun e => fr_of (e := s.env) (ht.1 e), wpcl_of_f ht.2⟩) h.2
def dropW (W : List Nat) (b : List (Nat × Blk)) : List (Nat × Blk) := b.filter fun p => !W.contains p.1
@[simp] theorem dropW_nil (W : List Nat) : dropW W [] = [] := _root_.id rfl
@[simp] theorem dropW_cons (W : List Nat) (k : Nat) (v : Blk) (r : List (Nat × Blk)) : dropW W ((k, v) :: r) = if W.contains k = true then dropW W r else (k, v) :: dropW W r := by
  unfold dropW; rw [List.filter_cons]; cases W.contains k <;> simp
@[simp] theorem quiet_mv (d : Option Nat) (gd : Option (Nat × Bool)) (mg : Bool) (a : AX) : AO.quiet ⟨d, gd, mg, .mv a⟩ = true := _root_.id rfl
@[simp] theorem isAl_mv (d : Option Nat) (gd : Option (Nat × Bool)) (mg : Bool) (a : AX) : AO.isAl ⟨d, gd, mg, .mv a⟩ = none := by simp [AO.isAl]
@[simp] theorem quiet_build (d : Option Nat) (gd : Option (Nat × Bool)) (mg : Bool) (z : PV) (ps : List (Nat × AX)) : AO.quiet ⟨d, gd, mg, .build z ps⟩ = true := _root_.id rfl
@[simp] theorem isAl_build (d : Option Nat) (gd : Option (Nat × Bool)) (mg : Bool) (z : PV) (ps : List (Nat × AX)) : AO.isAl ⟨d, gd, mg, .build z ps⟩ = none := by simp [AO.isAl]
@[simp] theorem quiet_load (d : Option Nat) (gd : Option (Nat × Bool)) (mg : Bool) (g : Bool) (m : Nat) (a : AX) : AO.quiet ⟨d, gd, mg, .load g m a⟩ = true := _root_.id rfl
@[simp] theorem quiet_nilCheck (d : Option Nat) (gd : Option (Nat × Bool)) (mg : Bool) (a : AX) : AO.quiet ⟨d, gd, mg, .nilCheck a⟩ = true := _root_.id rfl
@[simp] theorem isAl_nilCheck (d : Option Nat) (gd : Option (Nat × Bool)) (mg : Bool) (a : AX) : AO.isAl ⟨d, gd, mg, .nilCheck a⟩ = none := by simp [AO.isAl]
@[simp] theorem quiet_bin (d : Option Nat) (gd : Option (Nat × Bool)) (mg : Bool) (o : BinOp) (e : ET) (a b : AX) : AO.quiet ⟨d, gd, mg, .bin o e a b⟩ = true := _root_.id rfl
@[simp] theorem isAl_bin (d : Option Nat) (gd : Option (Nat × Bool)) (mg : Bool) (o : BinOp) (e : ET) (a b : AX) : AO.isAl ⟨d, gd, mg, .bin o e a b⟩ = none := by simp [AO.isAl]
@[simp] theorem quiet_convI (d : Option Nat) (gd : Option (Nat × Bool)) (mg : Bool) (k : IntKind) (a : AX) : AO.quiet ⟨d, gd, mg, .convI k a⟩ = true := _root_.id rfl
@[simp] theorem isAl_convI (d : Option Nat) (gd : Option (Nat × Bool)) (mg : Bool) (k : IntKind) (a : AX) : AO.isAl ⟨d, gd, mg, .convI k a⟩ = none := by simp [AO.isAl]
@[simp] theorem quiet_slice (d : Option Nat) (gd : Option (Nat × Bool)) (mg : Bool) (k : SK) (a : AX) (l h m : Option AX) : AO.quiet ⟨d, gd, mg, .slice k a l h m⟩ = true := _root_.id rfl
@[simp] theorem quiet_fieldA (d : Option Nat) (gd : Option (Nat × Bool)) (mg : Bool) (i o : Nat) (a : AX) : AO.quiet ⟨d, gd, mg, .fieldA i o a⟩ = true := _root_.id rfl
@[simp] theorem isAl_fieldA (d : Option Nat) (gd : Option (Nat × Bool)) (mg : Bool) (i o : Nat) (a : AX) : AO.isAl ⟨d, gd, mg, .fieldA i o a⟩ = none := by simp [AO.isAl]
@[simp] theorem quiet_indexA (d : Option Nat) (gd : Option (Nat × Bool)) (mg : Bool) (k : SK) (a b : AX) : AO.quiet ⟨d, gd, mg, .indexA k a b⟩ = true := _root_.id rfl
@[simp] theorem isAl_indexA (d : Option Nat) (gd : Option (Nat × Bool)) (mg : Bool) (k : SK) (a b : AX) : AO.isAl ⟨d, gd, mg, .indexA k a b⟩ = none := by simp [AO.isAl]
@[simp] theorem quiet_extract (d : Option Nat) (gd : Option (Nat × Bool)) (mg : Bool) (i : Nat) (a : AX) : AO.quiet ⟨d, gd, mg, .extract i a⟩ = true := _root_.id rfl
@[simp] theorem isAl_extract (d : Option Nat) (gd : Option (Nat × Bool)) (mg : Bool) (i : Nat) (a : AX) : AO.isAl ⟨d, gd, mg, .extract i a⟩ = none := by simp [AO.isAl]
@[simp] theorem quiet_mm (d : Option Nat) (gd : Option (Nat × Bool)) (mg : Bool) (g : Bool) (as : List AX) : AO.quiet ⟨d, gd, mg, .mm g as⟩ = true := _root_.id rfl
@[simp] theorem isAl_mm (d : Option Nat) (gd : Option (Nat × Bool)) (mg : Bool) (g : Bool) (as : List AX) : AO.isAl ⟨d, gd, mg, .mm g as⟩ = none := by simp [AO.isAl]
@[simp] theorem quiet_call (d : Option Nat) (gd : Option (Nat × Bool)) (mg : Bool) (a : AX) (as : List AX) : AO.quiet ⟨d, gd, mg, .call a as⟩ = false := _root_.id rfl
@[simp] theorem isAl_call (d : Option Nat) (gd : Option (Nat × Bool)) (mg : Bool) (a : AX) (as : List AX) : AO.isAl ⟨d, gd, mg, .call a as⟩ = none := by simp [AO.isAl]
@[simp] theorem quiet_callq (d : Option Nat) (gd : Option (Nat × Bool)) (mg : Bool) (a : AX) (as : List AX) : AO.quiet ⟨d, gd, mg, .callq a as⟩ = true := _root_.id rfl
@[simp] theorem isAl_callq (d : Option Nat) (gd : Option (Nat × Bool)) (mg : Bool) (a : AX) (as : List AX) : AO.isAl ⟨d, gd, mg, .callq a as⟩ = none := by simp [AO.isAl]
@[simp] theorem quiet_alloc (d : Option Nat) (gd : Option (Nat × Bool)) (mg : Bool) (z : PV) : AO.quiet ⟨d, gd, mg, .alloc z⟩ = false := _root_.id rfl
@[simp] theorem quiet_store (d : Option Nat) (gd : Option (Nat × Bool)) (mg : Bool) (m : Nat) (a b : AX) : AO.quiet ⟨d, gd, mg, .store m a b⟩ = false := _root_.id rfl
@[simp] theorem isAl_store (d : Option Nat) (gd : Option (Nat × Bool)) (mg : Bool) (m : Nat) (a b : AX) : AO.isAl ⟨d, gd, mg, .store m a b⟩ = none := by simp [AO.isAl]
@[simp] theorem quiet_append (d : Option Nat) (gd : Option (Nat × Bool)) (mg : Bool) (m m2 : Nat) (g : Bool) (a b : AX) : AO.quiet ⟨d, gd, mg, .append m m2 g a b⟩ = false := _root_.id rfl
@[simp] theorem isAl_append (d : Option Nat) (gd : Option (Nat × Bool)) (mg : Bool) (m m2 : Nat) (g : Bool) (a b : AX) : AO.isAl ⟨d, gd, mg, .append m m2 g a b⟩ = none := by simp [AO.isAl]
@[simp] theorem quiet_copy (d : Option Nat) (gd : Option (Nat × Bool)) (mg : Bool) (m : Nat) (a b : AX) : AO.quiet ⟨d, gd, mg, .copy m a b⟩ = false := _root_.id rfl
@[simp] theorem isAl_copy (d : Option Nat) (gd : Option (Nat × Bool)) (mg : Bool) (m : Nat) (a b : AX) : AO.isAl ⟨d, gd, mg, .copy m a b⟩ = none := by simp [AO.isAl]
@[simp] theorem quiet_bsF (d : Option Nat) (gd : Option (Nat × Bool)) (mg : Bool) (m : Nat) (z : PV) (n : Nat) (ps : List (Nat × AX)) : AO.quiet ⟨d, gd, mg, .buildSlice false m z n ps⟩ = true := _root_.id rfl
@[simp] theorem quiet_bsT (d : Option Nat) (gd : Option (Nat × Bool)) (mg : Bool) (m : Nat) (z : PV) (n : Nat) (ps : List (Nat × AX)) : AO.quiet ⟨d, gd, mg, .buildSlice true m z n ps⟩ = false := _root_.id rfl
@[simp] theorem isAl_bsT (d : Option Nat) (gd : Option (Nat × Bool)) (mg : Bool) (m : Nat) (z : PV) (n : Nat) (ps : List (Nat × AX)) : AO.isAl ⟨d, gd, mg, .buildSlice true m z n ps⟩ = none := by simp [AO.isAl]
@[simp] theorem quiet_mapSet (d : Option Nat) (gd : Option (Nat × Bool)) (mg : Bool) (a b : Sh) (m x y : AX) : AO.quiet ⟨d, gd, mg, .mapSet a b m x y⟩ = false := _root_.id rfl
@[simp] theorem isAl_mapSet (d : Option Nat) (gd : Option (Nat × Bool)) (mg : Bool) (a b : Sh) (m x y : AX) : AO.isAl ⟨d, gd, mg, .mapSet a b m x y⟩ = none := by simp [AO.isAl]
theorem DrS.run {l : List AO} {o u : List Nat} {K : St → Prop} {t : Tg K} (W : List Nat) {m : List (AO × Bool)} (hm : selD l u o = some m) (h : wpcf P W s m K) : DrS P l o u K t s := DrS.of W m hm (wpcl_of_f h)
@[simp ↓] theorem wpcf_nil (W : List Nat) (K : St → Prop) : wpcf P W s [] K = K s := _root_.id rfl
@[simp ↓] theorem wpcf_c (W : List Nat) (n : Nat) (v : PV) (e : List (Nat × PV)) (b : List (Nat × Blk)) (x : AO) (f : Bool) (r : List (AO × Bool)) (K : St → Prop) : wpcf P W ⟨(n, v) :: e, b⟩ ((x, f) :: r) K =
    if x.quiet = true then (if f = true then wpo P ⟨(n, v) :: e, dropW W b⟩ x (fun t => wpcf P W { t with bx := b } r K) else wpo P ⟨(n, v) :: e, b⟩ x (fun t => wpcf P W t r K))
    else (freeL ⟨(n, v) :: e, b⟩ ((x, f) :: r) = true ∧ wpo P ⟨(n, v) :: e, b⟩ x (fun t => (f = true → frB W t.bx b) ∧ wpcf P W t r K)) := by
  simp only [wpcf]; rfl
@[simp] theorem freeL_c (x : AO) (f : Bool) (r : List (AO × Bool)) : freeL s ((x, f) :: r) = ((match x.isAl with | some k => (get s.bx k).isNone | none => true) && freeL s r) := _root_.id rfl
@[simp ↓] theorem freeL_nil : freeL s [] = true := _root_.id rfl
@[simp ↓] theorem freeL_al (k : Nat) (mg f : Bool) (z : PV) (r : List (AO × Bool)) : freeL s ((⟨some k, none, mg, .alloc z⟩, f) :: r) = ((get s.bx k).isNone && freeL s r) := _root_.id rfl
@[simp] theorem frB_nil (W : List Nat) (c : List (Nat × Blk)) : frB W c [] = True := _root_.id rfl
@[simp] theorem frB_cons (W : List Nat) (c : List (Nat × Blk)) (k : Nat) (b : Blk) (r : List (Nat × Blk)) : frB W c ((k, b) :: r) = ((W.contains k = true ∨ get c k = some b) ∧ frB W c r) := _root_.id rfl
end Go.Ab
namespace Go.Ab
variable [Tabs]
variable {P : Program} {s : St}
theorem yS.eq {n l l' : Nat} {Y : List PV → List Blk → (List Blk → Prop) → Prop} {d : Option Nat} {args : List PV} {K : St → Prop} {t : Tg K} (blks fp : List Blk) (hl : l' = l) (hg : getAll s.bx (fpKeys n) = some blks) (ha : refsOkL (inFp n) args = true) (hb : blks.all (refsOkB (inFp n)) = true)
    (hsp : Y args blks fun x => x = fp) (hf : fp.length = n ∧ fp.all (refsOkB (inFp n)) = true) (h : K ({ s with bx := putAll s.bx (fpKeys n) fp }.put d (.bl true))) : @yS (ofY n l Y) s d l' args K t :=
  ⟨blks, fun x => x = fp, hg, ha, hb, ⟨hl, hsp⟩, by rintro x rfl; exact ⟨hf, h⟩⟩
theorem RgS.of {ps : List Nat} {x y : ACode} {Q : Exit → St → Prop} {t : Tg (x, y, Q)} {fid : FuncId} {cap cap' : List PV} {blks' fp1 : List Blk} {Y : List PV → List Blk → (List Blk → Prop) → Prop} (ks : List Nat) (blks : List Blk)
    (hg : getAll s.bx ks = some blks) (hn : ks.Nodup) (hc : refsOkL (inKs ks) cap = true) (hb : blks.all (refsOkB (inKs ks)) = true) (hc' : renL (ren1 ks) cap = cap') (hb' : blks.map (renB (ren1 ks)) = blks')
    (hI : AIter P fid cap' blks' Y fun fp => fp = fp1)
    (hr : ∀ args fp R1, Y args fp R1 → (args.length = ps.length ∧ fp.length = ks.length) ∧ aw P x (thn noQ fun s' => aw P y (roundQ ks.length R1) s') (roundSt ks s ps args fp))
    (hl : fp1.length = ks.length ∧ fp1.all (refsOkB (inFp fp1.length)) = true) (hK : Q .normal { s with bx := putAll s.bx ks (fp1.map (renB (ren2 ks))) }) : RgS P ps x y Q t s (.fn (.func fid) [] cap) := by
  refine ⟨fun _ _ _ _ h => h, ks, blks, Y, fun fp => fp = fp1, ⟨hg, hn, hc, hb⟩, by rw [hc', hb']; exact hI, hr, ?_⟩
  rintro fp rfl
  exact ⟨hl, hK⟩
theorem callS.gen {d : Option Nat} {f : FuncId} {args args' : List PV} {blks' fp1 : List Blk} {r1 : PV} {K : St → Prop} {t : Tg K} (ks os : List Nat) (blks : List Blk) (hA : ACalls P f args' blks' fun r fp => r = r1 ∧ fp = fp1)
    (hg : getAll s.bx ks = some blks) (hn : (ks ++ os).Nodup) (hos : ∀ o ∈ os, get s.bx o = none) (ha : refsOkL (inKs ks) args = true) (hb : blks.all (refsOkB (inKs ks)) = true)
    (ha' : wkL (renL (ren1 ks) args) = args') (hb' : blks.map (renB (ren1 ks)) = blks') (hl : fp1.length = (ks ++ os).length ∧ refsOk (inFp fp1.length) r1 = true ∧ fp1.all (refsOkB (inFp fp1.length)) = true)
    (h : K ({ s with bx := putAll s.bx (ks ++ os) (fp1.map (renB (ren2 (ks ++ os)))) }.put d (ren (ren2 (ks ++ os)) r1))) : callS P s d f args K t := by
  subst ha' hb'
  refine ⟨ks, os, blks, _, hg, hn, hos, ha, hb, ACalls.wkA hA, ?_⟩
  rintro r fp ⟨rfl, rfl⟩
  exact ⟨hl, h⟩
theorem RndS.of {n : Nat} {R : List Blk → Prop} {t : Tg R} (c : List Cut) (h : cuts c s fun s' => ∃ blks, getAll s'.bx (fpKeys n) = some blks ∧ blks.all (refsOkB (inFp n)) = true ∧ R blks) : RndS n R t s := ⟨c, h⟩
theorem yS.eqI [I : YCtx] {n l l' : Nat} {Y : List PV → List Blk → (List Blk → Prop) → Prop} (hI : I = ofY n l Y) {d : Option Nat} {args : List PV} {K : St → Prop} {t : Tg K} (blks fp : List Blk) (hl : l' = l) (hg : getAll s.bx (fpKeys n) = some blks) (ha : refsOkL (inFp n) args = true) (hb : blks.all (refsOkB (inFp n)) = true)
    (hsp : Y args blks fun x => x = fp) (hf : fp.length = n ∧ fp.all (refsOkB (inFp n)) = true) (h : K ({ s with bx := putAll s.bx (fpKeys n) fp }.put d (.bl true))) : yS s d l' args K t := by
  subst hI; exact yS.eq blks fp hl hg ha hb hsp hf h
theorem AIter.introI {f : FuncId} {A : AFun} {own sp : List Nat} {cap : List PV} {fp : List Blk} {Y : List PV → List Blk → (List Blk → Prop) → Prop} {R : List Blk → Prop} (ht : trFun P own sp f = some A.er) (hl : cap.length + 1 ≤ A.nt)
    (h : ∀ (l : Nat) (I : YCtx), I = ofY fp.length l Y → @aw _ I P A.code (ends fp.length A.res fun _ fp' => R fp') ⟨argEnv 0 (.fn (.yield l) [] [] :: cap), fpBx 0 fp⟩) : AIter P f cap fp Y R :=
  AIter.intro ht hl fun l => h l _ rfl
@[simp] theorem fpKeys_1 : fpKeys 1 = [KB] := rfl
@[simp] theorem fpKeys_2 : fpKeys 2 = [KB, KB + 1] := rfl
@[simp] theorem fpKeys_3 : fpKeys 3 = [KB, KB + 1, KB + 2] := rfl
@[simp] theorem fpKeys_5 : fpKeys 5 = [KB, KB + 1, KB + 2, KB + 3, KB + 4] := rfl
@[simp] theorem KB_ne {n : Nat} (h : n < 9000) : (KB = n) = False := by simp only [KB, eq_iff_iff, iff_false]; omega
@[simp] theorem KB_ne' {n : Nat} (h : n < 9000) : (n = KB) = False := by simp only [KB, eq_iff_iff, iff_false]; omega
@[simp] theorem KB_lt_not {n : Nat} (h : n < 9000) : (KB < n) = False := by simp only [KB, eq_iff_iff, iff_false]; omega
@[simp] theorem KB_self {i : Nat} : (KB + i < KB) = False := by simp
@[simp ↓] theorem vgk_y {g : Bool} {K : PV → Prop} (l : Nat) (ca cb : List PV) : vgk g (.fn (.yield l) ca cb) K = K (.fn (.yield l) ca cb) := id rfl
end Go.Ab
namespace Go.Ab
variable [Tabs]
structure FitF (sh : Sh) (p : PV) : Prop where
  refs : refsOk (fun _ => false) p = true
  wk : wk p = p
  width : p.width = shW sh
  agg : p.isAgg = sh.agg
  beq : PV.beq p p = true
  cell : p.cellular = true
  flat : p.flat = true
mutual
theorem fit_facts : ∀ (p : PV) (sh : Sh), fits sh p = true → FitF sh p
  | .bl b, .b, _ => ⟨rfl, by simp, rfl, rfl, by simp [PV.beq], rfl, rfl⟩
  | .int k n, .i k', h => ⟨rfl, by simp, rfl, rfl, by simp [PV.beq], rfl, rfl⟩
  | .str s, .s, _ => ⟨rfl, by simp, rfl, rfl, by simp [PV.beq], rfl, rfl⟩
  | .st w m, .st l, h => by
    simp only [fits, Bool.and_eq_true, decide_eq_true_eq] at h
    obtain ⟨h1, h2, h3, h4⟩ := fitL_facts m l h.2
    exact ⟨by simpa [refsOk] using h1, by simp [h2], by simp [shW, h.1], rfl, by simp [PV.beq, h4], rfl, rfl⟩
  | .ar sz k m, .ar n e, h => by
    simp only [fits, Bool.and_eq_true, decide_eq_true_eq] at h
    obtain ⟨h1, h2, h4⟩ := fitA_facts m e h.2
    exact ⟨by simpa [refsOk] using h1, by simp [h2], by simp [shW, h.1.1, h.1.2.1], rfl, by simp [PV.beq, h4], rfl, rfl⟩
  | .un, sh, h => by cases sh <;> simp [fits] at h
  | .tup _, sh, h => by cases sh <;> simp [fits] at h
  | .sl _ _ _, sh, h => by cases sh <;> simp [fits] at h
  | .rs _ _ _ _ _ _ _, sh, h => by cases sh <;> simp [fits] at h
  | .np, sh, h => by cases sh <;> simp [fits] at h
  | .pt _ _ _, sh, h => by cases sh <;> simp [fits] at h
  | .fp _ _ _, sh, h => by cases sh <;> simp [fits] at h
  | .fn _ _ _, sh, h => by cases sh <;> simp [fits] at h
  | .nf, sh, h => by cases sh <;> simp [fits] at h
  | .gd _ _, sh, h => by cases sh <;> simp [fits] at h
  | .ifc _ _, sh, h => by cases sh <;> simp [fits] at h
  | .ni, sh, h => by cases sh <;> simp [fits] at h
  | .mp _ _, sh, h => by cases sh <;> simp [fits] at h
  | .bl _, .i _, h => by simp [fits] at h
  | .bl _, .s, h => by simp [fits] at h
  | .bl _, .st _, h => by simp [fits] at h
  | .bl _, .ar _ _, h => by simp [fits] at h
  | .int _ _, .b, h => by simp [fits] at h
  | .int _ _, .s, h => by simp [fits] at h
  | .int _ _, .st _, h => by simp [fits] at h
  | .int _ _, .ar _ _, h => by simp [fits] at h
  | .str _, .b, h => by simp [fits] at h
  | .str _, .i _, h => by simp [fits] at h
  | .str _, .st _, h => by simp [fits] at h
  | .str _, .ar _ _, h => by simp [fits] at h
  | .st _ _, .b, h => by simp [fits] at h
  | .st _ _, .i _, h => by simp [fits] at h
  | .st _ _, .s, h => by simp [fits] at h
  | .st _ _, .ar _ _, h => by simp [fits] at h
  | .ar _ _ _, .b, h => by simp [fits] at h
  | .ar _ _ _, .i _, h => by simp [fits] at h
  | .ar _ _ _, .s, h => by simp [fits] at h
  | .ar _ _ _, .st _, h => by simp [fits] at h
theorem fitL_facts : ∀ (m : List PV) (l : List Sh), fitsL l m = true → refsOkL (fun _ => false) m = true ∧ wkL m = m ∧ widths m = shWL l ∧ PV.beqL m m = true
  | [], [], _ => ⟨rfl, rfl, rfl, by simp [PV.beqL]⟩
  | p :: m, x :: l, h => by
    simp only [fitsL, Bool.and_eq_true] at h
    have f := fit_facts p x h.1
    obtain ⟨h1, h2, h3, h4⟩ := fitL_facts m l h.2
    exact ⟨by simp [refsOkL, f.refs, h1], by simp [f.wk, h2], by simp [shWL, f.width, h3], by simp [PV.beqL, f.beq, h4]⟩
  | [], _ :: _, h => by simp [fitsL] at h
  | _ :: _, [], h => by simp [fitsL] at h
theorem fitA_facts : ∀ (m : List PV) (e : Sh), fitsA e m = true → refsOkL (fun _ => false) m = true ∧ wkL m = m ∧ PV.beqL m m = true
  | [], _, _ => ⟨rfl, rfl, by simp [PV.beqL]⟩
  | p :: m, e, h => by
    simp only [fitsA, Bool.and_eq_true] at h
    have f := fit_facts p e h.1
    obtain ⟨h1, h2, h4⟩ := fitA_facts m e h.2
    exact ⟨by simp [refsOkL, f.refs, h1], by simp [f.wk, h2], by simp [PV.beqL, f.beq, h4]⟩
end
structure FV (sh : Sh) where
  p : PV
  ok : fits sh p = true
variable {sh : Sh} (v : FV sh)
@[simp] theorem FV.fits : Ab.fits sh v.p = true := v.ok
@[simp] theorem FV.pure : Pure v.p := Pure.of (fit_facts v.p sh v.ok).refs
@[simp] theorem FV.wk : Ab.wk v.p = v.p := (fit_facts v.p sh v.ok).wk
@[simp] theorem FV.width : v.p.width = shW sh := (fit_facts v.p sh v.ok).width
@[simp] theorem FV.agg : v.p.isAgg = sh.agg := (fit_facts v.p sh v.ok).agg
@[simp] theorem FV.beq : PV.beq v.p v.p = true := (fit_facts v.p sh v.ok).beq
@[simp] theorem FV.cell : v.p.cellular = true := (fit_facts v.p sh v.ok).cell
@[simp] theorem FV.flat : v.p.flat = true := (fit_facts v.p sh v.ok).flat
@[simp ↓] theorem FV.vgk (g : Bool) (K : PV → Prop) : Ab.vgk g v.p K = K v.p := by
  have := (fit_facts v.p sh v.ok).flat
  cases h : v.p <;> rw [h] at this <;> simp [PV.flat] at this <;> rfl
end Go.Ab
namespace Go.Ab
variable [Tabs]
variable {P : Program} {s : St} [YCtx]
theorem LpS.rngc {x : ACode} {Q : Exit → St → Prop} {t : Tg (x, Q)} (n : Nat) (I : Nat → Prop) (ks : List Nat) (E : Nat → List (Nat × PV)) (B : Nat → List (Nat × Blk)) (c0 ce : List Cut)
    (h : cuts c0 s fun s0 => upd s0 ks (E 0) (B 0) = upd s0 ks [] [] ∧ I 0 ∧
      (∀ i, i < n → I i → ∀ K : St → Prop, (∀ s2, upd s2 ks [] [] = upd s0 ks (E (i + 1)) (B (i + 1)) → I (i + 1) → K s2) → aw P x (thn Q fun s' => ∃ c : List Cut, cuts c s' K) (upd s0 ks (E i) (B i))) ∧
      (I n → cuts ce (upd s0 ks (E n) (B n)) fun st => ∀ K : St → Prop, aw P x (thn Q K) st)) : LpS P x Q t s := by
  let Step : St → Prop := fun s0 => ∀ i, i < n → I i → ∀ K : St → Prop, (∀ s2, upd s2 ks [] [] = upd s0 ks (E (i + 1)) (B (i + 1)) → I (i + 1) → K s2) → aw P x (thn Q fun s' => ∃ c : List Cut, cuts c s' K) (upd s0 ks (E i) (B i))
  let End : St → Prop := fun s0 => I n → cuts ce (upd s0 ks (E n) (B n)) fun st => ∀ K : St → Prop, aw P x (thn Q K) st
  let J : Nat → St → Prop := fun m st => (∃ s0 i, i < n ∧ m = n - i ∧ I i ∧ st = upd s0 ks (E i) (B i) ∧ Step s0 ∧ End s0) ∨ (m = 0 ∧ ∀ K : St → Prop, aw P x (thn Q K) st)
  refine ⟨J, if n = 0 then c0 ++ ([.keep ks] ++ ce) else c0 ++ [.keep ks], ?_, ?_⟩
  · by_cases hn : n = 0
    · rw [if_pos hn, cuts_append]
      refine cuts_mono c0 (fun s0 hs => ?_) h
      obtain ⟨h1, h2, h3, h4⟩ := hs
      rw [cuts_append]
      have h4 := h4 (by rw [hn]; exact h2)
      rw [hn, h1] at h4
      exact cuts_mono ce (fun st hst => ⟨0, .inr ⟨rfl, hst⟩⟩) h4
    · rw [if_neg hn, cuts_append]
      refine cuts_mono c0 (fun s0 hs => ?_) h
      obtain ⟨h1, h2, h3, h4⟩ := hs
      exact ⟨n, .inl ⟨s0, 0, by omega, by omega, h2, by rw [h1]; rfl, h3, h4⟩⟩
  · rintro m st (⟨s0, i, hi, rfl, hI, rfl, h3, h4⟩ | ⟨rfl, hst⟩)
    · by_cases hl : i + 1 = n
      · have hcut : ∀ (K : St → Prop) s', (∃ c : List Cut, cuts c s' fun s2 => cuts ([.keep ks] ++ ce) s2 K) → ∃ c : List Cut, cuts c s' K := fun K s' ⟨c, hc⟩ => ⟨c ++ ([.keep ks] ++ ce), by rw [cuts_append]; exact hc⟩
        have := h3 i hi hI (fun s2 => cuts ([.keep ks] ++ ce) s2 fun s' => ∃ m, m < n - i ∧ J m s') (fun s2 e hI' => by
          rw [hl] at e hI'
          have h4 := h4 hI'
          rw [← e] at h4
          rw [cuts_append]
          exact cuts_mono ce (fun st hst => ⟨0, by omega, .inr ⟨rfl, hst⟩⟩) h4)
        refine aw_mono (fun e s' he => ?_) this
        cases e with
        | normal => exact hcut _ _ he
        | _ => exact he
      · have hcut : ∀ (K : St → Prop) s', (∃ c : List Cut, cuts c s' fun s2 => cuts [.keep ks] s2 K) → ∃ c : List Cut, cuts c s' K := fun K s' ⟨c, hc⟩ => ⟨c ++ [.keep ks], by rw [cuts_append]; exact hc⟩
        have := h3 i hi hI (fun s2 => cuts [.keep ks] s2 fun s' => ∃ m, m < n - i ∧ J m s')
          (fun s2 e hI' => ⟨n - (i + 1), by omega, .inl ⟨s0, i + 1, by omega, rfl, hI', by rw [← e]; rfl, h3, h4⟩⟩)
        refine aw_mono (fun e s' he => ?_) this
        cases e with
        | normal => exact hcut _ _ he
        | _ => exact he
    · exact hst _
theorem LpS.rngA {α : Type} {x : ACode} {Q : Exit → St → Prop} {t : Tg (x, Q)} (n : Nat) (x0 : α) (I : Nat → α → Prop) (ks : List Nat) (E : Nat → α → List (Nat × PV)) (B : Nat → α → List (Nat × Blk)) (c0 : List Cut)
    (h : cuts c0 s fun s0 => upd s0 ks (E 0 x0) (B 0 x0) = upd s0 ks [] [] ∧ I 0 x0 ∧
      (∀ i y, i < n → I i y → ∀ K : St → Prop, (∀ z s2, upd s2 ks [] [] = upd s0 ks (E (i + 1) z) (B (i + 1) z) → I (i + 1) z → K s2) → aw P x (thn Q fun s' => ∃ c : List Cut, cuts c s' K) (upd s0 ks (E i y) (B i y))) ∧
      (∀ y, I n y → ∀ K : St → Prop, aw P x (thn Q K) (upd s0 ks (E n y) (B n y)))) : LpS P x Q t s := by
  let R : St → Prop := fun s0 => (∀ i y, i < n → I i y → ∀ K : St → Prop, (∀ z s2, upd s2 ks [] [] = upd s0 ks (E (i + 1) z) (B (i + 1) z) → I (i + 1) z → K s2) → aw P x (thn Q fun s' => ∃ c : List Cut, cuts c s' K) (upd s0 ks (E i y) (B i y))) ∧
      (∀ y, I n y → ∀ K : St → Prop, aw P x (thn Q K) (upd s0 ks (E n y) (B n y)))
  let J : Nat → St → Prop := fun m st => ∃ s0 i y, i ≤ n ∧ m = n - i ∧ I i y ∧ st = upd s0 ks (E i y) (B i y) ∧ R s0
  refine ⟨J, c0 ++ [.keep ks], ?_, ?_⟩
  · rw [cuts_append]
    refine cuts_mono c0 (fun s0 hs => ?_) h
    obtain ⟨h1, h2, h3⟩ := hs
    exact ⟨n, s0, 0, x0, by omega, by omega, h2, by rw [h1]; rfl, h3⟩
  · rintro m st ⟨s0, i, y, hi, rfl, hI, rfl, h3⟩
    by_cases hlt : i < n
    · have hcut : ∀ (K : St → Prop) s', (∃ c : List Cut, cuts c s' fun s2 => cuts [.keep ks] s2 K) → ∃ c : List Cut, cuts c s' K := fun K s' ⟨c, hc⟩ => ⟨c ++ [.keep ks], by rw [cuts_append]; exact hc⟩
      have := h3.1 i y hlt hI (fun s2 => cuts [.keep ks] s2 fun s' => ∃ m, m < n - i ∧ J m s')
        (fun z s2 e hI' => ⟨n - (i + 1), by omega, s0, i + 1, z, by omega, rfl, hI', by rw [← e]; rfl, h3⟩)
      refine aw_mono (fun e s' he => ?_) this
      cases e with
      | normal => exact hcut _ _ he
      | _ => exact he
    · have hin : i = n := by omega
      subst hin
      exact h3.2 y hI _
end Go.Ab
namespace Go.Ab
variable [Tabs]
variable {P : Program} {s : St} [YCtx]
def cpA (s : St) (d : Option Nat) (sz : Nat) (ys : List PV) (K : St → Prop) (k : Nat) (v : PV) (pth : List Step) (off len tot sz' : Nat) : PV → Prop
  | .ar sz'' n l => optK (setP v pth (.ar sz'' n (l.take off ++ ys.take (min ys.length len) ++ l.drop (off + min ys.length len)))) fun v' => (tot = 0 ∧ sz' = sz ∧ sz'' = sz ∧ off + len ≤ n) ∧ K ({ s with bx := put s.bx k (.box v') }.put d (.int .i64 (min ys.length len : Nat)))
  | _ => False
def cpB (s : St) (d : Option Nat) (sz : Nat) (ys : List PV) (K : St → Prop) (k : Nat) (pth : List Step) (off len tot sz' : Nat) : Blk → Prop
  | .arr sz'' l => (tot = l.length ∧ pth = [] ∧ sz' = sz ∧ sz'' = sz ∧ off + len ≤ l.length) ∧ K ({ s with bx := put s.bx k (.arr sz (l.take off ++ ys.take (min ys.length len) ++ l.drop (off + min ys.length len))) }.put d (.int .i64 (min ys.length len : Nat)))
  | .box v => optK (getP v pth) (cpA s d sz ys K k v pth off len tot sz')
  | .map .. => False
def cpP (s : St) (d : Option Nat) (sz : Nat) (ys : List PV) (K : St → Prop) : PV → Prop
  | .rs k pth off len tot sz' _ => optK (get s.bx k) (cpB s d sz ys K k pth off len tot sz')
  | _ => False
def cpQ (s : St) (d : Option Nat) (sz : Nat) (p : PV) (K : St → Prop) : PV → Prop
  | .str bs => sz = 1 ∧ cpP s d sz (bs.map u8) K p
  | q => conK s (fun sz' ys => (ys = [] ∨ sz' = sz) ∧ cpP s d sz ys K p) q
theorem exCopy_eq (d : Option Nat) (sz : Nat) (p : PV) (ys : List PV) (K : St → Prop) : exCopy s d sz p ys K = cpP s d sz ys K p := by
  cases p <;> try rfl
  rename_i k pth off len tot sz' c
  simp only [exCopy, cpP]
  generalize get s.bx k = o
  cases o with
  | none => rfl
  | some b =>
    cases b with
    | arr z l => rfl
    | box v =>
      simp only [optK, cpB]
      generalize getP v pth = o
      cases o with
      | none => rfl
      | some q =>
        cases q <;> simp only [cpA, optK]
        rename_i z n l
        generalize setP v pth (.ar z n (List.take off l ++ List.take (min ys.length len) ys ++ List.drop (off + min ys.length len) l)) = o
        cases o <;> rfl
    | map b ks vs l => rfl
@[simp ↓] theorem x_copy (d : Option Nat) (sz : Nat) (x y : AX) (K : St → Prop) : ex s d (.copy sz x y) K = vgk true (vx s x) fun p => vgk true (vx s y) fun q => cpQ s d sz p K q := by
  simp only [ex, x_vg]
  congr 1; funext p; congr 1; funext q
  cases q <;> simp only [cpQ, x_src, x_srcS, srcK, srcS, exCopy_eq]
@[simp ↓] theorem cpQ_sl (d : Option Nat) (sz : Nat) (p : PV) (K : St → Prop) (z : Nat) (l : List PV) (c : Bool) : cpQ s d sz p K (.sl z l c) = ((l = [] ∨ z = sz) ∧ cpP s d sz l K p) := _root_.id rfl
@[simp ↓] theorem cpP_rs (d : Option Nat) (sz : Nat) (ys : List PV) (K : St → Prop) (k : Nat) (pth : List Step) (off len tot sz' : Nat) (c : CapK) : cpP s d sz ys K (.rs k pth off len tot sz' c) = optK (get s.bx k) (cpB s d sz ys K k pth off len tot sz') := _root_.id rfl
@[simp ↓] theorem cpB_box (d : Option Nat) (sz : Nat) (ys : List PV) (K : St → Prop) (k : Nat) (pth : List Step) (off len tot sz' : Nat) (v : PV) : cpB s d sz ys K k pth off len tot sz' (.box v) = optK (getP v pth) (cpA s d sz ys K k v pth off len tot sz') := _root_.id rfl
@[simp ↓] theorem cpA_ar (d : Option Nat) (sz : Nat) (ys : List PV) (K : St → Prop) (k : Nat) (v : PV) (pth : List Step) (off len tot sz' z n : Nat) (l : List PV) : cpA s d sz ys K k v pth off len tot sz' (.ar z n l) = optK (setP v pth (.ar z n (l.take off ++ ys.take (min ys.length len) ++ l.drop (off + min ys.length len)))) fun v' => (tot = 0 ∧ sz' = sz ∧ z = sz ∧ off + len ≤ n) ∧ K ({ s with bx := put s.bx k (.box v') }.put d (.int .i64 (min ys.length len : Nat))) := _root_.id rfl
@[simp ↓] theorem x_mkMap (k : Nat) (ks vs : Sh) (K : St → Prop) : ex s (some k) (.mkMap ks vs) K = (get s.bx k = none ∧ ∀ b : Nat, K { env := put s.env k (.mp k b), bx := put s.bx k (.map b ks vs []) }) := _root_.id rfl
def mgB (s : St) (d : Option Nat) (ks vs : Sh) (z : PV) (ok : Bool) (p : PV) (b : Nat) (K : St → Prop) : Blk → Prop
  | .map b' ks' vs' l => (b' = b ∧ ks' = ks ∧ vs' = vs ∧ fits ks p = true) ∧ K (s.put d (if ok = true then .tup [(lkp p l).getD z, .bl (lkp p l).isSome] else (lkp p l).getD z))
  | _ => False
def mgP (s : St) (d : Option Nat) (ks vs : Sh) (z : PV) (ok : Bool) (p : PV) (K : St → Prop) : PV → Prop
  | .mp k b => optK (get s.bx k) (mgB s d ks vs z ok p b K)
  | _ => False
@[simp ↓] theorem x_mapGet (d : Option Nat) (ks vs : Sh) (z : PV) (ok : Bool) (m x : AX) (K : St → Prop) : ex s d (.mapGet ks vs z ok m x) K = vgk true (vx s m) fun pm => vgk true (vx s x) fun p => mgP s d ks vs z ok p K pm := by
  simp only [ex, x_vg]
  congr 1; funext pm; congr 1; funext p
  cases pm <;> try rfl
  rename_i k b
  simp only [mgP]
  cases get s.bx k with
  | none => rfl
  | some x => cases x <;> rfl
@[simp ↓] theorem mgP_mp (d : Option Nat) (ks vs : Sh) (z : PV) (ok : Bool) (p : PV) (K : St → Prop) (k b : Nat) : mgP s d ks vs z ok p K (.mp k b) = optK (get s.bx k) (mgB s d ks vs z ok p b K) := _root_.id rfl
@[simp ↓] theorem mgB_map (d : Option Nat) (ks vs : Sh) (z : PV) (ok : Bool) (p : PV) (b : Nat) (K : St → Prop) (b' : Nat) (ks' vs' : Sh) (l : List (PV × PV)) : mgB s d ks vs z ok p b K (.map b' ks' vs' l) = ((b' = b ∧ ks' = ks ∧ vs' = vs ∧ fits ks p = true) ∧ K (s.put d (if ok = true then .tup [(lkp p l).getD z, .bl (lkp p l).isSome] else (lkp p l).getD z))) := _root_.id rfl
def msB (s : St) (d : Option Nat) (ks vs : Sh) (p v : PV) (k b : Nat) (K : St → Prop) : Blk → Prop
  | .map b' ks' vs' l => (d = none ∧ b' = b ∧ ks' = ks ∧ vs' = vs ∧ fits ks p = true ∧ fits vs v = true) ∧ K { s with bx := put s.bx k (.map b' ks' vs' (mupd p v l)) }
  | _ => False
def msP (s : St) (d : Option Nat) (ks vs : Sh) (p v : PV) (K : St → Prop) : PV → Prop
  | .mp k b => optK (get s.bx k) (msB s d ks vs p v k b K)
  | _ => False
@[simp ↓] theorem x_mapSet (d : Option Nat) (ks vs : Sh) (m x y : AX) (K : St → Prop) : ex s d (.mapSet ks vs m x y) K = vgk true (vx s m) fun pm => vgk true (vx s x) fun p => vgk true (vx s y) fun v => msP s d ks vs p v K pm := by
  simp only [ex, x_vg]
  congr 1; funext pm; congr 1; funext p; congr 1; funext v
  cases pm <;> try rfl
  rename_i k b
  simp only [msP]
  cases get s.bx k with
  | none => rfl
  | some x => cases x <;> rfl
@[simp ↓] theorem msP_mp (d : Option Nat) (ks vs : Sh) (p v : PV) (K : St → Prop) (k b : Nat) : msP s d ks vs p v K (.mp k b) = optK (get s.bx k) (msB s d ks vs p v k b K) := _root_.id rfl
@[simp ↓] theorem msB_map (d : Option Nat) (ks vs : Sh) (p v : PV) (k b : Nat) (K : St → Prop) (b' : Nat) (ks' vs' : Sh) (l : List (PV × PV)) : msB s d ks vs p v k b K (.map b' ks' vs' l) = ((d = none ∧ b' = b ∧ ks' = ks ∧ vs' = vs ∧ fits ks p = true ∧ fits vs v = true) ∧ K { s with bx := put s.bx k (.map b' ks' vs' (mupd p v l)) }) := _root_.id rfl
end Go.Ab
namespace Go.Ab
variable [Tabs]
variable {P : Program} {Γ Δ : Cx}
mutual
def noSl : PV → Bool
  | .sl _ l _ => l.isEmpty
  | .fp .. | .fn .. | .ifc .. | .gd .. | .tup _ => false
  | .st _ l => noSlL l
  | .ar _ _ l => noSlL l
  | _ => true
def noSlL : List PV → Bool
  | [] => true
  | p :: r => noSl p && noSlL r
end
def noSlT : PV → Bool
  | .tup l => noSlL l
  | p => noSl p
theorem noSlT_of {p : PV} (h : noSl p = true) : noSlT p = true := by
  cases p <;> first | exact h | simp [noSl] at h
def noSlB : Blk → Bool
  | .box v => noSl v
  | .arr _ l => noSlL l
  | .map .. => true
structure Kin (ρ : Nat → Nat) (Γ Δ : Cx) : Prop where
  heap : Δ.heap = Γ.heap
  ref : ∀ k blk, get Γ.bx k = some blk → ∃ blk', get Δ.bx (ρ k) = some blk' ∧ blk'.tot = blk.tot ∧ Δ.ι (ρ k) = Γ.ι k
theorem renL_map (ρ : Nat → Nat) : ∀ l : List PV, renL ρ l = l.map (Ab.ren ρ)
  | [] => rfl
  | p :: l => by simp [renL, renL_map ρ l]
theorem RepL.kin {ρ : Nat → Nat} (hs : Kin ρ Γ Δ) {l : List PV} {cs : List Value} (h : RepL Γ l cs) : noSlL l = true → RepL Δ (renL ρ l) cs := by
  induction h with
  | nil => intro _; exact .nil
  | un h hr ih => intro hf; simp only [noSlL, Bool.and_eq_true] at hf; exact .un h (ih hf.2)
  | bl x hr ih => intro hf; simp only [noSlL, Bool.and_eq_true] at hf; exact .bl x (ih hf.2)
  | int k n hr ih => intro hf; simp only [noSlL, Bool.and_eq_true] at hf; exact .int k n (ih hf.2)
  | str l s h hr ih => intro hf; simp only [noSlL, Bool.and_eq_true] at hf; exact .str l s h (ih hf.2)
  | st w l hl hw hr ihl ih => intro hf; simp only [noSlL, noSl, Bool.and_eq_true] at hf; exact .st w _ (ihl hf.1) hw (ih hf.2)
  | ar sz n l hl hn hw hr ihl ih =>
    intro hf; simp only [noSlL, noSl, Bool.and_eq_true] at hf
    refine .ar sz n _ (ihl hf.1) (by rw [renL_length]; exact hn) ?_ (ih hf.2)
    intro x hx
    rw [renL_map] at hx
    obtain ⟨y, hy, rfl⟩ := List.mem_map.1 hx
    rw [ren_width]; exact hw y hy
  | sl sz l clip a rcap hl hw hc hk hb hr ihl ih =>
    intro hf; simp only [noSlL, noSl, Bool.and_eq_true, List.isEmpty_iff] at hf
    obtain ⟨rfl, hf2⟩ := hf
    cases hl
    exact .sl sz [] clip a rcap .nil (by simp) hc hk (fun h => absurd rfl h) (ih hf2)
  | rs k p off len tot sz c v blk hg h1 hv hr ih =>
    intro hf; simp only [noSlL, noSl, Bool.and_eq_true] at hf
    obtain ⟨blk', g1, g2, g3⟩ := hs.ref k blk hg.1
    refine .rs (ρ k) p off len tot sz c v blk' ⟨g1, by rw [g2]; exact hg.2⟩ h1 (fun ht => ?_) (ih hf.2)
    obtain ⟨a, rcap, e1, e2⟩ := hv (by rw [ht, g2])
    exact ⟨a, rcap, e1, e2.ren g3 hs.heap⟩
  | np hr ih => intro hf; simp only [noSlL, Bool.and_eq_true] at hf; exact .np (ih hf.2)
  | pt k p tot v blk hg h1 hv hr ih =>
    intro hf; simp only [noSlL, noSl, Bool.and_eq_true] at hf
    obtain ⟨blk', g1, g2, g3⟩ := hs.ref k blk hg.1
    refine .pt (ρ k) p tot v blk' ⟨g1, by rw [g2]; exact hg.2⟩ h1 (fun ht => ?_) (ih hf.2)
    obtain ⟨b, e1, e2⟩ := hv (by rw [ht, g2])
    exact ⟨b, by rw [g3, e1], e2⟩
  | fp => intro hf; simp [noSlL, noSl] at hf
  | fn => intro hf; simp [noSlL, noSl] at hf
  | nf hr ih => intro hf; simp only [noSlL, Bool.and_eq_true] at hf; exact .nf (ih hf.2)
  | ifc => intro hf; simp [noSlL, noSl] at hf
  | ni hr ih => intro hf; simp only [noSlL, Bool.and_eq_true] at hf; exact .ni (ih hf.2)
  | mp k b hr ih => intro hf; simp only [noSlL, Bool.and_eq_true] at hf; exact .mp k b (ih hf.2)
theorem RepL.kin1 {ρ : Nat → Nat} (hs : Kin ρ Γ Δ) {p : PV} {cs : List Value} (h : RepL Γ [p] cs) (hf : noSl p = true) : RepL Δ [Ab.ren ρ p] cs := by
  have := h.kin hs (by simp [noSlL, hf])
  simpa only [renL] using this
theorem RepV.kin {ρ : Nat → Nat} (hs : Kin ρ Γ Δ) {p : PV} {v : Value} (h : RepV Γ p v) (hf : noSl p = true) : RepV Δ (Ab.ren ρ p) v := by
  cases p
  case un => trivial
  case st w l => obtain ⟨cs, h1, h2⟩ := h; exact ⟨cs, h1, h2.kin1 hs hf⟩
  case ar sz n l => obtain ⟨cs, h1, h2⟩ := h; exact ⟨cs, h1, h2.kin1 hs hf⟩
  case gd => simp [noSl] at hf
  case tup => simp [noSl] at hf
  all_goals exact RepL.kin1 hs h hf
theorem RepV1.kin {ρ : Nat → Nat} (hs : Kin ρ Γ Δ) {p : PV} {v : Value} (h : RepV1 Γ p v) (hf : noSl p = true) : RepV1 Δ (Ab.ren ρ p) v := by
  cases p
  case un => trivial
  case st w l => obtain ⟨cs, h1, h2⟩ := h; exact ⟨cs, h1, h2.kin1 hs hf⟩
  case ar sz n l => obtain ⟨cs, h1, h2⟩ := h; exact ⟨cs, h1, h2.kin1 hs hf⟩
  all_goals exact RepL.kin1 hs h hf
theorem AllV.kin {ρ : Nat → Nat} (hs : Kin ρ Γ Δ) : ∀ {l : List PV} {vs : List Value}, AllV Γ l vs → noSlL l = true → AllV Δ (renL ρ l) vs
  | [], [], _, _ => trivial
  | [], _ :: _, h, _ => h.elim
  | _ :: _, [], h, _ => h.elim
  | p :: l, v :: vs, h, hf => by
    simp only [noSlL, Bool.and_eq_true] at hf
    exact ⟨h.1.kin hs hf.1, AllV.kin hs h.2 hf.2⟩
theorem RepV.kinT {ρ : Nat → Nat} (hs : Kin ρ Γ Δ) {p : PV} {v : Value} (h : RepV Γ p v) (hf : noSlT p = true) : RepV Δ (Ab.ren ρ p) v := by
  cases p
  case tup l =>
    obtain ⟨vs, h1, h2⟩ := h
    exact ⟨vs, h1, h2.kin hs hf⟩
  all_goals exact h.kin hs hf
def V0 (bx : List (Nat × Blk)) (p p' : PV) : Prop :=
  (p' = p ∧ refsOk (fun _ => false) p = true) ∨
  (∃ k pth off len tot sz c l, p = .rs k pth off len tot sz c ∧ content ⟨[], bx⟩ p (fun sz' l0 => sz' = sz ∧ l0 = l) ∧ refsOkL (fun _ => false) l = true ∧ 0 < sz ∧ p' = .sl sz l false)
def V0L (bx : List (Nat × Blk)) : List PV → List PV → Prop
  | [], [] => True
  | p :: r, p' :: r' => V0 bx p p' ∧ V0L bx r r'
  | _, _ => False
def V1 (bx : List (Nat × Blk)) (p p' : PV) : Prop :=
  V0 bx p p' ∨
  (∃ sz l l' c, p = .sl sz l c ∧ V0L bx l l' ∧ p' = .sl sz l' c) ∨
  (∃ k pth off len tot sz c l l', p = .rs k pth off len tot sz c ∧ content ⟨[], bx⟩ p (fun sz' l0 => sz' = sz ∧ l0 = l) ∧ V0L bx l l' ∧ 0 < sz ∧ p' = .sl sz l' false)
def V1L (bx : List (Nat × Blk)) : List PV → List PV → Prop
  | [], [] => True
  | p :: r, p' :: r' => V1 bx p p' ∧ V1L bx r r'
  | _, _ => False
def Cx.bare (Γ : Cx) : Cx := { heap := Γ.heap, ι := fun _ => none, bx := [], prot := fun _ => False }
theorem bare_ownV {b : Nat} : ¬ Γ.bare.own b := by
  rintro (⟨k, blk, h, _⟩ | h)
  · simp [Cx.bare, get] at h
  · exact h
theorem bare_memV (hm : Mem Γ) : Mem Γ.bare := by
  refine ⟨fun k blk h => ?_, fun i j b h => ?_, fun b h => h.elim, fun b h h2 => h2, fun b cs h => ⟨fun hb => bare_ownV (.inl hb), (hm.tab b cs h).2⟩⟩
  · simp [Cx.bare, get] at h
  · simp [Cx.bare, get] at h
theorem bare_same : Same (fun _ => false) id Γ Γ.bare := ⟨rfl, fun b _ _ => bare_ownV, fun k blk h => by simp at h⟩
theorem cell_lt {h : Array Obj} {b o : Nat} {v : Value} (e : cell h b o = some v) : b < h.size := by
  unfold cell at e
  split at e
  · rename_i c _ _ hb; exact (Array.getElem?_eq_some_iff.1 hb).1
  · simp at e
theorem simOf (Γ : Cx) (hm : Mem Γ) : Sim 0 [] ⟨[], Γ.bx⟩ Γ { tmps := #[], defers := [] } := ⟨rfl, rfl, rfl, fun k p h => by simp [get] at h, hm⟩
theorem rsV {k : Nat} {pth : List Step} {off len tot sz : Nat} {c : CapK} {l : List PV} {cs : List Value} (hm : Mem Γ) (hr : RepL Γ [.rs k pth off len tot sz c] cs)
    (hc : content ⟨[], Γ.bx⟩ (.rs k pth off len tot sz c) (fun sz' l0 => sz' = sz ∧ l0 = l)) : ∃ v ad rcap us, cs = [v] ∧ v = .slice ad l.length rcap ∧ RepL Γ l us ∧ (∀ x ∈ l, x.width = sz) ∧ l.length ≤ rcap ∧
      (l ≠ [] → ∃ b o, ad = some ⟨b, o, none⟩ ∧ ∀ i c, us[i]? = some c → cell Γ.heap b (o + i) = some c) := by
  obtain ⟨v, rfl⟩ : ∃ v, cs = [v] := by
    cases hr with
    | rs _ _ _ _ _ _ _ v _ _ _ _ hr => cases hr; exact ⟨v, rfl⟩
  obtain ⟨sz', l0, us, ad, rcap, ⟨rfl, rfl⟩, h2, h3, h4, h5, h6⟩ := content_rep (v := v) (simOf Γ hm) hc (by simpa only [RepV] using hr)
  exact ⟨v, ad, rcap, us, rfl, h2, h3, h6, h5, h4⟩
theorem V0.width {bx : List (Nat × Blk)} {p p' : PV} (h : V0 bx p p') : p'.width = p.width := by
  rcases h with ⟨rfl, _⟩ | ⟨k, pth, off, len, tot, sz, c, l, rfl, _, _, _, rfl⟩ <;> rfl
theorem bare_cells {l : List PV} {us : List Value} {sz : Nat} {ad : Option Addr} (hsz : 0 < sz) (h3 : RepL Γ l us) (h4 : ∀ x ∈ l, x.width = sz) (hne : l ≠ [])
    (h6 : ∃ b o, ad = some ⟨b, o, none⟩ ∧ ∀ i c, us[i]? = some c → cell Γ.heap b (o + i) = some c) :
    ∃ b o, ad = some ⟨b, o, none⟩ ∧ b < Γ.bare.heap.size ∧ ¬ Γ.bare.own b ∧ ∀ i c, us[i]? = some c → cell Γ.bare.heap b (o + i) = some c := by
  obtain ⟨b, o, e1, e2⟩ := h6
  have hlen : 0 < us.length := by
    rw [h3.length, widths_const h4]
    have : 0 < l.length := List.length_pos_iff.2 hne
    exact Nat.mul_pos this hsz
  exact ⟨b, o, e1, cell_lt (e2 0 _ (List.getElem?_eq_getElem hlen)), bare_ownV, e2⟩
theorem V0.rep {p p' : PV} {cs : List Value} (hm : Mem Γ) (h : V0 Γ.bx p p') (hr : RepL Γ [p] cs) : RepL Γ.bare [p'] cs := by
  rcases h with ⟨rfl, h⟩ | ⟨k, pth, off, len, tot, sz, c, l, rfl, hc, hl, hsz, rfl⟩
  · have := hr.ren1 bare_same h
    rwa [ren_id' h] at this
  · obtain ⟨v, ad, rcap, us, rfl, rfl, h3, h4, h5, h6⟩ := rsV hm hr hc
    have h3' := h3.ren bare_same hl
    rw [renL_id' hl] at h3'
    exact .sl sz l false ad rcap h3' h4 h5 (by simp) (fun hne => bare_cells hsz h3 h4 hne (h6 hne)) .nil
theorem V0L.rep (hm : Mem Γ) : ∀ {l l' : List PV} {cs : List Value}, V0L Γ.bx l l' → RepL Γ l cs → RepL Γ.bare l' cs
  | [], [], cs, _, hr => by cases hr; exact .nil
  | [], _ :: _, cs, h, _ => h.elim
  | _ :: _, [], cs, h, _ => h.elim
  | p :: r, p' :: r', cs, h, hr => by
    obtain ⟨c1, c2, rfl, h1, h2⟩ := RepL.split (ps := [p]) (qs := r) hr
    exact (h.1.rep hm h1).cons (V0L.rep hm h.2 h2)
theorem V0L.widths {bx : List (Nat × Blk)} {sz : Nat} : ∀ {l l' : List PV}, V0L bx l l' → (∀ x ∈ l, x.width = sz) → l'.length = l.length ∧ ∀ x ∈ l', x.width = sz
  | [], [], _, _ => ⟨rfl, by simp⟩
  | [], _ :: _, h, _ => h.elim
  | _ :: _, [], h, _ => h.elim
  | p :: r, p' :: r', h, hw => by
    obtain ⟨h1, h2⟩ := V0L.widths h.2 (fun x hx => hw x (by simp [hx]))
    refine ⟨by simp [h1], fun x hx => ?_⟩
    rcases List.mem_cons.1 hx with rfl | hx
    · rw [h.1.width]; exact hw p (by simp)
    · exact h2 x hx
theorem V1.rep {p p' : PV} {cs : List Value} (hm : Mem Γ) (h : V1 Γ.bx p p') (hr : RepL Γ [p] cs) : RepL Γ.bare [p'] cs := by
  rcases h with h | ⟨sz, l, l', c, rfl, hl, rfl⟩ | ⟨k, pth, off, len, tot, sz, c, l, l', rfl, hc, hl, hsz, rfl⟩
  · exact h.rep hm hr
  · cases hr with
    | sl sz l clip a rcap h1 hw h2 h3 hb hr =>
      cases hr
      obtain ⟨e1, e2⟩ := hl.widths hw
      rw [← e1]
      refine .sl sz l' c a rcap (V0L.rep hm hl h1) e2 (by rw [e1]; exact h2) (fun h => by rw [e1]; exact h3 h) (fun hne => ?_) .nil
      obtain ⟨b, o, f1, f2, _, f3⟩ := hb (fun h => hne (by rw [h] at e1; exact List.length_eq_zero_iff.1 e1))
      exact ⟨b, o, f1, f2, bare_ownV, f3⟩
  · obtain ⟨v, ad, rcap, us, rfl, rfl, h3, h4, h5, h6⟩ := rsV hm hr hc
    obtain ⟨e1, e2⟩ := hl.widths h4
    rw [← e1]
    refine .sl sz l' false ad rcap (V0L.rep hm hl h3) e2 (by rw [e1]; exact h5) (by simp) (fun hne => ?_) .nil
    have hne' : l ≠ [] := fun h => hne (by rw [h] at e1; exact List.length_eq_zero_iff.1 e1)
    exact bare_cells hsz h3 h4 hne' (h6 hne')
theorem V1.repV {p p' : PV} {v : Value} (hm : Mem Γ) (h : V1 Γ.bx p p') (hr : RepV Γ p v) : RepV Γ.bare p' v := by
  have h' := h
  rcases h with h | ⟨sz, l, l', c, rfl, hl, rfl⟩ | ⟨k, pth, off, len, tot, sz, c, l, l', rfl, hc, hl, hsz, rfl⟩
  · rcases h with ⟨rfl, h⟩ | ⟨k, pth, off, len, tot, sz, c, l, rfl, hc, hl, hsz, rfl⟩
    · have := hr.ren bare_same h
      rwa [ren_id' h] at this
    · have := V1.rep hm h' (by simpa only [RepV] using hr)
      simpa only [RepV] using this
  · have := V1.rep hm h' (by simpa only [RepV] using hr)
    simpa only [RepV] using this
  · have := V1.rep hm h' (by simpa only [RepV] using hr)
    simpa only [RepV] using this
theorem V1L.repV (hm : Mem Γ) : ∀ {l l' : List PV} {vs : List Value}, V1L Γ.bx l l' → AllR Γ l vs → AllR Γ.bare l' vs
  | [], [], [], _, _ => trivial
  | [], [], _ :: _, _, h => h.elim
  | [], _ :: _, _, h, _ => h.elim
  | _ :: _, [], _, h, _ => h.elim
  | _ :: _, _ :: _, [], _, h => h.elim
  | p :: r, p' :: r', v :: vs, h, hr => ⟨h.1.repV hm hr.1, V1L.repV hm h.2 hr.2⟩
theorem ACalls.view {f : FuncId} {args args' : List PV} {fp : List Blk} {R : PV → List Blk → Prop} (hA : ACalls P f args' [] R) (hv : V1L (fpBx 0 fp) args args')
    (hR : ∀ r new, R r new → noSlT r = true ∧ new.all noSlB = true) :
    ACalls P f args fp (fun r fp' => ∃ r0 new, R r0 new ∧ r = ren (· + fp.length) r0 ∧ fp' = fp ++ new.map (renB (· + fp.length))) := by
  intro Γ w vs h1 h2 h3 h4
  rw [← h3] at hv
  refine (hA Γ.bare w vs h1 (bare_memV h2) (by simp [Cx.bare, fpBx]) (hv.repV h2 h4)).mono ?_
  rintro e w' ⟨v, r, new, Γ', e1, e2, e3, e4, e5, e6, e7, e8⟩
  obtain ⟨g1, g2⟩ := hR r new e2
  have hheap : ∀ b, b < Γ.heap.size → Γ'.heap[b]? = Γ.heap[b]? := fun b hb => e7.heap b hb (fun h => bare_ownV (.inl h))
  have hnew : ∀ k blk b, get Γ'.bx k = some blk → Γ'.ι k = some b → Γ.heap.size ≤ b := by
    intro k blk b hk hb
    rcases Nat.lt_or_ge b Γ.heap.size with h | h
    · exact absurd (.inl (e7.mutb b h ⟨k, blk, hk, hb⟩)) bare_ownV
    · exact h
  let Δ : Cx := { heap := Γ'.heap, ι := fun k => if k < KB + fp.length then Γ.ι k else Γ'.ι (k - fp.length), bx := fpBx 0 (fp ++ new.map (renB (· + fp.length))), prot := Γ.prot }
  have hgold : ∀ k, k < KB + fp.length → get Δ.bx k = get Γ.bx k := by
    intro k hk
    simp only [Δ, h3, get_fpBx]
    split
    · rw [List.getElem?_append_left (by omega)]
    · rfl
  have hgnew : ∀ k, KB ≤ k → get Δ.bx (k + fp.length) = (get Γ'.bx k).map (renB (· + fp.length)) := by
    intro k hk
    simp only [Δ, e5, get_fpBx]
    rw [if_pos (show KB + 0 ≤ k + fp.length by omega), if_pos (show KB + 0 ≤ k by omega), List.getElem?_append_right (by omega), List.getElem?_map, show k + fp.length - KB - 0 - fp.length = k - KB - 0 by omega]
  have hle : Le Γ Δ := by
    refine ⟨fun b hb _ => hheap b hb, fun b hb h => ?_, rfl, e7.size, fun k blk hk => ?_⟩
    · obtain ⟨k, blk, f1, f2⟩ := h
      by_cases hkl : k < KB + fp.length
      · rw [hgold k hkl] at f1
        have f2' : Γ.ι k = some b := by simpa [Δ, hkl] using f2
        exact ⟨k, blk, f1, f2'⟩
      · exfalso
        have f2' : Γ'.ι (k - fp.length) = some b := by simpa [Δ, hkl] using f2
        have : get Δ.bx (k - fp.length + fp.length) = _ := hgnew (k - fp.length) (by omega)
        rw [show k - fp.length + fp.length = k by omega, f1] at this
        obtain ⟨b0, f3, _⟩ := Option.map_eq_some_iff.1 this.symm
        have := hnew _ _ _ f3 f2'
        omega
    · have hkl : k < KB + fp.length := by
        rw [h3, get_fpBx] at hk
        split at hk
        · have := (List.getElem?_eq_some_iff.1 hk).1; simp at this; omega
        · simp at hk
      refine ⟨blk, by rw [hgold k hkl]; exact hk, Nat.le_refl _, fun _ => ⟨by simp [Δ, hkl], fun b hb cs e hh => ⟨cs, ?_, rfl⟩⟩⟩
      show Γ'.heap[b]? = _
      rw [hheap b (h2.lt ⟨k, blk, hk, hb⟩)]; exact hh
  have hkin : Kin (· + fp.length) Γ' Δ := by
    refine ⟨rfl, fun k blk hk => ?_⟩
    have hkb : KB ≤ k := by
      rw [e5, get_fpBx] at hk
      split at hk
      · assumption
      · simp at hk
    refine ⟨renB (· + fp.length) blk, by rw [hgnew k hkb, hk]; rfl, renB_tot _ _, ?_⟩
    show (if k + fp.length < KB + fp.length then _ else _) = _
    rw [if_neg (by omega), Nat.add_sub_cancel]
  have hmem : Mem Δ := by
    refine ⟨fun k blk hk => ?_, fun i j b hi hj q1 q2 => ?_, fun b hb => Nat.lt_of_lt_of_le (h2.prot b hb) e7.size, fun b hb hp => ?_, h2.tab_le hle⟩
    · by_cases hkl : k < KB + fp.length
      · rw [hgold k hkl] at hk
        have := (h2.blk k blk hk).mono hle (fun b hb => hheap b (h2.lt ⟨k, blk, hk, hb⟩))
        have e : Δ.ι k = Γ.ι k := by simp [Δ, hkl]
        rw [e]; exact this
      · have hk2 := hgnew (k - fp.length) (by omega)
        rw [show k - fp.length + fp.length = k by omega, hk] at hk2
        obtain ⟨b0, f3, rfl⟩ := Option.map_eq_some_iff.1 hk2.symm
        have e : Δ.ι k = Γ'.ι (k - fp.length) := by simp [Δ, hkl]
        rw [e]
        have hb0 : noSlB b0 = true := by
          rw [e5, get_fpBx] at f3
          split at f3
          · exact List.all_eq_true.1 g2 b0 (List.mem_of_getElem? f3)
          · simp at f3
        have := e4.blk _ _ f3
        cases b0 with
        | box v =>
          obtain ⟨b, c, e, q1, q2, q3⟩ := this
          exact ⟨b, c, e, q1, q2, q3.kin1 hkin hb0⟩
        | arr sz l =>
          obtain ⟨q1, q2, q3⟩ := this
          refine ⟨fun x hx => ?_, q2, ?_⟩
          · rw [renL_map] at hx
            obtain ⟨y, hy, rfl⟩ := List.mem_map.1 hx
            rw [ren_width]; exact q1 y hy
          · cases hι : Γ'.ι (k - fp.length) with
            | none => trivial
            | some b =>
              rw [hι] at q3
              obtain ⟨c, e, cs, rest, r1, r2, r3⟩ := q3
              exact ⟨c, e, cs, rest, r1, r2, r3.kin hkin hb0⟩
        | map b ks vs l => exact this
    · have key : ∀ k b, (get Δ.bx k).isSome = true → Δ.ι k = some b → (k < KB + fp.length ∧ (get Γ.bx k).isSome = true ∧ Γ.ι k = some b ∧ b < Γ.heap.size) ∨ (KB + fp.length ≤ k ∧ (get Γ'.bx (k - fp.length)).isSome = true ∧ Γ'.ι (k - fp.length) = some b ∧ Γ.heap.size ≤ b) := by
        intro k b hk hb
        by_cases hkl : k < KB + fp.length
        · left
          rw [hgold k hkl] at hk
          have hb' : Γ.ι k = some b := by simpa [Δ, hkl] using hb
          obtain ⟨blk, hblk⟩ := Option.isSome_iff_exists.1 hk
          exact ⟨hkl, hk, hb', h2.lt ⟨k, blk, hblk, hb'⟩⟩
        · right
          have hk2 := hgnew (k - fp.length) (by omega)
          rw [show k - fp.length + fp.length = k by omega] at hk2
          rw [hk2] at hk
          have hk3 : (get Γ'.bx (k - fp.length)).isSome = true := by simpa using hk
          have hb' : Γ'.ι (k - fp.length) = some b := by simpa [Δ, hkl] using hb
          obtain ⟨blk, hblk⟩ := Option.isSome_iff_exists.1 hk3
          exact ⟨by omega, hk3, hb', hnew _ _ _ hblk hb'⟩
      rcases key i b hi q1 with ⟨a1, a2, a3, a4⟩ | ⟨a1, a2, a3, a4⟩ <;> rcases key j b hj q2 with ⟨c1, c2, c3, c4⟩ | ⟨c1, c2, c3, c4⟩
      · exact h2.inj i j b a2 c2 a3 c3
      · omega
      · omega
      · have := e4.inj _ _ b a2 c2 a3 c3; omega
    · obtain ⟨k, blk, f1, f2⟩ := hb
      by_cases hkl : k < KB + fp.length
      · rw [hgold k hkl] at f1
        have f2' : Γ.ι k = some b := by simpa [Δ, hkl] using f2
        exact h2.apart b ⟨k, blk, f1, f2'⟩ hp
      · have f2' : Γ'.ι (k - fp.length) = some b := by simpa [Δ, hkl] using f2
        have hk2 := hgnew (k - fp.length) (by omega)
        rw [show k - fp.length + fp.length = k by omega, f1] at hk2
        obtain ⟨b0, f3, _⟩ := Option.map_eq_some_iff.1 hk2.symm
        have := hnew _ _ _ f3 f2'
        have := h2.prot b hp
        omega
  exact ⟨v, _, _, Δ, e1, ⟨r, new, e2, rfl, rfl⟩, e3, hmem, rfl, e6.kinT hkin g1, hle, e8⟩
end Go.Ab
