/- The checks of sessions and of fields. No condition. -/
import Derived.Test.YtjkfnhhekobfgaaGreatDoorB8
import Derived.Test.YtjkfnhhekobfgaaGreatDoorA5
import Derived.Lib.ItoaLen
set_option linter.all false
namespace Go.Ab
open Go.Ab
section
variable {P : Program} {s : St}
theorem callS.lend {d : Option Nat} {f : FuncId} {args args' : List PV} {v v' r r' : PV} {K : St → Prop} {t : Tg K} (k : Nat) (hb : get s.bx k = some (.box v)) (hA : ACalls P f args' [.box v] (fun x fp => x = r ∧ fp = [.box v']))
    (hargs : refsOkL (inKs [k]) args = true) (ha : renL (ren1 [k]) args = args') (hv : Pure v) (hv' : Pure v') (hr : refsOk (inFp 1) r = true) (hr' : ren (ren2 [k]) r = r')
    (h : K ({ s with bx := put s.bx k (.box v') }.put d r')) : callS P s d f args K t := by
  refine ⟨[k], [], [.box v], (fun x fp => x = r ∧ fp = [.box v']), by simp [getAll, hb], by simp, by simp, hargs, by simp [refsOkB, hv.refs], ?_, ?_⟩
  · rw [ha]; simp only [List.map_cons, List.map_nil, renB, hv.ren]; exact hA
  · rintro x fp ⟨rfl, rfl⟩
    refine ⟨⟨rfl, hr, by simp [refsOkB, hv'.refs]⟩, ?_⟩
    simpa [putAll, renB, hv'.ren, hr'] using h
end
theorem ring_ring_previous (r : Rng) : ACalls Pg I.ring_ring_previous [.pt KB [] 0] [.box (.st 231 [encR r])] (fun x fp => x = .pt KB [.f 0 0, .f 0 0] 0 ∧ fp = [.box (.st 231 [encR r])]) := by
  refine ACalls.intro T.ring_ring_previous (by simp [F.ring_ring_previous]) ?_
  simp [F.ring_ring_previous, argEnv, fpBx, encR]
  refine RetS.with [] [KB] ?_
  simp [fpKeys]
theorem ring_ring_current (r : Rng) : ACalls Pg I.ring_ring_current [.pt KB [] 0] [.box (.st 231 [encR r])] (fun x fp => x = .pt KB [.f 0 0, .f 1 77] 0 ∧ fp = [.box (.st 231 [encR r])]) := by
  refine ACalls.intro T.ring_ring_current (by simp [F.ring_ring_current]) ?_
  simp [F.ring_ring_current, argEnv, fpBx, encR]
  refine RetS.with [] [KB] ?_
  simp [fpKeys]
theorem ring_ring_next (r : Rng) : ACalls Pg I.ring_ring_next [.pt KB [] 0] [.box (.st 231 [encR r])] (fun x fp => x = .pt KB [.f 0 0, .f 2 154] 0 ∧ fp = [.box (.st 231 [encR r])]) := by
  refine ACalls.intro T.ring_ring_next (by simp [F.ring_ring_next]) ?_
  simp [F.ring_ring_next, argEnv, fpBx, encR]
  refine RetS.with [] [KB] ?_
  simp [fpKeys]
def plcs (k : Nat) : PV := .ar 1 3 [.fn (.func I.ring_ring_previous) [.pt k [] 0] [], .fn (.func I.ring_ring_current) [.pt k [] 0] [], .fn (.func I.ring_ring_next) [.pt k [] 0] []]
@[simp] theorem plcs_refs (k : Nat) (f : Nat → Bool) : refsOk f (plcs k) = f k := by simp [plcs, refsOk, refsOkL]
set_option maxRecDepth 10000 in
theorem ring_ring_places (r : Rng) : ACalls Pg I.ring_ring_places [.pt KB [] 0] [.box (.st 231 [encR r])] (fun x fp => x = plcs KB ∧ fp = [.box (.st 231 [encR r])]) := by
  refine ACalls.intro T.ring_ring_places (by simp [F.ring_ring_places]) ?_
  simp [F.ring_ring_places, argEnv, fpBx, zr, show ¬ KB = 2 by decide, show ∀ f a b, (PV.fn f a b).width = 1 from fun _ _ _ => rfl, show PV.nf.width = 1 from rfl]
  refine RetS.with [] [KB] ?_
  simp [fpKeys, plcs, show ¬ 2 = KB by decide, refsOk, refsOkL, refsOkB, ren, renL, renB]
set_option maxRecDepth 10000 in
set_option maxHeartbeats 1000000 in
theorem ring_Get (r : Rng) {k : Nat} (h : k = 1 ∨ k = 2 ∨ k = 3) : ARet Pg I.ring_Get [encR r, .int .i64 k] (encP (getR r k)) := by
  refine ACalls.intro T.ring_Get (by simp [F.ring_Get]) ?_
  rcases h with rfl | rfl | rfl
  · simp [F.ring_Get, argEnv, fpBx]
    refine callS.lend 9 (by simp) (ring_ring_places r) (by simp) (by simp) (by simp) (by simp) (by simp [plcs, refsOk, refsOkL, inFp]) (r' := plcs 9) (by simp [plcs, ren, renL, ren2]) ?_
    simp [plcs, show zr 3 PV.nf = [.nf, .nf, .nf] from rfl, show ∀ f a b, (PV.fn f a b).width = 1 from fun _ _ _ => rfl, show PV.nf.width = 1 from rfl]
    refine callS.lend 9 (by simp) (ring_ring_previous r) (by simp) (by simp) (by simp) (by simp) (by simp [refsOk, inFp]) (r' := .pt 9 [.f 0 0, .f 0 0] 0) (by simp [ren, ren2]) ?_
    simp [encR]
    refine RetS.plain [] ?_
    simp [getR]
  · simp [F.ring_Get, argEnv, fpBx]
    refine callS.lend 9 (by simp) (ring_ring_places r) (by simp) (by simp) (by simp) (by simp) (by simp [plcs, refsOk, refsOkL, inFp]) (r' := plcs 9) (by simp [plcs, ren, renL, ren2]) ?_
    simp [plcs, show zr 3 PV.nf = [.nf, .nf, .nf] from rfl, show ∀ f a b, (PV.fn f a b).width = 1 from fun _ _ _ => rfl, show PV.nf.width = 1 from rfl]
    refine callS.lend 9 (by simp) (ring_ring_current r) (by simp) (by simp) (by simp) (by simp) (by simp [refsOk, inFp]) (r' := .pt 9 [.f 0 0, .f 1 77] 0) (by simp [ren, ren2]) ?_
    simp [encR]
    refine RetS.plain [] ?_
    simp [getR]
  · simp [F.ring_Get, argEnv, fpBx]
    refine callS.lend 9 (by simp) (ring_ring_places r) (by simp) (by simp) (by simp) (by simp) (by simp [plcs, refsOk, refsOkL, inFp]) (r' := plcs 9) (by simp [plcs, ren, renL, ren2]) ?_
    simp [plcs, show zr 3 PV.nf = [.nf, .nf, .nf] from rfl, show ∀ f a b, (PV.fn f a b).width = 1 from fun _ _ _ => rfl, show PV.nf.width = 1 from rfl]
    refine callS.lend 9 (by simp) (ring_ring_next r) (by simp) (by simp) (by simp) (by simp) (by simp [refsOk, inFp]) (r' := .pt 9 [.f 0 0, .f 2 154] 0) (by simp [ren, ren2]) ?_
    simp [encR]
    refine RetS.plain [] ?_
    simp [getR]
set_option maxRecDepth 10000 in
theorem iSession_t {d : Dmn} {s : Ses} (h : SesOk d s) : ARet Pg I.rules_Session [encD d, encS s] (.bl true) := by
  refine ACalls.intro T.rules_Session (by simp [F.rules_Session]) ?_
  have h1 := h.fe
  have h2 := h.n1
  simp [F.rules_Session, argEnv, fpBx]
  refine callS.ret (iwithin_t h.b0 h.b1) (by simp) (by simp) (by simp) ?_
  rcases h.wi with hw | ⟨w, hu, hw⟩
  · simp [h1, h2, hw, zWn, widths]
    refine ⟨rfl, ?_⟩
    refine RetS.plain [] ?_
    simp
    rfl
  · simp [h1, h2, hw, encW, wP, widths, hu]
    refine RetS.plain [] ?_
    simp
set_option maxRecDepth 10000 in
theorem isessions1_t {d : Dmn} {p : Per} (h : PerOk d p) : ACalls Pg I.rules_sessions_1 [encPe p, .pt KB [] 0] [.box (encD d)] (fun r fp => r = .bl true ∧ fp = [.box (encD d)]) := by
  refine ACalls.intro T.rules_sessions_1 (by simp [F.rules_sessions_1]) ?_
  have hg : ∀ i, i < 3 → PlcOk d (getR p.ring (i + 1)) := by
    intro i hi
    rcases (by omega : i = 0 ∨ i = 1 ∨ i = 2) with rfl | rfl | rfl
    · exact h.rp
    · exact h.rc
    · exact h.rn
  have hb := beq_encP zPlc
  have hf := fits_encP zPlc
  simp [F.rules_sessions_1, argEnv, fpBx]
  refine LpS.rng 3 (fun _ => True) [1, 2, 3, 4] (fun i => [(4, .int .i64 ((i : Int) + 1))]) (fun i => []) [.keep [1, 2, 3, 4]] ?_
  simp
  refine ⟨fun i hi K hK => ?_, fun K => ?_⟩
  · have hi3 : (i : Int) + 1 ≤ 3 := by omega
    have hw : IntKind.i64.wrap ((i : Int) + 1 + 1) = (i : Int) + 1 + 1 := wrap_i64 (by omega)
    have hget := ring_Get p.ring (k := i + 1) (by omega)
    rw [show ((i + 1 : Nat) : Int) = (i : Int) + 1 by omega] at hget
    have hp := hg i hi
    generalize getR p.ring (i + 1) = q at *
    simp [F.rules_sessions_1l0, hi, hi3]
    refine callS.ret hget (by simp) (by simp) (by simp) ?_
    rcases hp with ⟨h1, h2⟩ | ⟨h1, h2⟩
    · simp [h1]
      refine callS.ret (iSession_t h2) (by simp) (by simp) (by simp) ?_
      simp [h1, hw]
      refine ⟨[.keep [1, 2, 3, 4], .dr 5], ?_⟩
      simp
      exact hK _ (by simp)
    · have h0 : zPlc.has = false := rfl
      have hb2 : PV.beq (encP zPlc) (.st 77 [(.bl false), (.st 76 [(.int .u32 0), (.int .u32 0), (.ar 1 32 (zr 32 (.int .u8 0))), (.ar 1 32 (zr 32 (.int .u8 0))), (.int .u64 0), (.int .u64 0), (.st 6 [(.bl false), (.int .u64 0), (.ar 1 4 (zr 4 (.int .u64 0)))]), (.int .i64 0), (.bl false)])]) = true := beq_encP zPlc
      simp [h2, h0, hw, hb2]
      refine ⟨hf, [.keep [1, 2, 3, 4], .dr 5], ?_⟩
      simp
      exact hK _ (by simp)
  · simp [F.rules_sessions_1l0, F.rules_sessions_1c1]
    refine RetS.with [] [KB] ?_
    simp [refsOkB, (pure_encD d).refs, renB, (pure_encD d).ren]
set_option maxRecDepth 10000 in
theorem isessions_t {d : Dmn} (h : VD d) : ARet Pg I.rules_sessions [encD d] (.bl true) := by
  refine ACalls.intro T.rules_sessions (by simp [F.rules_sessions]) ?_
  have hl := h.pks.1
  simp [F.rules_sessions, argEnv, fpBx]
  refine callS.gen [1] [] [.box (encD d)] (every_t (d := d) (h := I.rules_sessions_1) (by omega) (fun p hp => isessions1_t (h.per p hp))) (by simp [getAll]) (by simp) (by simp) (by simp [refsOkL, refsOk, inKs, idx, (pure_encD d).refs]) (by simp [refsOkB, (pure_encD d).refs]) (by simp [renL, ren, ren1, idx, (pure_encD d).ren]) (by simp [renB, (pure_encD d).ren]) (by simp [refsOkB, refsOk, (pure_encD d).refs]) ?_
  simp [putAll, renB, ren, ren2, (pure_encD d).ren]
  refine RetS.plain [] ?_
  simp
end Go.Ab
namespace Go.Ab
open Go.Ab
theorem z4 {a : Adr} (h : ZFrom a 4) : ∃ b0 b1 b2 b3, a.ip = [b0, b1, b2, b3, 0, 0, 0, 0, 0, 0, 0, 0, 0, 0, 0, 0] := by
  obtain ⟨x, l, hl⟩ := a
  simp only [ZFrom] at h
  match l, hl with
  | [b0, b1, b2, b3, b4, b5, b6, b7, b8, b9, b10, b11, b12, b13, b14, b15], _ =>
    have h4 := h 4 (by omega) (by omega)
    have h5 := h 5 (by omega) (by omega)
    have h6 := h 6 (by omega) (by omega)
    have h7 := h 7 (by omega) (by omega)
    have h8 := h 8 (by omega) (by omega)
    have h9 := h 9 (by omega) (by omega)
    have h10 := h 10 (by omega) (by omega)
    have h11 := h 11 (by omega) (by omega)
    have h12 := h 12 (by omega) (by omega)
    have h13 := h 13 (by omega) (by omega)
    have h14 := h 14 (by omega) (by omega)
    have h15 := h 15 (by omega) (by omega)
    simp at h4 h5 h6 h7 h8 h9 h10 h11 h12 h13 h14 h15
    subst h4 h5 h6 h7 h8 h9 h10 h11 h12 h13 h14 h15
    exact ⟨_, _, _, _, rfl⟩
set_option maxRecDepth 10000 in
theorem innervalid_t {a : Adr} (h : ZFrom a 4) : ARet Pg I.inner_valid [encA a] (.bl true) := by
  refine ACalls.intro T.inner_valid (by simp [F.inner_valid]) ?_
  simp [F.inner_valid, argEnv, fpBx]
  have he : encA_s1 a (PV.ar 1 16 (List.take 4 (List.map u8 a.ip) ++ PV.int IntKind.u8 0 :: PV.int IntKind.u8 0 :: PV.int IntKind.u8 0 :: PV.int IntKind.u8 0 :: PV.int IntKind.u8 0 :: PV.int IntKind.u8 0 :: PV.int IntKind.u8 0 :: PV.int IntKind.u8 0 :: PV.int IntKind.u8 0 :: PV.int IntKind.u8 0 :: PV.int IntKind.u8 0 :: PV.int IntKind.u8 0 :: List.drop 16 (List.map u8 a.ip))) = encA a := by
    obtain ⟨b0, b1, b2, b3, e⟩ := z4 h
    simp [encA_s1, encA, e, u8]
  rw [he]
  have hf := fits_encA a
  have hb := beq_encA a
  refine ⟨by simp, hf, ?_⟩
  refine RetS.plain [] ?_
  simp [hb]
theorem and255' : ∀ n : Fin 256, bits .and .u8 (n.val : Int) 255 = (n.val : Int) := by decide +kernel
theorem and255 (b : UInt8) : bits .and .u8 (b.toNat : Int) 255 = (b.toNat : Int) := and255' ⟨b.toNat, b.toNat_lt⟩
theorem nq8 : bits .xor .u8 (if IntKind.u8.signed = true then -1 else IntKind.u8.max) (Int.fdiv 255 (2 ^ min 8 IntKind.u8.bits)) = 255 := by decide +kernel
theorem nq0 : bits .xor .u8 (if IntKind.u8.signed = true then -1 else IntKind.u8.max) 255 = 0 := by decide +kernel
set_option maxRecDepth 10000 in
theorem innercut_t {a : Adr} {k : Nat} (h : ZFrom a k) (hk : k ≤ 16) : ARet Pg I.inner_cut [encA a, .int .i64 (8 * (k : Int))] (encA a) := by
  refine ACalls.intro T.inner_cut (by simp [F.inner_cut]) ?_
  simp [F.inner_cut, argEnv, fpBx]
  refine LpS.rng 16 (fun _ => True) [1, 2, 4, 7] (fun i => [(7, .int .i64 i)]) (fun i => []) [.keep [1, 2, 4, 7]] ?_
  simp
  refine ⟨fun i hi K hK => ?_, fun K => ?_⟩
  · have hi' : i < a.ip.length := by rw [a.h]; exact hi
    have hx : a.ip[i]? = some a.ip[i] := List.getElem?_eq_getElem hi'
    have hw : IntKind.i64.wrap ((i : Int) + 1) = (i : Int) + 1 := wrap_i64 (by omega)
    have hw1 : IntKind.i64.wrap (8 * (i : Int)) = 8 * (i : Int) := wrap_i64 (by omega)
    have hw2 : IntKind.i64.wrap (8 * (k : Int) - 8 * (i : Int)) = 8 * (k : Int) - 8 * (i : Int) := wrap_i64 (by omega)
    have hi2 : (i : Int) < 16 := by omega
    have hs : (a.ip.map u8).set i (.int .u8 (a.ip[i].toNat : Int)) = a.ip.map u8 := set_same (by simp [hx, u8])
    by_cases hik : i < k
    · have hm : min (max (8 * (k : Int) - 8 * (i : Int)) 0) 8 = 8 := by omega
      simp [F.inner_cutl0, hi2, hx, hw, hw1, hw2, hm, u8]
      refine ⟨[.keep [1, 2, 4, 7]], ?_⟩
      simp only [nq8, and255, hs, encA_s1_f]
      simp
      exact hK _ (by simp)
    · have hm : min (max (8 * (k : Int) - 8 * (i : Int)) 0) 8 = 0 := by omega
      have hz : a.ip[i] = 0 := by have h9 := h i (by omega) (by omega); rw [hx] at h9; exact Option.some.inj h9
      rw [hz] at hs
      have hq : bits .and .u8 0 0 = 0 := rfl
      have hq2 : ((0 : UInt8).toNat : Int) = 0 := rfl
      rw [hq2] at hs
      simp [F.inner_cutl0, hi2, hx, hw, hw1, hw2, hm, u8, hz]
      refine ⟨[.keep [1, 2, 4, 7]], ?_⟩
      simp only [nq0, hq, hs, encA_s1_f]
      simp
      exact hK _ (by simp)
  · simp [F.inner_cutl0, F.inner_cutc1]
    refine RetS.plain [] ?_
    simp
set_option maxRecDepth 10000 in
theorem innerValid_n {a : Adr} {k : Nat} (h : ZFrom a k) (h6 : a.six = false) (hk : k ≤ 4) {n : Int} (hn : n = 8 * (k : Int)) : ARet Pg I.inner_Valid [encX ⟨a, n⟩] (.bl true) := by
  refine ACalls.intro T.inner_Valid (by simp [F.inner_Valid]) ?_
  have hf := fits_encA a
  have hb := beq_encA a
  have h32 : n ≤ 32 := by omega
  have h0 : 0 ≤ n := by omega
  have hc := innercut_t h (by omega)
  rw [← hn] at hc
  simp [F.inner_Valid, argEnv, fpBx, h6]
  refine callT.ret (innervalid_t (h.mono hk)) (by simp) (by simp) (by simp) ?_
  simp [h32, h0]
  refine callT.ret hc (by simp) (by simp) (by simp) ?_
  simp [hf]
  refine RetS.plain [] ?_
  simp [hb]
theorem innerValid_t {a : Adr} {k : Nat} (h : ZFrom a k) (h6 : a.six = false) (hk : k ≤ 4) : ARet Pg I.inner_Valid [encX ⟨a, 8 * (k : Int)⟩] (.bl true) := innerValid_n h h6 hk rfl
set_option maxRecDepth 10000 in
theorem configvalid_t {a : Adr} (h : ZFrom a 4) (h6 : a.six = false) : ARet Pg I.config_valid [encA a] (.bl true) := by
  refine ACalls.intro T.config_valid (by simp [F.config_valid]) ?_
  have hv := innerValid_t (k := 4) h h6 (by omega)
  have he : (.st 18 [encA a, .int .i64 32] : PV) = encX ⟨a, 8 * ((4 : Nat) : Int)⟩ := rfl
  simp [F.config_valid, argEnv, fpBx, h6, widths]
  rw [he]
  refine callS.ret hv (by simp) (by simp) (by simp) ?_
  simp
  refine RetS.plain [] ?_
  simp
end Go.Ab
namespace Go.Ab
open Go.Ab
theorem v1l_id {bx : List (Nat × Blk)} : ∀ {l : List PV}, refsOkL (fun _ => false) l = true → V1L bx l l
  | [], _ => trivial
  | p :: r, h => by
    simp only [refsOkL, Bool.and_eq_true] at h
    exact ⟨.inl (.inl ⟨rfl, h.1⟩), v1l_id h.2⟩
theorem view1 {f : FuncId} {sz : Nat} {xs rest : List PV} {v : PV} (hA : ARet Pg f (.sl sz xs false :: rest) v) (hsz : 0 < sz) (hw : ∀ x ∈ xs, x.width = sz) (hx : refsOkL (fun _ => false) xs = true) (hr : refsOkL (fun _ => false) rest = true)
    (hv : noSl v = true) (hvp : Pure v) : ACalls Pg f (.rs KB [] 0 xs.length xs.length sz .tip :: rest) [.arr sz xs] (fun r fp => r = v ∧ fp = [.arr sz xs]) := by
  have h := ACalls.view (args := .rs KB [] 0 xs.length xs.length sz .tip :: rest) (fp := [.arr sz xs]) hA ⟨.inl (.inr ⟨KB, [], 0, xs.length, xs.length, sz, .tip, xs, rfl, by simp [content, get, fpBx], hx, hsz, rfl⟩), v1l_id hr⟩ (fun r new e => by
    obtain ⟨rfl, rfl⟩ := e
    exact ⟨hv, rfl⟩)
  refine h.mono ?_
  rintro r fp' ⟨r0, new, ⟨rfl, rfl⟩, rfl, rfl⟩
  exact ⟨hvp.ren _, by simp⟩
theorem pureStr (l : List (List UInt8)) : PureL (l.map PV.str) := pureL_map (fun x => (by simp : Pure (PV.str x))) l
def itL (a : Adr) (n : Nat) : List (List UInt8) := (a.ip.take n).map (fun b => Lib.itoa (b.toNat : Int))
theorem itL_len {a : Adr} {n : Nat} (h : n ≤ 16) : (itL a n).length = n := by simp [itL, a.h]; omega
theorem itL_succ (a : Adr) {n : Nat} {b : UInt8} (h : a.ip[n]? = some b) : itL a (n + 1) = itL a n ++ [Lib.itoa (b.toNat : Int)] := by
  unfold itL
  rw [List.take_add_one, h]; simp
def txtA (a : Adr) : List UInt8 := Lib.join (itL a 4) [46]
theorem itL_cons (a : Adr) : ∃ x y z w : UInt8, itL a 4 = [Lib.itoa (x.toNat : Int), Lib.itoa (y.toNat : Int), Lib.itoa (z.toNat : Int), Lib.itoa (w.toNat : Int)] := by
  obtain ⟨x, l, hl⟩ := a
  match l, hl with
  | x :: y :: z :: w :: r, _ => exact ⟨x, y, z, w, rfl⟩
theorem txtA_len (a : Adr) : 1 ≤ (txtA a).length ∧ (txtA a).length ≤ 1000 := by
  obtain ⟨x, y, z, w, e⟩ := itL_cons a
  unfold txtA
  rw [e, Lib.join_length]
  have hx := x.toNat_lt
  have hy := y.toNat_lt
  have hz := z.toNat_lt
  have hw := w.toNat_lt
  have h1 := Lib.itoa_length_le (x.toNat : Int) (by omega) (by omega)
  have h2 := Lib.itoa_length_le (y.toNat : Int) (by omega) (by omega)
  have h3 := Lib.itoa_length_le (z.toNat : Int) (by omega) (by omega)
  have h4 := Lib.itoa_length_le (w.toNat : Int) (by omega) (by omega)
  simp [Lib.lens]
  omega
theorem txtA_ne (a : Adr) : txtA a ≠ [] := by
  intro h; have := (txtA_len a).1; rw [h] at this; simp at this
theorem txtA_le (a : Adr) : (txtA a).length ≤ 1000 := (txtA_len a).2
set_option maxRecDepth 10000 in
theorem iFormatAddr {a : Adr} (h : ZFrom a 4) (h6 : a.six = false) : ARet Pg I.config_FormatAddr [encA a] (.str (txtA a)) := by
  refine ACalls.intro T.config_FormatAddr (by simp [F.config_FormatAddr]) ?_
  simp [F.config_FormatAddr, argEnv, fpBx]
  refine callS.ret (configvalid_t h h6) (by simp) (by simp) (by simp) ?_
  simp [h6, F.config_FormatAddrc4]
  refine LpS.rng 4 (fun _ => True) [1, 2, 3, 36] (fun i => [(3, .rs 3 [] 0 i i 1 .tip), (36, .int .i64 i)]) (fun i => [(3, .arr 1 ((itL a i).map PV.str))]) [.keep [1, 2, 3, 36], .vt 3 3 1] ?_
  simp [show itL a 0 = [] from rfl]
  refine ⟨fun i hi K hK => ?_, fun K => ?_⟩
  · have hi2 : i < a.ip.length := by rw [a.h]; omega
    have hx : a.ip[i]? = some a.ip[i] := List.getElem?_eq_getElem hi2
    have hb := (a.ip[i]).toNat_lt
    have hw : IntKind.i64.wrap ((a.ip[i]).toNat : Int) = ((a.ip[i]).toNat : Int) := wrap_i64 (by omega)
    have hi4 : (i : Int) < 4 := by omega
    have hl := itL_len (a := a) (n := i) (by omega)
    rw [itL_succ a hx] at hK
    have hi16 : (i : Int) < 16 := by omega
    simp [F.config_FormatAddrl2, hi, hi4, hi16, hx, u8, hw, wrapi hi (by omega)]
    refine callS.ret (Itoa (n := (a.ip[i].toNat : Int)) (by omega) (by omega)) (by simp) (by simp) (by simp) ?_
    simp [hw, wrapi hi (by omega), hl]
    refine ⟨⟨by omega, by omega⟩, [.keep [1, 2, 3, 36]], ?_⟩
    simp
    exact hK _ (by simp)
  · have hl := itL_len (a := a) (n := 4) (by omega)
    have hle := txtA_le a
    have hj := view1 (rest := [.str [46]]) (Join (xs := itL a 4) (sep := [46]) (fun h => by rw [h] at hl; simp at hl) (by omega) (by unfold txtA at hle; omega) false) (by omega) (fun x hx => by
      obtain ⟨y, _, rfl⟩ := List.mem_map.1 hx; rfl) ((pureStr _).refs _) (by simp [refsOkL, refsOk]) (by simp [noSl]) (by simp)
    simp only [List.length_map, hl] at hj
    simp [F.config_FormatAddrl2, F.config_FormatAddrc3]
    refine callS.gen [3] [] [.arr 1 ((itL a 4).map PV.str)] hj (by simp [getAll]) (by simp) (by simp) (by simp [refsOkL, refsOk, inKs, idx]) (by simp [refsOkB, (pureStr (itL a 4)).refs]) (by simp [renL, ren, ren1, idx]) (by simp [renB, (pureStr (itL a 4)).ren]) (by simp [refsOkB, refsOk, (pureStr (itL a 4)).refs]) ?_
    simp [putAll, renB, ren, ren2, (pureStr (itL a 4)).ren]
    refine RetS.plain [] ?_
    simp [txtA]
def txtE (i : Nat) : List UInt8 := txtA (atOf i).addr ++ [58] ++ Lib.itoa (1000 + (i : Int))
theorem txtE_ne (i : Nat) : txtE i ≠ [] := by simp [txtE]
set_option maxRecDepth 10000 in
theorem iFormatEndpoint {i : Nat} (hi : i < 3) : ARet Pg I.config_FormatEndpoint [encE (atOf i)] (.str (txtE i)) := by
  refine ACalls.intro T.config_FormatEndpoint (by simp [F.config_FormatEndpoint]) ?_
  have h6 : (atOf i).addr.six = false := rfl
  have hp : (atOf i).port = 1000 + (i : Int) := rfl
  have c1 : ¬ 1000 + (i : Int) < 1 := by omega
  have c2 : ¬ 65535 < 1000 + (i : Int) := by omega
  have hn := txtA_ne (atOf i).addr
  have hl := txtA_len (atOf i).addr
  have hl2 := Lib.itoa_length_le (1000 + (i : Int)) (by omega) (by omega)
  simp [F.config_FormatEndpoint, argEnv, fpBx]
  refine callS.ret (iFormatAddr (atOf_z i) h6) (by simp) (by simp) (by simp) ?_
  simp [hn, hp, c1, c2, h6]
  refine ⟨by omega, ?_⟩
  refine callS.ret (Itoa (n := 1000 + (i : Int)) (by omega) (by omega)) (by simp) (by simp) (by simp) ?_
  simp
  refine ⟨by omega, ?_⟩
  refine RetS.plain [] ?_
  simp [txtE]
end Go.Ab
namespace Go.Ab
open Go.Ab
theorem con_byte0 (g : FuncId) : ACalls Pg I.slices_ContainsFunc_byte_byte [.sl 1 [] false, .fn (.func g) [] []] [] (fun r fp => r = .bl false ∧ fp = []) :=
  con_no0 (L := []) T.slices_ContainsFunc_byte_byte T.slices_IndexFunc_byte_byte ⟨by simp, by simp⟩ (by simp)
set_option maxRecDepth 10000 in
set_option maxHeartbeats 1000000 in
theorem ifields1_t {d : Dmn} {p : Per} (h : PerOk d p) (hn : 0 ≤ d.now) (hs : 0 ≤ d.rules.stage) : ACalls Pg I.rules_fields_1 [encPe p, .pt KB [] 0] [.box (encD d)] (fun r fp => r = .bl true ∧ fp = [.box (encD d)]) := by
  refine ACalls.intro T.rules_fields_1 (by simp [F.rules_fields_1]) ?_
  have h2 := h.inAt
  have h3 := h.coAt
  have h4 := h.cook
  have h5 := h.staged
  have h6 := h.hin
  have h7 := h.hco
  have hf : fits (Sh.ar 16 (Sh.i IntKind.u8)) (PV.ar 1 16 (zr 16 (PV.int IntKind.u8 0))) = true := rfl
  have hp0 := iwithin_t (x := 0) (lo := 0) (hi := d.now) (by omega) hn
  have hb : PV.beq zTg.p zTg.p = true := FV.beq zTg
  rw [zTg_e] at hb
  rcases h.ep with ⟨he, i, hi, e⟩ | ⟨he, e⟩
  · have ht := txtE_ne i
    rcases h.kal with hk | ⟨k1, k2⟩
    · simp [F.rules_fields_1, argEnv, fpBx, he, e]
      refine callS.ret (iFormatEndpoint hi) (by simp) (by simp) (by simp) ?_
      simp [ht, he, hk]
      simp [h2]
      refine callS.ret hp0 (by simp) (by simp) (by simp) ?_
      simp [h2, h3, h6]
      refine callS.ret hp0 (by simp) (by simp) (by simp) ?_
      simp [h3, h4, h5, zTg_e, hs, h7, hb, hf]
      refine callS.gen [] [] [] (con_byte0 I.rules_fields_1_1) (by simp [getAll]) (by simp) (by simp) (by simp [refsOkL, refsOk, inKs, idx, encBs]) (by simp [refsOkB]) (by simp [renL, ren, ren1, idx, encBs]) (by simp [renB]) (by simp [refsOkB, refsOk]) ?_
      simp [putAll, renB, ren, ren2, zTg_e, hf, hb]
      refine RetS.with [] [KB] ?_
      simp [refsOkB, (pure_encD d).refs, renB, (pure_encD d).ren]
    · have k0 : ¬ p.kal = 0 := by omega
      simp [F.rules_fields_1, argEnv, fpBx, he, e]
      refine callS.ret (iFormatEndpoint hi) (by simp) (by simp) (by simp) ?_
      simp [ht, he, k0]
      refine callS.ret (iwithin_t k1 k2) (by simp) (by simp) (by simp) ?_
      simp [h2]
      refine callS.ret hp0 (by simp) (by simp) (by simp) ?_
      simp [h2, h3, h6]
      refine callS.ret hp0 (by simp) (by simp) (by simp) ?_
      simp [h3, h4, h5, zTg_e, hs, h7, hb, hf]
      refine callS.gen [] [] [] (con_byte0 I.rules_fields_1_1) (by simp [getAll]) (by simp) (by simp) (by simp [refsOkL, refsOk, inKs, idx, encBs]) (by simp [refsOkB]) (by simp [renL, ren, ren1, idx, encBs]) (by simp [renB]) (by simp [refsOkB, refsOk]) ?_
      simp [putAll, renB, ren, ren2, zTg_e, hf, hb]
      refine RetS.with [] [KB] ?_
      simp [refsOkB, (pure_encD d).refs, renB, (pure_encD d).ren]
  · rcases h.kal with hk | ⟨k1, k2⟩
    · simp [F.rules_fields_1, argEnv, fpBx, he, e, zEpn_e, beqzE, fitzE, hk]
      simp [h2]
      refine callS.ret hp0 (by simp) (by simp) (by simp) ?_
      simp [h2, h3, h6]
      refine callS.ret hp0 (by simp) (by simp) (by simp) ?_
      simp [h3, h4, h5, zTg_e, hs, h7, hb, hf]
      refine callS.gen [] [] [] (con_byte0 I.rules_fields_1_1) (by simp [getAll]) (by simp) (by simp) (by simp [refsOkL, refsOk, inKs, idx, encBs]) (by simp [refsOkB]) (by simp [renL, ren, ren1, idx, encBs]) (by simp [renB]) (by simp [refsOkB, refsOk]) ?_
      simp [putAll, renB, ren, ren2, zTg_e, hf, hb]
      refine RetS.with [] [KB] ?_
      simp [refsOkB, (pure_encD d).refs, renB, (pure_encD d).ren]
    · have k0 : ¬ p.kal = 0 := by omega
      simp [F.rules_fields_1, argEnv, fpBx, he, e, zEpn_e, beqzE, fitzE, k0]
      refine callS.ret (iwithin_t k1 k2) (by simp) (by simp) (by simp) ?_
      simp [h2]
      refine callS.ret hp0 (by simp) (by simp) (by simp) ?_
      simp [h2, h3, h6]
      refine callS.ret hp0 (by simp) (by simp) (by simp) ?_
      simp [h3, h4, h5, zTg_e, hs, h7, hb, hf]
      refine callS.gen [] [] [] (con_byte0 I.rules_fields_1_1) (by simp [getAll]) (by simp) (by simp) (by simp [refsOkL, refsOk, inKs, idx, encBs]) (by simp [refsOkB]) (by simp [renL, ren, ren1, idx, encBs]) (by simp [renB]) (by simp [refsOkB, refsOk]) ?_
      simp [putAll, renB, ren, ren2, zTg_e, hf, hb]
      refine RetS.with [] [KB] ?_
      simp [refsOkB, (pure_encD d).refs, renB, (pure_encD d).ren]
set_option maxRecDepth 10000 in
theorem ifields_t {d : Dmn} (h : VD d) : ARet Pg I.rules_fields [encD d] (.bl true) := by
  refine ACalls.intro T.rules_fields (by simp [F.rules_fields]) ?_
  have hl := h.pks.1
  have hs : 0 ≤ d.rules.stage := by have := h.ru.2.2.2.2.2.2.2.2.2.2.2.2.2.2.2.1; omega
  simp [F.rules_fields, argEnv, fpBx]
  refine callS.gen [1] [] [.box (encD d)] (every_t (d := d) (h := I.rules_fields_1) (by omega) (fun p hp => ifields1_t (h.per p hp) h.n0 hs)) (by simp [getAll]) (by simp) (by simp) (by simp [refsOkL, refsOk, inKs, idx, (pure_encD d).refs]) (by simp [refsOkB, (pure_encD d).refs]) (by simp [renL, ren, ren1, idx, (pure_encD d).ren]) (by simp [renB, (pure_encD d).ren]) (by simp [refsOkB, refsOk, (pure_encD d).refs]) ?_
  simp [putAll, renB, ren, ren2, (pure_encD d).ren]
  refine RetS.plain [] ?_
  simp
end Go.Ab
