/- Sealing a packet. No condition. -/
import Derived.Test.YtdfkcobijmbidaaGreatC3
import Derived.Test.YtdfkcobijmbidaaGreatB7
set_option linter.all false
namespace Go.Ab
open Go.Ab
set_option maxRecDepth 100000
def Y0 : List Spec := []
theorem X0 : SpOk Pg Y0 := .nil
def y1 : Spec := ⟨I.codec_Little, [(uI .u64), (kI 4)], .val (uS .u8 4)⟩
def Y1 : List Spec := y1 :: Y0
theorem X1 : SpOk Pg Y1 := .cons (ok_Little (n := 4) (by omega) (by omega) (by rfl)) X0
def y2 : Spec := ⟨I.codec_Little, [(uI .u64), (kI 8)], .val (uS .u8 8)⟩
def Y2 : List Spec := y2 :: Y1
theorem X2 : SpOk Pg Y2 := .cons (ok_Little (n := 8) (by omega) (by omega) (by rfl)) X1
def y3 : Spec := ⟨I.codec_ReadLittle, [(uS .u8 4)], .val (uI .u64)⟩
def Y3 : List Spec := y3 :: Y2
theorem X3 : SpOk Pg Y3 := .cons (ok_ReadLittle (n := 4) (by omega)) X2
def y4 : Spec := ⟨I.codec_ReadLittle, [(uS .u8 8)], .val (uI .u64)⟩
def Y4 : List Spec := y4 :: Y3
theorem X4 : SpOk Pg Y4 := .cons (ok_ReadLittle (n := 8) (by omega)) X3
def y5 : Spec := ⟨I.codec_Join, [(.sl 1 (pzL [some 4, some 8]) false)], .own 1 (uL .u8 12)⟩
def Y5 : List Spec := y5 :: Y4
theorem X5 : SpOk Pg Y5 := .cons (ok_JoinO (l := [some 4, some 8]) (n := 12) (by rfl) (by omega) (by simp) (by rfl)) X4
def y6 : Spec := ⟨I.codec_Join, [(.sl 1 (pzL [some 16, some 16]) false)], .own 1 (uL .u8 32)⟩
def Y6 : List Spec := y6 :: Y5
theorem X6 : SpOk Pg Y6 := .cons (ok_JoinO (l := [some 16, some 16]) (n := 32) (by rfl) (by omega) (by simp) (by rfl)) X5
def y7 : Spec := ⟨I.codec_Join, [(.sl 1 (pzL [some 1, some 15]) false)], .own 1 (uL .u8 16)⟩
def Y7 : List Spec := y7 :: Y6
theorem X7 : SpOk Pg Y7 := .cons (ok_JoinO (l := [some 1, some 15]) (n := 16) (by rfl) (by omega) (by simp) (by rfl)) X6
def y8 : Spec := ⟨I.codec_Join, [(.sl 1 (pzL [none, some 0, some 16, some 0, some 8, some 8]) false)], .val (uS .u8 32)⟩
def Y8 : List Spec := y8 :: Y7
theorem X8 : SpOk Pg Y8 := .cons (ok_Join (l := [none, some 0, some 16, some 0, some 8, some 8]) (n := 32) (by rfl) (by omega) (by simp) (by rfl)) X7
def y9 : Spec := ⟨I.poly_Sum, [(uA .u8 32), (uS .u8 32)], .val (uA .u8 16)⟩
def Y9 : List Spec := y9 :: Y8
theorem X9 : SpOk Pg Y9 := .cons (ok_Sum (n := 32) (by omega)) X8
def y10 : Spec := ⟨I.math_bits_RotateLeft32, [(uI .u32), (kI 16)], .val (uI .u32)⟩
def Y10 : List Spec := y10 :: Y9
theorem X10 : SpOk Pg Y10 := .cons (ai X9 (own := []) (sp := []) (by kernel_rfl)) X9
def y11 : Spec := ⟨I.math_bits_RotateLeft32, [(uI .u32), (kI 12)], .val (uI .u32)⟩
def Y11 : List Spec := y11 :: Y10
theorem X11 : SpOk Pg Y11 := .cons (ai X10 (own := []) (sp := []) (by kernel_rfl)) X10
def y12 : Spec := ⟨I.math_bits_RotateLeft32, [(uI .u32), (kI 8)], .val (uI .u32)⟩
def Y12 : List Spec := y12 :: Y11
theorem X12 : SpOk Pg Y12 := .cons (ai X11 (own := []) (sp := []) (by kernel_rfl)) X11
def y13 : Spec := ⟨I.math_bits_RotateLeft32, [(uI .u32), (kI 7)], .val (uI .u32)⟩
def Y13 : List Spec := y13 :: Y12
theorem X13 : SpOk Pg Y13 := .cons (ai X12 (own := []) (sp := []) (by kernel_rfl)) X12
def y14 : Spec := ⟨I.chacha_quarter, [(uI .u32), (uI .u32), (uI .u32), (uI .u32)], .val (.tup [(uI .u32), (uI .u32), (uI .u32), (uI .u32)])⟩
def Y14 : List Spec := y14 :: Y13
theorem X14 : SpOk Pg Y14 := .cons (ai X13 (own := []) (sp := []) (by kernel_rfl)) X13
def y15 : Spec := ⟨I.chacha_Core, [(uA .u32 16)], .val (uA .u32 16)⟩
def Y15 : List Spec := y15 :: Y14
theorem X15 : SpOk Pg Y15 := .cons (ai X14 (own := []) (sp := []) (by kernel_rfl)) X14
def y16 : Spec := ⟨I.chacha_Block, [(uA .u8 32), (uI .u32), (uA .u8 12)], .val (uA .u8 64)⟩
def Y16 : List Spec := y16 :: Y15
theorem X16 : SpOk Pg Y16 := .cons (ai X15 (own := []) (sp := []) (by kernel_rfl)) X15
def y17 : Spec := ⟨I.chacha_Xor, [(uA .u8 32), (.int .u32 (some 1)), (uA .u8 12), (uS .u8 16)], .val (uS .u8 16)⟩
def Y17 : List Spec := y17 :: Y16
theorem X17 : SpOk Pg Y17 := .cons (ai X16 (own := []) (sp := []) (by kernel_rfl)) X16
def y18 : Spec := ⟨I.aead_filled, [(.sl 0 [] false)], .val (uS .u8 0)⟩
def Y18 : List Spec := y18 :: Y17
theorem X18 : SpOk Pg Y18 := .cons (ai X17 (own := []) (sp := []) (by kernel_rfl)) X17
def y19 : Spec := ⟨I.aead_filled, [(uS .u8 16)], .val (uS .u8 0)⟩
def Y19 : List Spec := y19 :: Y18
theorem X19 : SpOk Pg Y19 := .cons (ai X18 (own := []) (sp := []) (by kernel_rfl)) X18
def y20 : Spec := ⟨I.aead_tag, [(uA .u8 32), (uA .u8 12), (uS .u8 16), (.sl 0 [] false)], .val (uA .u8 16)⟩
def Y20 : List Spec := y20 :: Y19
theorem X20 : SpOk Pg Y20 := .cons (ai X19 (own := []) (sp := []) (by kernel_rfl)) X19
def y21 : Spec := ⟨I.aead_Seal, [(uA .u8 32), (uA .u8 12), (uS .u8 16), (.sl 0 [] false)], .val (uS .u8 32)⟩
def Y21 : List Spec := y21 :: Y20
theorem X21 : SpOk Pg Y21 := .cons (ai X20 (own := []) (sp := []) (by kernel_rfl)) X20
def y22 : Spec := ⟨I.aead_Counter, [(uI .u64)], .val (uA .u8 12)⟩
def Y22 : List Spec := y22 :: Y21
theorem X22 : SpOk Pg Y22 := .cons (ai X21 (own := [7]) (sp := []) (by kernel_rfl)) X21
def y23 : Spec := ⟨I.inner_Pad, [(uS .u8 1)], .val (uS .u8 16)⟩
def Y23 : List Spec := y23 :: Y22
theorem X23 : SpOk Pg Y23 := .cons (ai X22 (own := []) (sp := []) (by kernel_rfl)) X22
end Go.Ab
noncomputable section M7s
namespace Go.Ab
open Go.Ab
def u64s (l : List Int) : List PV := l.map (PV.int .u64)
theorem session_below (c : Int) (l : List Int) (hl : l.length ≤ 1048576) : ARet Pg I.session_below [.int .u64 c, .sl 1 (u64s l) false] (.bl (l.all fun x => decide (c < x))) := by
  refine ACalls.intro T.session_below (by simp [F.session_below]) ?_
  simp [F.session_below, argEnv, fpBx, u64s]
  refine LpS.rng l.length (fun i => (l.take i).all (fun x => decide (c < x)) = true) [0, 7, 8, 9] (fun i => [(9, .int .i64 i)]) (fun i => []) [.keep [0, 7, 8, 9]] ?_
  simp
  refine ⟨fun i hi hI K hK => ?_, fun hI K => ?_⟩
  · have hx : l[i]? = some l[i] := List.getElem?_eq_getElem hi
    have hw2 : IntKind.i64.wrap ((i : Int) + 1) = (i : Int) + 1 := wrap_i64 (by omega)
    by_cases hc : c < l[i]
    · simp [↓aw_lk, hi, hx, hw2, show ¬ l[i] ≤ c by omega]
      refine ⟨[.keep [0, 7, 8, 9]], ?_⟩
      simp
      refine hK _ (by simp) fun x hxx => ?_
      rw [List.take_succ_eq_append_getElem hi] at hxx
      rcases List.mem_append.1 hxx with h | h
      · exact hI x h
      · simp at h; rw [h]; exact hc
    · simp [↓aw_lk, hi, hx, hw2, show l[i] ≤ c by omega]
      refine RetS.plain [] ?_
      simp
      exact ⟨l[i], List.getElem_mem hi, by omega⟩
  · simp [↓aw_lk]
    refine RetS.plain [] ?_
    simp
    exact hI
@[simp ↓] theorem lenK_bS {s : St} {K : PV → Prop} (l : List Int) : lenK s K (bS l) = K (.int .i64 l.length) := by simp [bS]
theorem fit_uL : ∀ {L : List PV}, fitsA (.i .u8) L = true → gmL (uL .u8 L.length) L
  | [], _ => by simp [uL, gmL]
  | x :: L, h => by
    simp only [fitsA, Bool.and_eq_true] at h
    have hx := h.1
    cases x <;> simp [Ab.fits] at hx
    subst hx
    have ih := fit_uL h.2
    simp only [List.length_cons, uL, List.replicate_succ, gmL, gm]
    exact ⟨⟨trivial, by simp⟩, ih⟩
theorem fit_key {p : PV} (hp : fits shKy p = true) : gm (uA .u8 32) p := by
  cases p <;> simp [shKy, Ab.fits] at hp
  rename_i sz m L
  obtain ⟨⟨h1, h2, h3⟩, h4⟩ := hp
  have e : sz = 1 := by simpa [shW] using h1
  subst e h2
  simp only [uA, gm]
  refine ⟨⟨trivial, trivial⟩, ?_⟩
  have := fit_uL h4
  rwa [h3] at this
theorem fv_key (v : FV shKy) : gm (uA .u8 32) v.p := fit_key v.ok
theorem aead_Counter (c : Int) : ∃ l : List Int, l.length = 12 ∧ ARet Pg I.aead_Counter [.int .u64 c] (.ar 1 12 (by_ l)) := by
  obtain ⟨_, v, h1, h2⟩ := X22 y22 (.head _) [.int .u64 c] (by simp [y22, gmL, uI, gm])
  obtain ⟨l, hl, rfl⟩ := gm_uA h1
  exact ⟨l, hl, h2⟩
theorem inner_Pad (o : Int) : ∃ l : List Int, l.length = 16 ∧ ARet Pg I.inner_Pad [bS [o]] (bS l) := by
  obtain ⟨_, v, h1, h2⟩ := X23 y23 (.head _) [bS [o]] ⟨uS_gm rfl, trivial⟩
  obtain ⟨l, hl, rfl⟩ := gm_uS h1
  exact ⟨l, hl, h2⟩
theorem aead_Seal {k n : PV} {l : List Int} (hk : gm (uA .u8 32) k) (hn : gm (uA .u8 12) n) (hl : l.length = 16) : ∃ m : List Int, m.length = 32 ∧ ARet Pg I.aead_Seal [k, n, bS l, .sl 0 [] false] (bS m) := by
  obtain ⟨_, v, h1, h2⟩ := X21 y21 (.head _) [k, n, bS l, .sl 0 [] false] ⟨hk, hn, uS_gm hl, by simp [gm, gmL], trivial⟩
  obtain ⟨m, hm, rfl⟩ := gm_uS h1
  exact ⟨m, hm, h2⟩
theorem session_Seal {s : Ses} {lim o : Int} (h0 : 0 ≤ s.next) (hlt : s.next < s.fence ∧ s.next < lim ∧ s.next < 18446744073709543423) :
    ∃ bs : List Int, bs.length = 32 ∧ ARet Pg I.session_Seal [encS s, .int .u64 lim, bS [o]] (.tup [encS { s with next := s.next + 1 }, bS (mB (IntKind.u64.wrap s.rem).toNat s.next.toNat bs), .int .i64 0]) := by
  obtain ⟨nl, hn1, hn2⟩ := aead_Counter s.next
  obtain ⟨pd, hp1, hp2⟩ := inner_Pad o
  obtain ⟨bs, hb1, hb2⟩ := aead_Seal (fv_key s.send) (uA_gm hn1) hp1
  refine ⟨bs, hb1, ?_⟩
  refine ACalls.intro T.session_Seal (by simp [F.session_Seal]) ?_
  simp [F.session_Seal, argEnv, fpBx]
  refine callS.ret (session_below s.next [s.fence, lim, 18446744073709543423] (by simp)) (by simp [u64s]) (by simp) (by simp) ?_
  simp [hlt.1, hlt.2.1, hlt.2.2]
  refine callT.ret hn2 (by simp) (by simp) (by simp) ?_
  simp
  refine callT.ret hp2 (by simp) (by simp) (by simp) ?_
  simp
  refine callT.ret hb2 (by simp) (by simp) (by simp) ?_
  simp
  have hE := message_EncodeTransport s.rem s.next bs false (by omega) (by omega)
  have hr0 : 0 ≤ IntKind.u64.wrap s.rem := (R64.wrap s.rem).1
  have e1 : hdr (IntKind.u64.wrap s.rem) s.next ++ by_ bs = by_ (mB (IntKind.u64.wrap s.rem).toNat s.next.toNat bs) := by
    rw [← hdr_mB]
    congr 2 <;> omega
  rw [e1] at hE
  generalize mB (IntKind.u64.wrap s.rem).toNat s.next.toNat bs = M at *
  refine callT.ret hE (by simp [bS]) (by simp) (by simp) ?_
  have hw : IntKind.u64.wrap (s.next + 1) = s.next + 1 := wrap_u64 (by omega)
  simp [hw]
  refine RetS.plain [] ?_
  simp [bS]
def noSes : PV := .st 76 [.int .u32 0, .int .u32 0, .ar 1 32 (zr 32 (.int .u8 0)), .ar 1 32 (zr 32 (.int .u8 0)), .int .u64 0, .int .u64 0, .st 6 [.bl false, .int .u64 0, .ar 1 4 (zr 4 (.int .u64 0))], .int .i64 0, .bl false]
theorem session_Seal_no {s : Ses} {lim o : Int} (hlt : ¬ (s.next < s.fence ∧ s.next < lim ∧ s.next < 18446744073709543423)) :
    ARet Pg I.session_Seal [encS s, .int .u64 lim, bS [o]] (.tup [noSes, .sl 1 [] true, .int .i64 12]) := by
  refine ACalls.intro T.session_Seal (by simp [F.session_Seal]) ?_
  simp [F.session_Seal, argEnv, fpBx]
  refine callS.ret (session_below s.next [s.fence, lim, 18446744073709543423] (by simp)) (by simp [u64s]) (by simp) (by simp) ?_
  have hb : ([s.fence, lim, 18446744073709543423].all fun x => decide (s.next < x)) = false := by
    simp only [List.all_cons, List.all_nil, Bool.and_true]
    rw [← Bool.not_eq_true]
    simp
    intro h1 h2
    have := hlt
    omega
  rw [hb]
  simp
  refine RetS.plain [] ?_
  simp [noSes]
end Go.Ab
end M7s
