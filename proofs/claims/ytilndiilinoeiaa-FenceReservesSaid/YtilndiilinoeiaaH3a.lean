/- burrowmake.Daemon behind its peers: the sessions. -/
import Derived.Test.YtilndiilinoeiaaH2
set_option linter.all false
namespace Go.Ab
open Go.Ab
def zD : PV := PV.st 148 [PV.st 10 [.int .u64 0, .int .u64 0, .int .i64 0, .int .i64 0, .int .i64 0, .int .i64 0, .int .i64 0, .int .i64 0, .int .i64 0, .int .i64 0],
  .ar 1 32 (zr 32 (.int .u8 0)), .ar 1 32 (zr 32 (.int .u8 0)), .int .i64 0, .ar 1 32 (zr 32 (.int .u8 0)), .int .i64 0, .sl 464 [] true, .sl 50 [] true, .sl 34 [] true, .sl 34 [] true,
  .ar 1 32 (zr 32 (.int .u8 0)), .int .i64 0, .sl 1 [] true, .sl 19 [] true, .int .i64 0]
@[simp] theorem zD_width : zD.width = 148 := rfl
@[simp] theorem zD_ren (ρ : Nat → Nat) : ren ρ zD = zD := by simp [zD, ren, renL]
@[simp] theorem zD_refs (f : Nat → Bool) : refsOk f zD = true := by simp [zD, refsOk, refsOkL]
@[simp] theorem zD_frz (k sz : Nat) (l : List PV) : frz k sz l zD = zD := by simp [zD]
@[simp ↓] theorem vgk_zD (g : Bool) (K : PV → Prop) : vgk g zD K = K zD := _root_.id rfl
theorem encD_sl (d : Dmn) : encDo d (.sl 464 (d.peers.map encPe) false) = encD d := rfl
/-- what stands behind the first 'i' peers -/
theorem TisOk'.mono {d : Dmn} {l : List Tmr} {m k : Nat} (h : TisOk' d l m) (hk : m ≤ k) : TisOk' d l k := ⟨h.so, h.rg, h.un, Nat.le_trans h.len hk⟩
def SlLt (d : Dmn) (m : Int) : Prop := ∀ x ∈ d.slots, x.index < m
theorem mem_instD {d : Dmn} {i : Nat} {hi : i < d.peers.length} {s : Ses} {own : Bool} {x : Slt} (h : x ∈ (instD d i hi s own).slots) : x.index = s.loc ∨ x ∈ d.slots := by
  rcases List.mem_cons.1 ((putS_perm _ _).mem_iff.1 h) with h | h
  · left; rw [h]
  · right; exact mem_dropAll h
theorem instD_len {d : Dmn} {i : Nat} {hi : i < d.peers.length} {s : Ses} {own : Bool} : (instD d i hi s own).peers.length = d.peers.length := List.length_set
set_option maxRecDepth 10000 in
set_option maxHeartbeats 4000000 in
theorem Daemon_c5 {d : Dmn} {c : Cds} {n : Nat} (hV : VP d n) (hn : n = 2 ∨ n = 3) (hC : CdsOk c) :
    aw Pg F.burrowmake_Daemonc5 (ends 1 [AK.load true 148 (AX.t 2)] fun r fp => ∃ a b, (VM a 40 ∧ 2 ≤ a.peers.length ∧ CdsOk b) ∧ r = encD a ∧ fp = [Blk.box (encC b)])
      { env := [(0, .pt KB [] 0), (2, .pt 2 [] 0), (3, .pt 3 [] 0), (4, .int .i64 n), (5, .int .i64 n), (38, .int .i64 n), (39, .int .i64 n), (40, .bl false)],
        bx := [(2, .box zD), (3, .box (encDo d (.rs 80 [] 0 n n 464 .tip))), (80, .arr 464 (d.peers.map encPe)), (KB, .box (encC c))] } := by
  simp [F.burrowmake_Daemonc5]
  refine LpS.rngA n (d, c) (fun i y => (VM y.1 (3 + 3 * i) ∧ y.1.peers.length = n ∧ SlLt y.1 (10 * i)) ∧ CdsOk y.2) [0, 2, 3, 4, 7] (fun i _ => [(7, .int .i64 i)]) (fun i y => [(3, .box (encD y.1)), (KB, .box (encC y.2))]) [.keep [0, 2, 3, 4, 7], .fz 80] ?_
  simp [refsOkL]
  have hL := hV.len
  have ht : List.take n (List.map encPe d.peers) = List.map encPe d.peers := List.take_of_length_le (by simp [hL])
  refine ⟨by rw [if_pos ⟨hL.symm, Nat.le_of_eq hL.symm⟩, ht]; rfl, ⟨⟨⟨hV.vm.vd, hV.vm.ti.mono (by omega)⟩, hL, ?_⟩, hC⟩, ?_, ?_⟩
  · intro x hx; rw [hV.sl] at hx; simp at hx
  · intro i d c hi hV hL hS hC K hK
    have hi64 : IntKind.i64.wrap ((i : Int) + 1) = (i : Int) + 1 := wrap_i64 (by omega)
    simp [F.burrowmake_Daemonl3, hi]
    refine callS.cds KB (Codes_Next hC 4 (by omega)) (by simp) (by simp [refsOkL, refsOk, inKs, idx]) (by simp [renL, ren, ren1, idx]) (by simp) ?_
    have m1 := nxt_lt c (n := 4) (by omega)
    have p1 := nxt_ok hC 4
    generalize nxt c 4 = y1 at *
    simp
    refine LpS.rngA y1.1 (d, y1.2) (fun j y => (VM y.1 (3 + 3 * i + j) ∧ y.1.peers.length = n ∧ (∀ x ∈ y.1.slots, x.index < 10 * i ∨ 10 * (i : Int) + y1.1 - j < x.index ∧ x.index ≤ 10 * i + 3)) ∧ CdsOk y.2) [0, 2, 3, 4, 7, 8] (fun j _ => [(8, .int .i64 ((y1.1 : Int) - j))]) (fun j y => [(3, .box (encD y.1)), (KB, .box (encC y.2))]) [.keep [0, 2, 3, 4, 7, 8]] ?_
    simp
    refine ⟨⟨⟨hV, hL, fun x hx => Or.inl (hS x hx)⟩, p1⟩, ?_, ?_⟩
    · intro j d c hj hV hL hS hC K2 hK2
      have hgt : (0 : Int) < (y1.1 : Int) - j := by omega
      have v1 : IntKind.i64.wrap (10 * (i : Int)) = 10 * (i : Int) := wrap_i64 (by omega)
      have v2 : IntKind.i64.wrap (10 * (i : Int) + ((y1.1 : Int) - j)) = 10 * (i : Int) + ((y1.1 : Int) - j) := wrap_i64 (by omega)
      obtain ⟨m, hm⟩ : ∃ m : Nat, m = 10 * i + (y1.1 - j) := ⟨_, rfl⟩
      have v3 : IntKind.u32.wrap (10 * (i : Int) + ((y1.1 : Int) - j)) = (m : Int) := by rw [wrap_u32 (by omega)]; omega
      have v4 : IntKind.i64.wrap ((y1.1 : Int) - j - 1) = (y1.1 : Int) - (j + 1) := by rw [wrap_i64 (by omega)]; omega
      simp [F.burrowmake_Daemonl1, hj]
      refine DrS.run [KB] rfl ?_
      simp
      refine callT.ret (burrowmake_Peer (i := i) (by omega)) (by simp) (by simp) (by simp) ?_
      simp [v1, v2, v3]
      refine callS.cdsE KB (burrowmake_Session hC hV.vd.n0 hV.vd.n1 hV.vd.ru (n := m) (by omega) (by omega)) (by simp) (by simp [refsOkL, refsOk, inKs, idx, (pure_encD d).refs]) (by simp [renL, ren, ren1, idx, (pure_encD d).ren]) (by simp) ?_
      rintro ⟨s, c1⟩ ⟨hs, hsl, o1⟩
      simp at hs hsl o1
      simp
      refine callS.cds KB (Codes_Bool o1) (by simp) (by simp [refsOkL, refsOk, inKs, idx]) (by simp [renL, ren, ren1, idx]) (by simp) ?_
      have o2 : CdsOk (bool c1).2 := nxt_ok o1 2
      generalize bool c1 = x2 at *
      simp
      have hip : i < d.peers.length := by omega
      have hfr : ∀ x ∈ d.slots, x.index ≠ s.loc := by
        intro x hx he
        rcases hS x hx with h | h <;> omega
      refine callT.ret (Install_t hV.vd hip hs (by omega) hfr x2.1) (by simp) (by simp) (by simp) ?_
      simp [v4]
      refine ⟨[.keep [0, 2, 3, 4, 7, 8]], ?_⟩
      simp
      refine hK2 (instD d i hip s x2.1) x2.2 _ (by simp) (hV.inst (by omega) hip hs (by omega) hfr x2.1) (instD_len.trans hL) ?_ o2
      intro x hx
      rcases mem_instD hx with h | h
      · right; omega
      · rcases hS x h with h | h <;> omega
    · intro d c hV hL hS hC K2
      simp [F.burrowmake_Daemonl1, F.burrowmake_Daemonc2, hi64]
      refine ⟨[.keep [0, 2, 3, 4, 7]], ?_⟩
      simp
      refine hK d c _ (by simp) ⟨hV.vd, hV.ti.mono (by omega)⟩ hL ?_ hC
      intro x hx
      rcases hS x hx with h | h <;> omega
  · intro d c hV hL hS hC K
    simp [F.burrowmake_Daemonl3, F.burrowmake_Daemonc4]
    refine RetS.with [] [KB] ?_
    simp [refsOkB, (pure_encC _).refs, renB, (pure_encC _).ren, (pure_encD _).refs, (pure_encD _).ren]
    exact ⟨d, c, ⟨⟨hV.vd, hV.ti.mono (by omega)⟩, by omega, hC⟩, rfl, rfl⟩
end Go.Ab
