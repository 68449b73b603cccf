/- Library calls; the checks of numbers, peers, hands. No condition. -/
import Derived.Test.YtjkfnhhekobfgaaGreatDoorKS
import Derived.Test.YtjkfnhhekobfgaaGreatDoorA5
import Derived.Test.YtjkfnhhekobfgaaGreatDoorSeatT
import Derived.Tactics
import Derived.Test.YtjkfnhhekobfgaaGreatDoorB7
set_option linter.all false
namespace Go.Ab
open Go.Ab
variable {P : Program}
theorem ACalls.ofCalls {f : FuncId} {args : List PV} {v : PV} {u : Value} (he : ∀ (vs : Array Value) (w : World), (callFunc f vs).run P w = .ok (.enter f vs) w) (hv : ∀ Γ, RepV Γ v u)
    (h : ∀ (Γ : Cx) (w : World) (vs : List Value), w.heap = Γ.heap → Mem Γ → Γ.bx = [] → AllR Γ args vs → Calls P f vs.toArray w fun e w' => e = .returned u ∧ WF w w' ∧ w.heap.size ≤ w'.heap.size ∧ ∀ b, b < w.heap.size → w'.heap[b]? = w.heap[b]?) :
    ARet P f args v := by
  refine ⟨he, fun Γ w vs h1 h2 h3 h4 => ?_⟩
  have hbx : Γ.bx = [] := by rw [h3]; rfl
  refine (h Γ w vs h1 h2 hbx h4).mono ?_
  rintro e w' ⟨rfl, g1, g2, g3⟩
  rw [h1] at g2 g3
  have hno : ∀ b, ¬ Γ.mutb b := by
    rintro b ⟨k, blk, q1, _⟩; rw [hbx] at q1; simp [get] at q1
  have hle : Le Γ { Γ with heap := w'.heap } := by
    refine ⟨fun b hb _ => g3 b hb, fun b _ hm => hm, rfl, g2, fun k blk hk => ?_⟩
    rw [hbx] at hk; simp [get] at hk
  refine ⟨u, v, [], { Γ with heap := w'.heap }, rfl, ⟨rfl, rfl⟩, rfl, ⟨fun k blk hk => ?_, h2.inj, fun b hb => Nat.lt_of_lt_of_le (h2.prot b hb) g2, h2.apart, h2.tab_le hle⟩, h3, hv _, hle, g1⟩
  have hk' : get Γ.bx k = some blk := hk
  rw [hbx] at hk'; simp [get] at hk'
theorem pow10_tab {Γ : Cx} {w : World} (h : w.heap = Γ.heap) (hm : Mem Γ) : Lib.TabIs Pg w "internal/strconv.uint64pow10" .u64 Lib.pow10Tab := by
  obtain ⟨_, e, x, hx⟩ := hm.tab 1 _ rfl
  have hg : Pg.globalNamed "internal/strconv.uint64pow10" = some 1 := by kernel_rfl
  unfold Lib.TabIs World.var?
  rw [hg]
  simp only [Option.bind_some, h, hx]
theorem Itoa {n : Int} (h0 : -9223372036854775808 ≤ n) (h1 : n ≤ 9223372036854775807) : ARet Pg I.strconv_Itoa [.int .i64 n] (.str (Lib.itoa n)) := by
  refine ACalls.ofCalls (u := .string ⟨(Lib.itoa n).toArray⟩) (Go.Proofs.enters_of Go.Proofs.Tryz.func143 (by kernel_rfl) rfl) (fun Γ => repV_str' (by simp)) ?_
  intro Γ w vs hw hm hb ha
  match vs, ha with
  | [v], ha =>
    obtain rfl : v = .int .i64 n := by
      have := ha.1
      simp only [RepV] at this
      cases this; rfl
    refine (Go.Proofs.Tryz.strconv_Itoa n h0 h1 w (pow10_tab hw hm)).mono ?_
    rintro e w' ⟨rfl, k, os, rfl⟩
    refine ⟨rfl, ⟨rfl, rfl, rfl⟩, ?_, fun b hb => ?_⟩
    · simp [Go.Sort.grow]
    · simp only [Go.Sort.grow, World.drewN]
      exact Array.getElem?_append_left hb
theorem cell_w {w : World} {b o : Nat} {v : Value} (h : cell w.heap b o = some v) : w.cell? ⟨b, o, none⟩ = some v := by
  unfold cell at h
  split at h
  · rename_i c e x hb
    simp [World.cell?, hb, h]
  · simp at h
theorem str_cells {Γ : Cx} : ∀ {xs : List (List UInt8)} {cs : List Value}, RepL Γ (xs.map PV.str) cs → ∃ bs : List ByteArray, cs = bs.map Value.string ∧ bs.map (·.data.toList) = xs
  | [], cs, h => by cases h; exact ⟨[], rfl, rfl⟩
  | x :: xs, cs, h => by
    cases h with
    | str l s hs hr =>
      obtain ⟨bs, rfl, e⟩ := str_cells hr
      exact ⟨s :: bs, rfl, by simp [hs, e]⟩
theorem Join {xs : List (List UInt8)} {sep : List UInt8} (h0 : xs ≠ []) (hN : xs.length ≤ 140737488355328) (hl : (Lib.join xs sep).length ≤ 140737488355328) (c : Bool) :
    ARet Pg I.strings_Join [.sl 1 (xs.map PV.str) c, .str sep] (.str (Lib.join xs sep)) := by
  refine ACalls.ofCalls (u := .string ⟨(Lib.join xs sep).toArray⟩) (Go.Proofs.enters_of Go.Proofs.Tryz.func167 (by kernel_rfl) rfl) (fun Γ => repV_str' (by simp)) ?_
  intro Γ w vs hw hm hb ha
  match vs, ha with
  | [v, v2], ha =>
    obtain ⟨h1, h2, _⟩ := ha
    simp only [RepV] at h1 h2
    cases h2 with
    | str l s hs hr2 =>
    cases h1 with
    | sl sz l clip a rcap g1 g2 g3 g4 g5 g6 =>
      obtain ⟨bs, rfl, e⟩ := str_cells g1
      obtain ⟨b, o, rfl, q1, q2, q3⟩ := g5 (by simpa using h0)
      have hlen : (xs.map PV.str).length = bs.length := by rw [← e]; simp
      rw [hlen]
      have := Go.Proofs.Tryz.strings_Join b o rcap bs s w (fun j x hj => by
        have := q3 j (.string x) (by simp [hj])
        rw [← hw] at this
        exact cell_w this) (by rw [hw]; exact q1) (by rw [← e] at hN; simpa using hN) (by rw [← hlen]; exact g3) (by rw [e, hs]; exact hl)
      rw [e, hs] at this
      refine this.mono ?_
      rintro e w' ⟨rfl, k⟩
      exact ⟨rfl, ⟨k.os, k.tape, k.output⟩, k.size, k.block⟩
end Go.Ab
namespace Go.Ab
open Go.Ab
set_option maxRecDepth 100000 in
set_option maxHeartbeats 1000000 in
theorem compare_calls (va vb : Value) (c : Int) (w : World) (hc : (Go.Extern.BytealgCompare.compare #[va, vb]).run Pg w = .ok (.int .i64 c) w) :
    Calls Pg 107 #[va, vb] w fun e w' => e = .returned (.int .i64 c) ∧ w' = w := by
  have hx : (callFunc 139 #[va, vb]).run Pg w = .ok (.value (.int .i64 c)) w := by
    have e1 : Extern.findNext Go.Proofs.Tryz.f139 = none := by kernel_rfl
    have e2 : Extern.find Go.Proofs.Tryz.f139 = some Go.Extern.BytealgCompare.compare := by kernel_rfl
    have e3 : (Go.Proofs.Tryz.f139.name == "runtime.NumGoroutine") = false := by kernel_rfl
    have e4 : Go.Proofs.Tryz.f139.body.isNone = true := by kernel_rfl
    have e3' : ¬ Go.Proofs.Tryz.f139.name = "runtime.NumGoroutine" := by simpa using e3
    have e4' : Go.Proofs.Tryz.f139.body = none := by simpa using e4
    simp only [callFunc, Sem.run_bind]
    simp [Go.Proofs.Tryz.func139, e1, e2, e3', e4', run_mark, hc]
  go_enter Go.Proofs.Tryz.func107, Go.Proofs.Tryz.ntmps107
  go_wp2
  go_ret
  exact ⟨rfl, rfl⟩
theorem run_bytes (P : Program) (w : World) : ∀ (l : List UInt8) (b o : Nat) (acc : ByteArray), (∀ i x, l[i]? = some x → w.cell? ⟨b, o + i, none⟩ = some (.int .u8 (x.toNat : Int))) →
    (Go.Extern.Bytes.loadBytes ⟨b, o, none⟩ l.length acc).run P w = .ok ⟨(acc.data.toList ++ l).toArray⟩ w
  | [], b, o, acc, h => by simp [Go.Extern.Bytes.loadBytes]
  | x :: l, b, o, acc, h => by
    have h0 := h 0 x rfl
    simp only [Nat.add_zero] at h0
    have ih := run_bytes P w l b (o + 1) (acc.push x) (fun i y hi => by
      have := h (i + 1) y (by simpa using hi)
      rwa [show o + 1 + i = o + (i + 1) by omega])
    have e : (Addr.add ⟨b, o, none⟩ 1) = (⟨b, o + 1, none⟩ : Addr) := rfl
    have hx : ((x.toNat : Int)).toNat.toUInt8 = x := by simp
    simp only [List.length_cons, Go.Extern.Bytes.loadBytes, Sem.run_bind, run_load, h0, Result.andThen_ok, e, hx]
    rw [ih]
    simp
def cmpB (a b : List UInt8) : Int := Go.Extern.BytealgCompare.cmp ⟨a.toArray⟩ ⟨b.toArray⟩
theorem byte_cells2 {Γ : Cx} : ∀ {xs : List UInt8} {cs : List Value}, RepL Γ (xs.map u8) cs → cs = xs.map (fun x => Value.int .u8 (x.toNat : Int))
  | [], cs, h => by cases h; rfl
  | x :: xs, cs, h => by
    simp only [List.map_cons, u8] at h
    cases h with
    | int k n hr => rw [byte_cells2 hr]; rfl
theorem run_bytesOf {Γ : Cx} {w : World} (hw : w.heap = Γ.heap) {xs : List UInt8} {c : Bool} {v : Value} (h : RepV Γ (.sl 1 (xs.map u8) c) v) : (Go.Extern.Bytes.bytesOf v).run Pg w = .ok ⟨xs.toArray⟩ w := by
  simp only [RepV] at h
  cases h with
  | sl sz l clip a rcap g1 g2 g3 g4 g5 g6 =>
    cases a with
    | none =>
      have : xs = [] := by
        by_cases hx : xs = []
        · exact hx
        · obtain ⟨b, o, e, _⟩ := g5 (by simpa using hx)
          simp at e
      subst this
      rfl
    | some ad =>
      by_cases hx : xs = []
      · subst hx; rfl
      · obtain ⟨b, o, e, q1, q2, q3⟩ := g5 (by simpa using hx)
        obtain rfl : ad = ⟨b, o, none⟩ := by simpa using e
        have hcs := byte_cells2 g1
        have := run_bytes Pg w xs b o .empty (fun i x hi => cell_w (by rw [hw]; exact q3 i _ (by rw [hcs]; simp [hi])))
        simp only [List.length_map, Go.Extern.Bytes.bytesOf]
        rw [this]
        rfl
theorem Compare (a b : List UInt8) (c d : Bool) : ARet Pg I.bytes_Compare [.sl 1 (a.map u8) c, .sl 1 (b.map u8) d] (.int .i64 (cmpB a b)) := by
  refine ACalls.ofCalls (u := .int .i64 (cmpB a b)) (Go.Proofs.enters_of Go.Proofs.Tryz.func107 (by kernel_rfl) rfl) (fun Γ => repV_int) ?_
  intro Γ w vs hw hm hb ha
  match vs, ha with
  | [v, v2], ha =>
    obtain ⟨h1, h2, _⟩ := ha
    refine (compare_calls v v2 (cmpB a b) w ?_).mono ?_
    · have e : Go.Extern.BytealgCompare.compare #[v, v2] = (do Pure.pure (goInt (Go.Extern.BytealgCompare.cmp (← Go.Extern.Bytes.bytesOf v) (← Go.Extern.Bytes.bytesOf v2)))) := rfl
      rw [e]
      simp only [Sem.run_bind, run_bytesOf hw h1, run_bytesOf hw h2, Result.andThen_ok]
      rfl
    · rintro e w' ⟨rfl, rfl⟩
      exact ⟨rfl, WF.refl _, Nat.le_refl _, fun _ _ => rfl⟩
end Go.Ab
namespace Go.Ab
open Go.Ab
theorem iwithin_t {x lo hi : Int} (h1 : lo ≤ x) (h2 : x ≤ hi) : ARet Pg I.rules_within [.int .i64 x, .int .i64 lo, .int .i64 hi] (.bl true) := by
  refine ACalls.intro T.rules_within (by simp [F.rules_within]) ?_
  simp [F.rules_within, argEnv, fpBx, h1, h2]
  refine RetS.plain [] ?_
  simp
set_option maxRecDepth 10000 in
theorem iRules_t {r : Rul} (h : RulOk r) : ARet Pg I.rules_Rules [encRu r] (.bl true) := by
  refine ACalls.intro T.rules_Rules (by simp [F.rules_Rules]) ?_
  obtain ⟨h1, h2, h3, h4, h5, h6, h7, h8, h9, h10, h11, h12, h13, h14, h15, h16, h17⟩ := h
  have c1 : ¬ r.rekm < 1 := by omega
  have c2 : ¬ r.rejm < r.rekm := by omega
  have c3 : ¬ 18446744073709543423 < r.rejm := by omega
  have c4 : ¬ r.rejt < r.rekt := by omega
  have w1 : IntKind.i64.wrap (r.kat + r.ret) = r.kat + r.ret := wrap_i64 (by omega)
  have w2 : IntKind.i64.wrap (20 * r.ret) = 20 * r.ret := wrap_i64 (by omega)
  have c5 : ¬ r.rejt ≤ r.kat + r.ret := by omega
  simp [F.rules_Rules, argEnv, fpBx, c1, c2, c3]
  refine callS.ret (iwithin_t (x := r.ret) (lo := 1000) (hi := 1073741824) (by omega) (by omega)) (by simp) (by simp) (by simp) ?_
  simp
  refine callS.ret (iwithin_t (x := r.kat) (lo := 1000) (hi := 1073741824) (by omega) (by omega)) (by simp) (by simp) (by simp) ?_
  simp
  refine callS.ret (iwithin_t (x := r.cot) (lo := 1) (hi := 1073741824) (by omega) (by omega)) (by simp) (by simp) (by simp) ?_
  simp
  refine callS.ret (iwithin_t (x := r.rekt) (lo := 1) (hi := 1073741824) (by omega) (by omega)) (by simp) (by simp) (by simp) ?_
  simp
  refine callS.ret (iwithin_t (x := r.rejt) (lo := 1) (hi := 1073741824) (by omega) (by omega)) (by simp) (by simp) (by simp) ?_
  simp [c4, w1, w2, c5]
  refine callS.ret (iwithin_t (x := r.att) (lo := r.ret) (hi := 20 * r.ret) (by omega) (by omega)) (by simp) (by simp) (by simp) ?_
  simp
  refine callS.ret (iwithin_t (x := r.load) (lo := 1) (hi := 64) (by omega) (by omega)) (by simp) (by simp) (by simp) ?_
  simp
  refine callS.ret (iwithin_t (x := r.stage) (lo := 1) (hi := 8) (by omega) (by omega)) (by simp) (by simp) (by simp) ?_
  simp
  refine RetS.plain [] ?_
  simp
set_option maxRecDepth 10000 in
theorem inumbers_t {d : Dmn} (h : VD d) : ARet Pg I.rules_numbers [encD d] (.bl true) := by
  refine ACalls.intro T.rules_numbers (by simp [F.rules_numbers]) ?_
  have hn0 := h.n0
  have hn1 := h.n1
  have hp0 := h.p0
  have hp1 := h.p1
  have hb := h.bad
  simp [F.rules_numbers, argEnv, fpBx, hp0, hp1, hb]
  refine callS.ret (iRules_t h.ru) (by simp) (by simp) (by simp) ?_
  simp [hp0, hp1, hb]
  refine callS.ret (iwithin_t (x := d.now) (lo := 0) (hi := 1099511627776) (by omega) (by omega)) (by simp) (by simp) (by simp) ?_
  simp [hp0, hp1, hb]
  refine callS.ret (iwithin_t (x := 0) (lo := 0) (hi := 1099511627776) (by omega) (by omega)) (by simp) (by simp) (by simp) ?_
  simp
  refine RetS.plain [] ?_
  simp
theorem cmpB_k {i : Nat} (h : i + 1 < 3) : cmpB (kOf i).l (kOf (i + 1)).l = -1 := by
  rcases (by omega : i = 0 ∨ i = 1) with rfl | rfl <;> decide +kernel
set_option maxRecDepth 10000 in
theorem ipeers_t {d : Dmn} (h : VD d) : ARet Pg I.rules_peers [encD d] (.bl true) := by
  refine ACalls.intro T.rules_peers (by simp [F.rules_peers]) ?_
  have hl := h.pks.1
  simp [F.rules_peers, argEnv, fpBx]
  refine LpS.rng (d.peers.length - 1) (fun _ => True) [1, 2, 3] (fun i => [(3, .int .i64 ((i : Int) + 1))]) (fun _ => []) [.keep [1, 2, 3]] ?_
  simp
  refine ⟨fun i hi K hK => ?_, fun K => ?_⟩
  · have h1 : i + 1 < d.peers.length := by omega
    have h0 : i < d.peers.length := by omega
    have hx1 : d.peers[i + 1]? = some d.peers[i + 1] := List.getElem?_eq_getElem h1
    have hx0 : d.peers[i]? = some d.peers[i] := List.getElem?_eq_getElem h0
    have w1 : IntKind.i64.wrap (i : Int) = (i : Int) := wrap_i64 (by omega)
    have w2 : IntKind.i64.wrap ((i : Int) + 1 + 1) = (i : Int) + 1 + 1 := wrap_i64 (by omega)
    have hlt : (i : Int) + 1 < d.peers.length := by omega
    have hto : ((i : Int) + 1).toNat = i + 1 := by omega
    have hc := Compare d.peers[i].pub.l d.peers[i + 1].pub.l false false
    rw [h.pks.2 i h0, h.pks.2 (i + 1) h1, cmpB_k (by omega)] at hc
    simp [F.rules_peersl0, hlt, hx0, hx1, w1, w2, hto]
    refine ⟨h0, ?_⟩
    have hnn : (0 : Int) ≤ (i : Int) + 1 := by omega
    have ta : (d.peers[i].pub.l.map u8).take 32 = (kOf i).l.map u8 := by rw [h.pks.2 i h0]; exact List.take_of_length_le (by simp [(kOf i).h])
    have tb : (d.peers[i + 1].pub.l.map u8).take 32 = (kOf (i + 1)).l.map u8 := by rw [h.pks.2 (i + 1) h1]; exact List.take_of_length_le (by simp [(kOf (i + 1)).h])
    simp [encK, hnn]
    rw [ta, tb]
    refine callT.ret hc (by simp) (by simp) (by simp) ?_
    simp [w2]
    refine ⟨[.keep [1, 2, 3]], ?_⟩
    simp
    exact hK _ (by simp)
  · have hx : ¬ (((d.peers.length - 1 : Nat) : Int) + 1 < d.peers.length) := by omega
    have h8 : (d.peers.length : Int) ≤ 8 := by omega
    simp [F.rules_peersl0, F.rules_peersc1, hx, h8]
    refine RetS.plain [] ?_
    simp
end Go.Ab
namespace Go.Ab
open Go.Ab
def idxL (sz : Nat) (g : Bool) : ACode :=
  .seq (.region [⟨(some 9), none, true, .bin .lss .no (.t 8) (.t 7)⟩])
  (.seq (.cond (.t 9)
      (.skip)
      (.exit 0))
  (.seq (.block 1 (.seq (.region [⟨(some 10), none, true, .mv (.t 8)⟩,
        ⟨(some 5), none, true, .mv (.t 10)⟩])
    (.seq (.region [⟨(some 11), none, true, .mv (.t 1)⟩,
        ⟨(some 12), none, true, .mv (.t 0)⟩,
        ⟨(some 13), none, true, .mv (.t 5)⟩,
        ⟨(some 14), none, false, .indexA (.sl sz) (.t 12) (.t 13)⟩,
        ⟨(some 15), none, true, .load g sz (.t 14)⟩,
        ⟨(some 16), none, false, .call (.t 11) [(.t 15)]⟩])
    (.cond (.t 16)
      (.seq (.region [⟨(some 17), none, true, .mv (.t 5)⟩,
          ⟨(some 4), none, true, .mv (.t 17)⟩])
      (.ret))
      (.skip)))))
  (.region [⟨(some 18), none, true, .bin .add .no (.t 8) (.c (.int .i64 1))⟩,
    ⟨(some 8), none, true, .mv (.t 18)⟩])))
def idxC : ACode :=
  .seq (.region [⟨(some 4), none, true, .mv (.c (.int .i64 (-1)))⟩])
  (.ret)
def idxFun (sz : Nat) (g : Bool) : AFun := ⟨19, [.mv (.t 4)],
  .seq (.region [⟨(some 4), none, true, .mv (.c (.int .i64 0))⟩])
  (.seq (.seq (.region [⟨(some 6), none, true, .mv (.t 0)⟩,
        ⟨(some 7), none, true, .len (.t 6)⟩,
        ⟨(some 8), none, true, .mv (.c (.int .i64 0))⟩])
    (.block 0 (.loop (idxL sz g))))
  idxC)⟩
structure Els (sz : Nat) (g : Bool) (L : List PV) : Prop where
  len : L.length ≤ 1048576
  el : ∀ x ∈ L, (x.width = sz ∧ x.isAgg = g) ∧ Pure x ∧ wk x = x ∧ ∀ K : PV → Prop, vgk true x K = K x
@[simp] theorem wk_fn (f : Fn) (a b : List PV) : wk (.fn f a b) = .fn f a b := by simp only [wk]
theorem wkL_id' : ∀ {L : List PV}, (∀ x ∈ L, wk x = x) → wkL L = L
  | [], _ => by simp
  | x :: L, h => by
    have ih := wkL_id' (L := L) (fun y hy => h y (List.mem_cons_of_mem _ hy))
    rw [wkL_cons, h x (by simp), ih]
theorem Els.wk {sz : Nat} {g : Bool} {L : List PV} (h : Els sz g L) : wkL L = L := wkL_id' fun x hx => (h.el x hx).2.2.1
set_option maxRecDepth 10000 in
theorem idx_no {sz : Nat} {ag : Bool} {f : FuncId} (ht : trFun Pg [] [] f = some (idxFun sz ag).er) {L : List PV} (hL : Els sz ag L) {g : FuncId} {v : PV} (hv : Pure v)
    (hno : ∀ x ∈ L, ACalls Pg g [x, .pt KB [] 0] [.box v] (fun r fp => r = .bl false ∧ fp = [.box v])) :
    ACalls Pg f [.sl sz L false, .fn (.func g) [] [.pt KB [] 0]] [.box v] (fun r fp => r = .int .i64 (-1) ∧ fp = [.box v]) := by
  refine ACalls.intro ht (by simp [idxFun]) ?_
  have hl := hL.len
  simp [idxFun, argEnv, fpBx]
  refine LpS.rng L.length (fun _ => True) [0, 1, 4, 6, 7, 8] (fun i => [(8, .int .i64 i)]) (fun _ => []) [.keep [0, 1, 4, 6, 7, 8]] ?_
  simp
  refine ⟨fun i hi K hK => ?_, fun K => ?_⟩
  · have hx : L[i]? = some L[i] := List.getElem?_eq_getElem hi
    obtain ⟨⟨e1, e2⟩, e3, e4, e5⟩ := hL.el L[i] (List.getElem_mem hi)
    have hc := hno L[i] (List.getElem_mem hi)
    obtain ⟨x, hxe⟩ : ∃ x, x = L[i] := ⟨_, rfl⟩
    rw [← hxe] at e1 e2 e3 e4 e5 hc hx
    have wi : IntKind.i64.wrap ((i : Int) + 1) = (i : Int) + 1 := wrap_i64 (by omega)
    simp [idxL, hx, hi, ← hxe, e1, e2, e5]
    refine callS.gen [KB] [] [.box v] hc (by simp [getAll]) (by simp) (by simp) (by simp [refsOkL, refsOk, inKs, idx, e3.refs]) (by simp [refsOkB, hv.refs]) (by simp [renL, ren, ren1, idx, e3.ren, e4]) (by simp [renB, hv.ren]) (by simp [refsOkB, refsOk, hv.refs]) ?_
    simp [putAll, renB, ren, ren2, hv.ren, wi]
    refine ⟨[.keep [0, 1, 4, 6, 7, 8]], ?_⟩
    simp
    exact hK _ (by simp)
  · simp [idxL, idxC]
    refine RetS.with [] [KB] ?_
    simp [refsOkB, hv.refs, renB, hv.ren]
set_option maxRecDepth 10000 in
theorem idx_no0 {sz : Nat} {ag : Bool} {f : FuncId} (ht : trFun Pg [] [] f = some (idxFun sz ag).er) {L : List PV} (hL : Els sz ag L) {g : FuncId} 
    (hno : ∀ x ∈ L, ACalls Pg g [x] [] (fun r fp => r = .bl false ∧ fp = [])) :
    ACalls Pg f [.sl sz L false, .fn (.func g) [] []] [] (fun r fp => r = .int .i64 (-1) ∧ fp = []) := by
  refine ACalls.intro ht (by simp [idxFun]) ?_
  have hl := hL.len
  simp [idxFun, argEnv, fpBx]
  refine LpS.rng L.length (fun _ => True) [0, 1, 4, 6, 7, 8] (fun i => [(8, .int .i64 i)]) (fun _ => []) [.keep [0, 1, 4, 6, 7, 8]] ?_
  simp
  refine ⟨fun i hi K hK => ?_, fun K => ?_⟩
  · have hx : L[i]? = some L[i] := List.getElem?_eq_getElem hi
    obtain ⟨⟨e1, e2⟩, e3, e4, e5⟩ := hL.el L[i] (List.getElem_mem hi)
    have hc := hno L[i] (List.getElem_mem hi)
    obtain ⟨x, hxe⟩ : ∃ x, x = L[i] := ⟨_, rfl⟩
    rw [← hxe] at e1 e2 e3 e4 e5 hc hx
    have wi : IntKind.i64.wrap ((i : Int) + 1) = (i : Int) + 1 := wrap_i64 (by omega)
    simp [idxL, hx, hi, ← hxe, e1, e2, e5]
    refine callS.gen [] [] [] hc (by simp [getAll]) (by simp) (by simp) (by simp [refsOkL, refsOk, inKs, idx, e3.refs]) (by simp [refsOkB]) (by simp [renL, ren, ren1, idx, e3.ren, e4]) (by simp [renB]) (by simp [refsOkB, refsOk]) ?_
    simp [putAll, renB, ren, ren2, wi]
    refine ⟨[.keep [0, 1, 4, 6, 7, 8]], ?_⟩
    simp
    exact hK _ (by simp)
  · simp [idxL, idxC]
    refine RetS.plain [] ?_
    simp
set_option maxRecDepth 10000 in
theorem idx_no2 {sz : Nat} {ag : Bool} {f : FuncId} (ht : trFun Pg [] [] f = some (idxFun sz ag).er) {L : List PV} (hL : Els sz ag L) {g : FuncId} {h : FuncId} {v : PV} (hv : Pure v)
    (hno : ∀ x ∈ L, ACalls Pg g [x, .pt KB [] 0] [Blk.box (.fn (.func h) [] [.pt (KB + 1) [] 0]), .box v] (fun r fp => r = .bl false ∧ fp = [Blk.box (.fn (.func h) [] [.pt (KB + 1) [] 0]), .box v])) :
    ACalls Pg f [.sl sz L false, .fn (.func g) [] [.pt KB [] 0]] [Blk.box (.fn (.func h) [] [.pt (KB + 1) [] 0]), .box v] (fun r fp => r = .int .i64 (-1) ∧ fp = [Blk.box (.fn (.func h) [] [.pt (KB + 1) [] 0]), .box v]) := by
  refine ACalls.intro ht (by simp [idxFun]) ?_
  have hl := hL.len
  simp [idxFun, argEnv, fpBx]
  refine LpS.rng L.length (fun _ => True) [0, 1, 4, 6, 7, 8] (fun i => [(8, .int .i64 i)]) (fun _ => []) [.keep [0, 1, 4, 6, 7, 8]] ?_
  simp
  refine ⟨fun i hi K hK => ?_, fun K => ?_⟩
  · have hx : L[i]? = some L[i] := List.getElem?_eq_getElem hi
    obtain ⟨⟨e1, e2⟩, e3, e4, e5⟩ := hL.el L[i] (List.getElem_mem hi)
    have hc := hno L[i] (List.getElem_mem hi)
    obtain ⟨x, hxe⟩ : ∃ x, x = L[i] := ⟨_, rfl⟩
    rw [← hxe] at e1 e2 e3 e4 e5 hc hx
    have wi : IntKind.i64.wrap ((i : Int) + 1) = (i : Int) + 1 := wrap_i64 (by omega)
    simp [idxL, hx, hi, ← hxe, e1, e2, e5]
    refine callS.gen [KB, KB + 1] [] [Blk.box (.fn (.func h) [] [.pt (KB + 1) [] 0]), .box v] hc (by simp [getAll]) (by simp) (by simp) (by simp [refsOkL, refsOk, inKs, idx, e3.refs]) (by simp [refsOkB, refsOk, refsOkL, inKs, idx, hv.refs]) (by simp [renL, ren, ren1, idx, e3.ren, e4]) (by simp [renB, ren, renL, ren1, idx, hv.ren]) (by simp [refsOkB, refsOk, refsOkL, inFp, hv.refs]) ?_
    simp [putAll, renB, ren, renL, ren2, hv.ren, wi]
    refine ⟨[.keep [0, 1, 4, 6, 7, 8]], ?_⟩
    simp
    exact hK _ (by simp)
  · simp [idxL, idxC]
    refine RetS.with [] [KB, KB + 1] ?_
    simp [refsOkB, hv.refs, renB, hv.ren, refsOk, refsOkL, ren, renL, inFp]
def conFun (ix : FuncId) : AFun := ⟨9, [.mv (.t 4)],
  .seq (.region [⟨(some 4), none, true, .mv (.c (.bl false))⟩])
  (.seq (.region [⟨(some 5), none, true, .mv (.t 0)⟩,
      ⟨(some 6), none, true, .mv (.t 1)⟩,
      ⟨(some 7), none, false, .call (.c (.fn (.func ix) [] [])) [(.t 5), (.t 6)]⟩,
      ⟨(some 8), none, true, .bin .geq .no (.t 7) (.c (.int .i64 0))⟩,
      ⟨(some 4), none, true, .mv (.t 8)⟩])
  (.ret))⟩
set_option maxRecDepth 10000 in
theorem con_no {sz : Nat} {ag : Bool} {f ix : FuncId} (hf : trFun Pg [] [] f = some (conFun ix).er) (ht : trFun Pg [] [] ix = some (idxFun sz ag).er) {L : List PV} (hL : Els sz ag L) {g : FuncId} {v : PV} (hv : Pure v)
    (hno : ∀ x ∈ L, ACalls Pg g [x, .pt KB [] 0] [.box v] (fun r fp => r = .bl false ∧ fp = [.box v])) :
    ACalls Pg f [.sl sz L false, .fn (.func g) [] [.pt KB [] 0]] [.box v] (fun r fp => r = .bl false ∧ fp = [.box v]) := by
  refine ACalls.intro hf (by simp [conFun]) ?_
  have hpl : PureL L := PureL.mk' fun x hx => (hL.el x hx).2.1
  have hwl : wkL L = L := hL.wk
  simp [conFun, argEnv, fpBx]
  refine callS.gen [KB] [] [.box v] (idx_no ht hL hv hno) (by simp [getAll]) (by simp) (by simp) (by simp [refsOkL, refsOk, inKs, idx, hpl.refs]) (by simp [refsOkB, refsOk, refsOkL, inKs, idx, hv.refs]) (by simp [renL, ren, ren1, idx, hpl.ren, hwl]) (by simp [renB, ren, renL, ren1, idx, hv.ren]) (by simp [refsOkB, refsOk, refsOkL, inFp, hv.refs]) ?_
  simp [putAll, renB, ren, renL, ren2, hv.ren]
  refine RetS.with [] [KB] ?_
  simp [refsOkB, refsOk, refsOkL, renB, ren, renL, inFp, hv.refs, hv.ren]
set_option maxRecDepth 10000 in
theorem con_no2 {sz : Nat} {ag : Bool} {f ix : FuncId} (hf : trFun Pg [] [] f = some (conFun ix).er) (ht : trFun Pg [] [] ix = some (idxFun sz ag).er) {L : List PV} (hL : Els sz ag L) {g : FuncId} {h : FuncId} {v : PV} (hv : Pure v)
    (hno : ∀ x ∈ L, ACalls Pg g [x, .pt KB [] 0] [Blk.box (.fn (.func h) [] [.pt (KB + 1) [] 0]), .box v] (fun r fp => r = .bl false ∧ fp = [Blk.box (.fn (.func h) [] [.pt (KB + 1) [] 0]), .box v])) :
    ACalls Pg f [.sl sz L false, .fn (.func g) [] [.pt KB [] 0]] [Blk.box (.fn (.func h) [] [.pt (KB + 1) [] 0]), .box v] (fun r fp => r = .bl false ∧ fp = [Blk.box (.fn (.func h) [] [.pt (KB + 1) [] 0]), .box v]) := by
  refine ACalls.intro hf (by simp [conFun]) ?_
  have hpl : PureL L := PureL.mk' fun x hx => (hL.el x hx).2.1
  have hwl : wkL L = L := hL.wk
  simp [conFun, argEnv, fpBx]
  refine callS.gen [KB, KB + 1] [] [Blk.box (.fn (.func h) [] [.pt (KB + 1) [] 0]), .box v] (idx_no2 ht hL hv hno) (by simp [getAll]) (by simp) (by simp) (by simp [refsOkL, refsOk, inKs, idx, hpl.refs]) (by simp [refsOkB, refsOk, refsOkL, inKs, idx, hv.refs]) (by simp [renL, ren, ren1, idx, hpl.ren, hwl]) (by simp [renB, ren, renL, ren1, idx, hv.ren]) (by simp [refsOkB, refsOk, refsOkL, inFp, hv.refs]) ?_
  simp [putAll, renB, ren, renL, ren2, hv.ren]
  refine RetS.with [] [KB, KB + 1] ?_
  simp [refsOkB, refsOk, refsOkL, renB, ren, renL, inFp, hv.refs, hv.ren]
set_option maxRecDepth 10000 in
theorem con_no0 {sz : Nat} {ag : Bool} {f ix : FuncId} (hf : trFun Pg [] [] f = some (conFun ix).er) (ht : trFun Pg [] [] ix = some (idxFun sz ag).er) {L : List PV} (hL : Els sz ag L) {g : FuncId} 
    (hno : ∀ x ∈ L, ACalls Pg g [x] [] (fun r fp => r = .bl false ∧ fp = [])) :
    ACalls Pg f [.sl sz L false, .fn (.func g) [] []] [] (fun r fp => r = .bl false ∧ fp = []) := by
  refine ACalls.intro hf (by simp [conFun]) ?_
  have hpl : PureL L := PureL.mk' fun x hx => (hL.el x hx).2.1
  have hwl : wkL L = L := hL.wk
  simp [conFun, argEnv, fpBx]
  refine callS.gen [] [] [] (idx_no0 ht hL hno) (by simp [getAll]) (by simp) (by simp) (by simp [refsOkL, refsOk, inKs, idx, hpl.refs]) (by simp [refsOkB, refsOk, refsOkL, inKs, idx]) (by simp [renL, ren, ren1, idx, hpl.ren, hwl]) (by simp [renB, ren, renL, ren1, idx]) (by simp [refsOkB, refsOk, refsOkL, inFp]) ?_
  simp [putAll, renB, ren, renL, ren2]
  refine RetS.with [] [] ?_
  simp [refsOkB, refsOk, refsOkL, renB, ren, renL, inFp]
end Go.Ab
namespace Go.Ab
open Go.Ab
theorem els_peers {l : List Per} (h : l.length ≤ 1048576) : Els 464 true (l.map encPe) := by
  refine ⟨by simpa using h, fun x hx => ?_⟩
  obtain ⟨p, _, rfl⟩ := List.mem_map.1 hx
  exact ⟨⟨rfl, rfl⟩, by simp, by simp, fun K => by simp⟩
@[simp] theorem fn_width (f : Fn) (a b : List PV) : (PV.fn f a b).width = 1 := rfl
set_option maxRecDepth 10000 in
theorem every1_t {d : Dmn} {p : Per} {h : FuncId} (hy : ACalls Pg h [encPe p, .pt KB [] 0] [.box (encD d)] (fun r fp => r = .bl true ∧ fp = [.box (encD d)])) :
    ACalls Pg I.rules_every_1 [encPe p, .pt KB [] 0] [.box (.fn (.func h) [] [.pt (KB + 1) [] 0]), .box (encD d)] (fun r fp => r = .bl false ∧ fp = [.box (.fn (.func h) [] [.pt (KB + 1) [] 0]), .box (encD d)]) := by
  refine ACalls.intro T.rules_every_1 (by simp [F.rules_every_1]) ?_
  simp [F.rules_every_1, argEnv, fpBx]
  refine callS.gen [KB + 1] [] [.box (encD d)] hy (by simp [getAll]) (by simp) (by simp) (by simp [refsOkL, refsOk, inKs, idx, (pure_encPe p).refs]) (by simp [refsOkB, (pure_encD d).refs]) (by simp [renL, ren, ren1, idx, (pure_encPe p).ren]) (by simp [renB, (pure_encD d).ren]) (by simp [refsOkB, refsOk, (pure_encD d).refs]) ?_
  simp [putAll, renB, ren, ren2, (pure_encD d).ren]
  refine RetS.with [] [KB, KB + 1] ?_
  simp [refsOkB, refsOk, refsOkL, renB, ren, renL, inFp, (pure_encD d).ren, (pure_encD d).refs]
set_option maxRecDepth 10000 in
theorem every_t {d : Dmn} {h : FuncId} (hl : d.peers.length ≤ 1048576) (hy : ∀ p ∈ d.peers, ACalls Pg h [encPe p, .pt KB [] 0] [.box (encD d)] (fun r fp => r = .bl true ∧ fp = [.box (encD d)])) :
    ACalls Pg I.rules_every [encD d, .fn (.func h) [] [.pt KB [] 0]] [.box (encD d)] (fun r fp => r = .bl true ∧ fp = [.box (encD d)]) := by
  refine ACalls.intro T.rules_every (by simp [F.rules_every]) ?_
  simp [F.rules_every, argEnv, fpBx]
  have hc := con_no2 (f := I.slices_ContainsFunc_api_Peer_api_Peer) (ix := I.slices_IndexFunc_api_Peer_api_Peer) T.slices_ContainsFunc_api_Peer_api_Peer T.slices_IndexFunc_api_Peer_api_Peer (els_peers hl) (g := I.rules_every_1) (h := h) (v := encD d) (by simp) (fun x hx => by
    obtain ⟨p, hp, rfl⟩ := List.mem_map.1 hx
    exact every1_t (hy p hp))
  refine callS.gen [3, KB] [] [.box (.fn (.func h) [] [.pt KB [] 0]), .box (encD d)] hc (by simp [getAll]) (by simp) (by simp) (by simp [refsOkL, refsOk, inKs, idx, encPes, (pureL_map pure_encPe d.peers).refs]) (by simp [refsOkB, refsOk, refsOkL, inKs, idx, (pure_encD d).refs]) (by simp [renL, ren, ren1, idx, encPes, (pureL_map pure_encPe d.peers).ren]) (by simp [renB, ren, renL, ren1, idx, (pure_encD d).ren]) (by simp [refsOkB, refsOk, refsOkL, inFp, (pure_encD d).refs]) ?_
  simp [putAll, renB, ren, renL, ren2, (pure_encD d).ren]
  refine RetS.with [] [KB] ?_
  simp [refsOkB, (pure_encD d).refs, renB, (pure_encD d).ren]
set_option maxRecDepth 10000 in
theorem ihands1_t {d : Dmn} {p : Per} (h : PerOk d p) : ACalls Pg I.rules_hands_1 [encPe p, .pt KB [] 0] [.box (encD d)] (fun r fp => r = .bl true ∧ fp = [.box (encD d)]) := by
  refine ACalls.intro T.rules_hands_1 (by simp [F.rules_hands_1]) ?_
  have h1 := h.hand
  have h2 : zHnd.has = false := rfl
  have hb := beq_encH zHnd
  have hf := fits_encH zHnd
  have e : encH zHnd = (.st 100 [.bl false, .int .u32 0, .ar 1 32 (zr 32 (.int .u8 0)), .st 64 [.ar 1 32 (zr 32 (.int .u8 0)), .ar 1 32 (zr 32 (.int .u8 0))], .int .i64 0, .int .i64 0]) := rfl
  rw [e] at hb hf
  simp [F.rules_hands_1, argEnv, fpBx, h1, h2, e, widths]
  refine ⟨hf, ?_⟩
  refine RetS.with [] [KB] ?_
  simp [hb, refsOkB, (pure_encD d).refs, renB, (pure_encD d).ren]
set_option maxRecDepth 10000 in
theorem ihands_t {d : Dmn} (h : VD d) : ARet Pg I.rules_hands [encD d] (.bl true) := by
  refine ACalls.intro T.rules_hands (by simp [F.rules_hands]) ?_
  have hl := h.pks.1
  simp [F.rules_hands, argEnv, fpBx]
  refine callS.gen [1] [] [.box (encD d)] (every_t (d := d) (h := I.rules_hands_1) (by omega) (fun p hp => ihands1_t (h.per p hp))) (by simp [getAll]) (by simp) (by simp) (by simp [refsOkL, refsOk, inKs, idx, (pure_encD d).refs]) (by simp [refsOkB, (pure_encD d).refs]) (by simp [renL, ren, ren1, idx, (pure_encD d).ren]) (by simp [renB, (pure_encD d).ren]) (by simp [refsOkB, refsOk, (pure_encD d).refs]) ?_
  simp [putAll, renB, ren, ren2, (pure_encD d).ren]
  refine RetS.plain [] ?_
  simp
end Go.Ab
