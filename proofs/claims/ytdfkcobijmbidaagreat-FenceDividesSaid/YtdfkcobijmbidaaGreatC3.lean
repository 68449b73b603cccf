/- Joining, the tag, and what a reckoning knows of them. No condition. -/
import Derived.Test.YtdfkcobijmbidaaGreatC1
import Derived.Test.YtdfkcobijmbidaaGreatC2
import Derived.Test.YtdfkcobijmbidaaGreatA8
set_option linter.all false
noncomputable section M5s
namespace Go.Ab
open Go.Ab
def bS (l : List Int) : PV := .sl 1 (by_ l) false
@[simp] theorem bS_pure (l : List Int) : Pure (bS l) := by simp [bS]
@[simp] theorem bS_wk (l : List Int) : wk (bS l) = bS l := by simp [bS]
@[simp ↓] theorem vgk_bS (g : Bool) (l : List Int) (K : PV → Prop) : vgk g (bS l) K = K (bS l) := _root_.id rfl
@[simp] theorem bS_width (l : List Int) : (bS l).width = 1 := _root_.id rfl
@[simp] theorem bS_cell (l : List Int) : (bS l).cellular = true := _root_.id rfl
theorem pcs_set (d : List Int) (n : Nat) (hn : n = min d.length 16) : (by_ (d.take n) ++ (zr 24 (PV.int .u8 0)).drop n).set n (.int .u8 1) = by_ (d.take 16 ++ 1 :: List.replicate (23 - (d.take 16).length) 0) := by
  have hl : (by_ (d.take n)).length = n := by simp; omega
  have ht : d.take 16 = d.take n := by
    rcases Nat.lt_or_ge d.length 16 with h | h
    · rw [List.take_of_length_le (by omega), List.take_of_length_le (by omega)]
    · rw [hn, Nat.min_eq_right h]
  have hl2 : (d.take n).length = n := by simp; omega
  rw [ht, hl2, List.set_append, if_neg (by omega), hl, Nat.sub_self, zr_eq, List.drop_replicate, show 24 - n = (23 - n) + 1 by omega, List.replicate_succ]
  simp [by_]
theorem pcs_set' (d : List Int) (n : Nat) (hn : n = min d.length 16) : by_ (d.take n) ++ ((zr 24 (PV.int .u8 0)).drop n).set 0 (.int .u8 1) = by_ (d.take 16 ++ 1 :: List.replicate (23 - (d.take 16).length) 0) := by
  have hl : (by_ (d.take n)).length = n := by simp; omega
  rw [← pcs_set d n hn, List.set_append, if_neg (by omega), hl, Nat.sub_self]
theorem pcs_get (d : List Int) (n : Nat) (hn : n = min d.length 16) : (by_ (d.take n) ++ (zr 24 (PV.int .u8 0)).drop n)[n]? = some (.int .u8 0) := by
  have hl : (by_ (d.take n)).length = n := by simp; omega
  rw [List.getElem?_append_right (by omega), hl, Nat.sub_self, zr_eq, List.drop_replicate, show 24 - n = (23 - n) + 1 by omega, List.replicate_succ]
  rfl
@[simp ↓] theorem s2aK_bS {s : St} {n sz : Nat} {K : PV → Prop} (l : List Int) : s2aK s n sz K (bS l) = ((1 = sz ∧ 0 < n ∧ n ≤ l.length) ∧ K (.fp sz (by_ l) [.w 0 n sz])) := by
  simp [bS]
theorem by_app (l m : List Int) : by_ (l ++ m) = by_ l ++ by_ m := by simp [by_]
theorem jl_succ {ps : List (List Int)} {i : Nat} (h : i < ps.length) : (ps.take (i + 1)).flatten = (ps.take i).flatten ++ ps[i] := by
  rw [List.take_succ_eq_append_getElem h, List.flatten_append]; simp
theorem jl_le {ps : List (List Int)} (i : Nat) : ((ps.take i).flatten).length ≤ ps.flatten.length := by
  have e : ps.flatten = (ps.take i).flatten ++ (ps.drop i).flatten := by rw [← List.flatten_append, List.take_append_drop]
  rw [e, List.length_append]; omega
theorem codec_JoinO (zs : List (Nat × List Int)) (hz : ∀ x ∈ zs, x.1 = 1 ∨ x.2 = []) (h : (zs.map (·.2)).flatten.length ≤ 1099511627776) (hn : zs.length ≤ 1099511627776) : AOwn Pg I.codec_Join [.sl 1 (zs.map fun x => .sl x.1 (by_ x.2) false) false] 1 (by_ (zs.map (·.2)).flatten) := by
  refine ACalls.intro T.codec_Join (by simp [F.codec_Join]) ?_
  simp [F.codec_Join, argEnv, fpBx]
  have hlen : (zs.map (·.2)).length = zs.length := by simp
  generalize hps : zs.map (·.2) = ps at *
  refine LpS.rng ps.length (fun _ => True) [3, 6, 7, 8] (fun i => [(3, .rs 3 [] 0 (ps.take i).flatten.length (ps.take i).flatten.length 1 .tip), (8, .int .i64 i)]) (fun i => [(3, .arr 1 (by_ (ps.take i).flatten))]) [.keep [3, 6, 7, 8], .vt 3 3 1] ?_
  simp [show by_ [] = [] from rfl, -List.length_flatten, hlen]
  refine ⟨fun i hi K hK => ?_, fun K => ?_⟩
  · have hw2 : IntKind.i64.wrap ((i : Int) + 1) = (i : Int) + 1 := wrap_i64 (by omega)
    have hl1 := jl_le (ps := ps) i
    have hl2 := jl_le (ps := ps) (i + 1)
    have hi' : i < ps.length := by omega
    rw [jl_succ hi', List.length_append] at hl2
    rw [jl_succ hi'] at hK
    have hx : zs[i]? = some zs[i] := List.getElem?_eq_getElem hi
    have hp : ps[i] = zs[i].2 := by subst hps; simp
    rw [hp] at hl2 hK
    have hzz := hz zs[i] (List.getElem_mem hi)
    generalize zs[i] = p at *
    generalize (ps.take i).flatten = A at *
    obtain ⟨z, q⟩ := p
    have hl3 : A.length + q.length ≤ ps.flatten.length := hl2
    have hor : q = [] ∨ z = 1 := by rcases hzz with h | h; exact .inr h; exact .inl h
    have hor' : by_ q = [] ∨ z = 1 := by rcases hor with rfl | h; exact .inl rfl; exact .inr h
    simp [↓aw_lk, hi, hw2, hx, -getElem?_pos]
    refine ⟨hor', ⟨by omega, by omega⟩, [.keep [3, 6, 7, 8]], ?_⟩
    simp
    exact hK _ (by simp [by_app])
  · simp [↓aw_lk, -List.length_flatten]
    refine RetS.with [.keep [2]] [3] ?_
    simp [-List.length_flatten]
    rw [List.take_of_length_le (l := ps) (by omega)]
    simp [-List.length_flatten]
    rw [← hps, List.length_flatten, List.map_map]
theorem codec_JoinZ (zs : List (Nat × List Int)) (hz : ∀ x ∈ zs, x.1 = 1 ∨ x.2 = []) (h : (zs.map (·.2)).flatten.length ≤ 1099511627776) (hn : zs.length ≤ 1099511627776) : ARet Pg I.codec_Join [.sl 1 (zs.map fun x => .sl x.1 (by_ x.2) false) false] (bS (zs.map (·.2)).flatten) :=
  (codec_JoinO zs hz h hn).frz (by_pure _)
theorem codec_Join (ps : List (List Int)) (h : ps.flatten.length ≤ 1099511627776) (hn : ps.length ≤ 1099511627776) : ARet Pg I.codec_Join [.sl 1 (ps.map bS) false] (bS ps.flatten) := by
  have e1 : (ps.map fun l => ((1 : Nat), l)).map (·.2) = ps := by rw [List.map_map]; exact List.map_id ps
  have e2 : (ps.map fun l => ((1 : Nat), l)).map (fun x => PV.sl x.1 (by_ x.2) false) = ps.map bS := by rw [List.map_map]; rfl
  have := codec_JoinZ (ps.map fun l => (1, l)) (by simp) (by rw [e1]; exact h) (by simpa using hn)
  rw [e1, e2] at this
  exact this
def lei (n : Int) (k : Nat) : List Int := (List.range k).map fun i => lB n i
@[simp] theorem lei_len (n : Int) (k : Nat) : (lei n k).length = k := by simp [lei]
theorem le_lei (n : Int) (k : Nat) : le n k = by_ (lei n k) := by simp [le, lei, by_]
theorem codec_LittleS (n : Int) (k : Nat) (h1 : 1 ≤ k) (h2 : k ≤ 8) : ARet Pg I.codec_Little [.int .u64 n, .int .i64 k] (bS (lei n k)) := by
  have := codec_Little n k h1 h2
  rw [le_lei] at this
  exact this
theorem callS.vw {P : Program} {s : St} [YCtx] {d : Option Nat} {f : FuncId} {k off n N : Nat} {c : CapK} {L ys : List PV} {v : PV} {K : St → Prop} {t : Tg K} (hA : ARet P f [.sl 1 ys false] v)
    (hb : get s.bx k = some (.box (.ar 1 N L))) (hL : PureL L) (hyp : PureL ys) (hn : off + n ≤ N) (hys : (L.drop off).take n = ys) (hv : Pure v) (hv2 : noSlT v = true)
    (h : K ({ s with bx := put s.bx k (.box (.ar 1 N L)) }.put d v)) : callS P s d f [.rs k [] off n 0 1 c] K t := by
  refine callS.view [k] [] [.box (.ar 1 N L)] (args' := [.rs KB [] off n 0 1 c]) (blks' := [.box (.ar 1 N L)]) hA (by simp [getAll, hb]) (by simp) (by simp) (by simp [refsOkL, refsOk, inKs, idx]) (by simp [refsOkB, refsOk, hL.refs]) (by simp [renL, ren, ren1, idx]) (by simp [renB, ren, hL.ren]) ?_ ?_ ?_
  · refine ⟨.inl (.inr ⟨KB, [], off, n, 0, 1, c, ys, rfl, ?_, hyp.refs _, by omega, rfl⟩), trivial⟩
    simp [content, fpBx, hys, hn, getP]
  · rintro r new ⟨rfl, rfl⟩
    exact ⟨⟨hv2, by simp⟩, rfl⟩
  · rintro r new ⟨rfl, rfl⟩
    simp [hv.ren, hv.refs, refsOkB, refsOk, hL.refs, renB, ren, hL.ren, putAll]
    exact h
theorem rB_R (l : List Int) : ∀ i, R64 (rB l i)
  | 0 => ⟨by simp [rB], by simp [rB]⟩
  | i + 1 => (rB_R l i).or (R64.wrap _)
@[simp] theorem eN_width (h : Int × Int × Int) : (eN h).width = 3 := _root_.id rfl
@[simp] theorem eN_agg (h : Int × Int × Int) : (eN h).isAgg = true := _root_.id rfl
@[simp] theorem eN_cell (h : Int × Int × Int) : (eN h).cellular = true := _root_.id rfl
@[simp] theorem eN_wk (h : Int × Int × Int) : wk (eN h) = eN h := by simp [eN]
@[simp ↓] theorem vgk_eN (g : Bool) (h : Int × Int × Int) (K : PV → Prop) : vgk g (eN h) K = K (eN h) := _root_.id rfl
@[simp ↓] theorem getP_eN0 (h : Int × Int × Int) (r : List Step) : getP (eN h) (.i 0 1 :: r) = getP (.int .u64 h.1) r := by simp [eN]
@[simp ↓] theorem getP_eN1 (h : Int × Int × Int) (r : List Step) : getP (eN h) (.i 1 1 :: r) = getP (.int .u64 h.2.1) r := by simp [eN]
@[simp ↓] theorem getP_eN2 (h : Int × Int × Int) (r : List Step) : getP (eN h) (.i 2 1 :: r) = getP (.int .u64 h.2.2) r := by simp [eN]
@[simp ↓] theorem setP_eN2 (h : Int × Int × Int) (x : Int) : setP (eN h) [.i 2 1] (.int .u64 x) = some (eN (h.1, h.2.1, x)) := by simp [eN]
def pcs (l : List Int) : List Int := l.take 16 ++ 1 :: List.replicate (23 - (l.take 16).length) 0
def pStep (r0 r1 : Int) (h : Int × Int × Int) (p : List Int) : Int × Int × Int :=
  let a := nAdd h (rB ((p.drop 8).take 8) 8, rB (p.take 8) 8)
  nTimes (a.1, a.2.1, IntKind.u64.wrap (a.2.2 + rB (p.drop 16) 8)) r0 r1
def pAcc (r0 r1 : Int) (l : List Int) : Nat → Int × Int × Int
  | 0 => (0, 0, 0)
  | i + 1 => pStep r0 r1 (pAcc r0 r1 l i) (pcs (l.drop (16 * i)))
theorem pAcc_R (r0 r1 : Int) (l : List Int) : ∀ i, R64 (pAcc r0 r1 l i).1 ∧ R64 (pAcc r0 r1 l i).2.1 ∧ R64 (pAcc r0 r1 l i).2.2
  | 0 => ⟨⟨by simp [pAcc], by simp [pAcc]⟩, ⟨by simp [pAcc], by simp [pAcc]⟩, by simp [pAcc], by simp [pAcc]⟩
  | i + 1 => nAdd_R _ _
def pR0 (k : List Int) : Int := bits .and .u64 (rB (k.take 8) 8) 1152921487695413247
def pR1 (k : List Int) : Int := bits .and .u64 (rB ((k.drop 8).take 8) 8) 1152921487695413244
def pEnd (k l : List Int) : Int × Int × Int := nAdd (nRed (pAcc (pR0 k) (pR1 k) l ((l.length + 15) / 16))) (rB (k.drop 24) 8, rB ((k.drop 16).take 8) 8)
def pTag (k l : List Int) : PV := .ar 1 16 (le (pEnd k l).1 8 ++ le (pEnd k l).2.1 8)
set_option maxRecDepth 20000 in
set_option maxHeartbeats 4000000 in
theorem poly_Sum (k l : List Int) (hk : k.length = 32) (hl : l.length ≤ 1099511627776) : ARet Pg I.poly_Sum [.ar 1 32 (by_ k), .sl 1 (by_ l) false] (pTag k l) := by
  refine ACalls.intro T.poly_Sum (by simp [F.poly_Sum]) ?_
  have hkp := by_pure k
  have rd := fun (m : List Int) (h : m.length = 8) => by
    have := codec_ReadLittle m (by omega) false
    rw [show min m.length 8 = 8 by omega] at this
    exact this
  simp [F.poly_Sum, argEnv, fpBx]
  refine callS.vw (N := 32) (L := by_ k) (ys := by_ (k.take 8)) (v := .int .u64 (rB (k.take 8) 8)) (rd _ (by simp; omega)) (by simp) hkp (by simp) (by omega) (by simp [by_]) (by simp) rfl ?_
  simp
  refine callS.vw (N := 32) (L := by_ k) (ys := by_ ((k.drop 8).take 8)) (v := .int .u64 (rB ((k.drop 8).take 8) 8)) (rd _ (by simp; omega)) (by simp) hkp (by simp) (by omega) (by simp [by_]) (by simp) rfl ?_
  simp
  have z3 : zr 3 (PV.int .u64 0) = [.int .u64 0, .int .u64 0, .int .u64 0] := by rw [zr_eq]; rfl
  rw [z3]
  refine LpS.rng ((l.length + 15) / 16) (fun _ => True) [1, 2, 4, 5, 6, 7] (fun i => [(1, .sl 1 (by_ (l.drop (16 * i))) false)]) (fun i => [(7, .box (eN (pAcc (pR0 k) (pR1 k) l i)))]) [.keep [1, 2, 4, 5, 6, 7]] ?_
  simp [show eN (pAcc (pR0 k) (pR1 k) l 0) = .ar 1 3 [.int .u64 0, .int .u64 0, .int .u64 0] from rfl]
  refine ⟨fun i hi K hK => ?_, fun K => ?_⟩
  · have hd : (l.drop (16 * i)).length = l.length - 16 * i := by simp
    have hd0 : 0 < (l.drop (16 * i)).length := by omega
    have hdr : l.drop (16 * (i + 1)) = (l.drop (16 * i)).drop 16 := by rw [List.drop_drop]; congr 1
    rw [hdr] at hK
    rw [show pAcc (pR0 k) (pR1 k) l (i + 1) = pStep (pR0 k) (pR1 k) (pAcc (pR0 k) (pR1 k) l i) (pcs (l.drop (16 * i))) from rfl] at hK
    generalize l.drop (16 * i) = d at *
    have hR := pAcc_R (pR0 k) (pR1 k) l i
    generalize pAcc (pR0 k) (pR1 k) l i = h at *
    have hn : min (d.length : Int) 16 = ((min d.length 16 : Nat) : Int) := by omega
    have hs := pcs_set' d (min d.length 16) rfl
    have hdd : (by_ d).take d.length = by_ d := List.take_of_length_le (by simp)
    have hg := pcs_get d (min d.length 16) rfl
    have hn1 : min (min d.length 16) (min d.length 24) = min d.length 16 := by omega
    have hn2 : d.drop 16 = d.drop (min d.length 16) := by
      rcases Nat.lt_or_ge d.length 16 with h | h
      · rw [List.drop_of_length_le (by omega), List.drop_of_length_le (by omega)]
      · rw [Nat.min_eq_right h]
    have hn3 : min d.length 16 ≤ d.length := by omega
    have hn4 : min d.length 16 ≤ 16 := by omega
    rw [hn2] at hK
    rw [show (d.take 16 ++ 1 :: List.replicate (23 - (d.take 16).length) 0) = pcs d from rfl] at hs
    generalize min d.length 16 = n at *
    have hbt : (by_ d).take n = by_ (d.take n) := by simp [by_]
    have hbd : (by_ d).drop n = by_ (d.drop n) := by simp [by_]
    have hm24 : min n 24 = n := by omega
    have htt : (by_ (d.take n)).take n = by_ (d.take n) := List.take_of_length_le (by simp; omega)
    simp [↓aw_lk, hd0, hn, hn1, hn3, hbt, hm24, htt, hs, hg, hdd, hbd, -getElem?_pos]
    refine ⟨by omega, ?_⟩
    have hpl : (pcs d).length = 24 := by simp [pcs]; omega
    have hpp := by_pure (pcs d)
    generalize pcs d = p at *
    refine DrS.run [] rfl ?_
    simp
    refine callS.vw (N := 24) (L := by_ p) (ys := by_ ((p.drop 8).take 8)) (v := .int .u64 (rB ((p.drop 8).take 8) 8)) (rd _ (by simp; omega)) (by simp) hpp (by simp) (by omega) (by simp [by_]) (by simp) rfl ?_
    simp
    refine callS.vw (N := 24) (L := by_ p) (ys := by_ (p.take 8)) (v := .int .u64 (rB (p.take 8) 8)) (rd _ (by simp; omega)) (by simp) hpp (by simp) (by omega) (by simp [by_]) (by simp) rfl ?_
    simp
    refine callT.ret (poly_add (h := h) (x := (rB ((p.drop 8).take 8) 8, rB (p.take 8) 8)) hR.1 hR.2.1 (rB_R _ _) (rB_R _ _)) (by simp [eW]) (by simp) (by simp) ?_
    simp
    refine DrS.run [] rfl ?_
    simp
    refine callS.vw (N := 24) (L := by_ p) (ys := by_ (p.drop 16)) (v := .int .u64 (rB (p.drop 16) 8)) (rd _ (by simp; omega)) (by simp) hpp (by simp) (by omega) (by rw [List.take_of_length_le (by simp; omega)]; simp [by_]) (by simp) rfl ?_
    simp
    refine callS.ret (poly_times _ _ _) (by simp; exact ⟨rfl, rfl, rfl⟩) (by simp) (by simp) ?_
    simp
    refine ⟨[.keep [1, 2, 4, 5, 6, 7], .dr 9], ?_⟩
    simp [refsEnv, refsBx, refsOk, refsOkB, hkp.refs]
    exact hK _ (by simp [pStep, pR0, pR1])
  · have hz : l.drop (16 * ((l.length + 15) / 16)) = [] := List.drop_of_length_le (by omega)
    have hR := pAcc_R (pR0 k) (pR1 k) l ((l.length + 15) / 16)
    have hE : pTag k l = pTag k l := rfl
    conv at hE => lhs; unfold pTag pEnd
    generalize pAcc (pR0 k) (pR1 k) l ((l.length + 15) / 16) = h at *
    rw [hz]
    simp [↓aw_lk, show by_ [] = [] from rfl]
    refine DrS.run [] rfl ?_
    simp
    refine callT.ret (poly_reduced hR.1 hR.2.1 hR.2.2) (by simp) (by simp) (by simp) ?_
    simp
    refine callS.vw (N := 32) (L := by_ k) (ys := by_ (k.drop 24)) (v := .int .u64 (rB (k.drop 24) 8)) (rd _ (by simp; omega)) (by simp) hkp (by simp) (by omega) (by rw [List.take_of_length_le (by simp; omega)]; simp [by_]) (by simp) rfl ?_
    simp
    refine callS.vw (N := 32) (L := by_ k) (ys := by_ ((k.drop 16).take 8)) (v := .int .u64 (rB ((k.drop 16).take 8) 8)) (rd _ (by simp; omega)) (by simp) hkp (by simp) (by omega) (by simp [by_]) (by simp) rfl ?_
    simp
    have hU := nRed_R hR.1 hR.2.1
    refine callT.ret (poly_add (h := nRed h) (x := (rB (k.drop 24) 8, rB ((k.drop 16).take 8) 8)) hU.1 hU.2 (rB_R _ _) (rB_R _ _)) (by simp [eW]) (by simp) (by simp) ?_
    simp
    generalize nAdd (nRed h) (rB (k.drop 24) 8, rB ((k.drop 16).take 8) 8) = U at *
    refine callT.ret (codec_LittleS U.1 8 (by omega) (by omega)) (by simp) (by simp) (by simp) ?_
    simp
    refine callT.ret (codec_LittleS U.2.1 8 (by omega) (by omega)) (by simp) (by simp) (by simp) ?_
    simp
    refine callT.ret (codec_Join [lei U.1 8, lei U.2.1 8] (by simp) (by simp)) (by simp) (by simp) (by simp) ?_
    have htk : (by_ (lei U.1 8 ++ lei U.2.1 8)).take 16 = by_ (lei U.1 8 ++ lei U.2.1 8) := List.take_of_length_le (by simp)
    simp [htk]
    refine RetS.plain [.keep [4]] ?_
    simp
    rw [← hE]
    simp [le_lei, by_app]
end Go.Ab
end M5s
noncomputable section M6s
namespace Go.Ab
open Go.Ab
set_option maxRecDepth 100000
def uL (k : IntKind) (n : Nat) : List AV := List.replicate n (.int k none)
def uA (k : IntKind) (n : Nat) : AV := .ar 1 n (uL k n)
def uS (k : IntKind) (n : Nat) : AV := .sl 1 (uL k n) false
def uI (k : IntKind) : AV := .int k none
def kI (n : Int) : AV := .int .i64 (some n)
theorem uL_by : ∀ {n : Nat} {m : List PV}, gmL (uL .u8 n) m → ∃ l : List Int, l.length = n ∧ m = by_ l
  | 0, [], _ => ⟨[], rfl, rfl⟩
  | 0, _ :: _, h => by simp [uL, gmL] at h
  | n + 1, [], h => by simp [uL, List.replicate_succ, gmL] at h
  | n + 1, p :: m, h => by
    simp only [uL, List.replicate_succ, gmL] at h
    obtain ⟨h1, h2⟩ := h
    obtain ⟨l, h3, rfl⟩ := uL_by h2
    cases p <;> simp only [gm] at h1
    rename_i k x
    obtain ⟨rfl, _⟩ := h1
    exact ⟨x :: l, by simp [h3], by simp [by_]⟩
theorem by_uL : ∀ (l : List Int), gmL (uL .u8 l.length) (by_ l)
  | [] => by simp [uL, by_, gmL]
  | x :: l => by
    have := by_uL l
    simp only [uL, by_, List.length_cons, List.replicate_succ, List.map_cons, gmL, gm]
    exact ⟨⟨trivial, by simp⟩, this⟩
theorem by_uL' {l : List Int} {n : Nat} (h : l.length = n) : gmL (uL .u8 n) (by_ l) := h ▸ by_uL l
theorem gm_uS {n : Nat} {p : PV} (h : gm (uS .u8 n) p) : ∃ l : List Int, l.length = n ∧ p = bS l := by
  cases p <;> simp only [uS, gm] at h
  obtain ⟨⟨rfl, rfl⟩, h⟩ := h
  obtain ⟨l, h1, rfl⟩ := uL_by h
  exact ⟨l, h1, rfl⟩
theorem gm_uA {n : Nat} {p : PV} (h : gm (uA .u8 n) p) : ∃ l : List Int, l.length = n ∧ p = .ar 1 n (by_ l) := by
  cases p <;> simp only [uA, gm] at h
  obtain ⟨⟨rfl, rfl⟩, h⟩ := h
  obtain ⟨l, h1, rfl⟩ := uL_by h
  exact ⟨l, h1, rfl⟩
theorem gm_uI {k : IntKind} {p : PV} (h : gm (uI k) p) : ∃ n, p = .int k n := by
  cases p <;> simp only [uI, gm] at h
  obtain ⟨rfl, _⟩ := h
  exact ⟨_, rfl⟩
theorem gm_kI {n : Int} {p : PV} (h : gm (kI n) p) : p = .int .i64 n := by
  cases p <;> simp only [kI, gm] at h
  obtain ⟨rfl, h⟩ := h
  rw [h n rfl]
theorem uS_gm {l : List Int} {n : Nat} (h : l.length = n) : gm (uS .u8 n) (bS l) := by
  simp only [uS, bS, gm]
  exact ⟨⟨trivial, trivial⟩, by_uL' h⟩
theorem uA_gm {l : List Int} {n : Nat} (h : l.length = n) : gm (uA .u8 n) (.ar 1 n (by_ l)) := by
  simp only [uA, gm]
  exact ⟨⟨trivial, trivial⟩, by_uL' h⟩
theorem ok_Little {n : Nat} (h1 : 1 ≤ n) (h2 : n ≤ 8) (hp : (uS .u8 n).pureT = true) : (⟨I.codec_Little, [uI .u64, kI n], .val (uS .u8 n)⟩ : Spec).ok Pg := by
  intro ps h
  refine ⟨hp, ?_⟩
  match ps, h with
  | [a, b], h =>
    simp only [gmL] at h
    obtain ⟨x, rfl⟩ := gm_uI h.1
    rw [gm_kI h.2.1]
    exact ⟨_, uS_gm (by simp), codec_LittleS x n h1 h2⟩
  | [], h => simp [gmL] at h
  | [_], h => simp [gmL] at h
  | _ :: _ :: _ :: _, h => simp [gmL] at h
theorem ok_ReadLittle {n : Nat} (h1 : n ≤ 8) : (⟨I.codec_ReadLittle, [uS .u8 n], .val (uI .u64)⟩ : Spec).ok Pg := by
  intro ps h
  refine ⟨rfl, ?_⟩
  match ps, h with
  | [a], h =>
    simp only [gmL] at h
    obtain ⟨l, hl, rfl⟩ := gm_uS h.1
    exact ⟨_, by simp [uI, gm], codec_ReadLittle l (by omega) false⟩
  | [], h => simp [gmL] at h
  | _ :: _ :: _, h => simp [gmL] at h
theorem ok_Sum {n : Nat} (h1 : n ≤ 4096) : (⟨I.poly_Sum, [uA .u8 32, uS .u8 n], .val (uA .u8 16)⟩ : Spec).ok Pg := by
  intro ps h
  refine ⟨by rfl, ?_⟩
  match ps, h with
  | [a, b], h =>
    simp only [gmL] at h
    obtain ⟨k, hk, rfl⟩ := gm_uA h.1
    obtain ⟨l, hl, rfl⟩ := gm_uS h.2.1
    exact ⟨_, by rw [pTag, le_lei, le_lei, ← by_app]; exact uA_gm (by simp), poly_Sum k l hk (by omega)⟩
  | [], h => simp [gmL] at h
  | [_], h => simp [gmL] at h
  | _ :: _ :: _ :: _, h => simp [gmL] at h
def pzL (l : List (Option Nat)) : List AV := l.map fun | some n => uS .u8 n | none => .sl 0 [] false
theorem pzL_zs : ∀ {l : List (Option Nat)} {m : List PV}, gmL (pzL l) m → ∃ zs : List (Nat × List Int), m = zs.map (fun x => .sl x.1 (by_ x.2) false) ∧ (∀ x ∈ zs, x.1 = 1 ∨ x.2 = []) ∧ zs.length = l.length ∧ (zs.map (·.2)).flatten.length = (l.map (·.getD 0)).sum
  | [], [], _ => ⟨[], rfl, by simp, rfl, rfl⟩
  | [], _ :: _, h => by simp [pzL, gmL] at h
  | _ :: _, [], h => by simp [pzL, gmL] at h
  | o :: l, p :: m, h => by
    simp only [pzL, List.map_cons, gmL] at h
    obtain ⟨zs, rfl, h2, h3, h4⟩ := pzL_zs (l := l) h.2
    cases o with
    | some n =>
      obtain ⟨q, hq, rfl⟩ := gm_uS h.1
      refine ⟨(1, q) :: zs, rfl, ?_, by simp [h3], by simp only [List.map_cons, List.flatten_cons, List.length_append, h4, hq, List.sum_cons, Option.getD_some]⟩
      intro x hx
      rcases List.mem_cons.1 hx with rfl | hx
      · exact .inl rfl
      · exact h2 x hx
    | none =>
      have h1 := h.1
      cases p <;> simp only [gm] at h1
      rename_i z q c
      obtain ⟨⟨rfl, rfl⟩, h5⟩ := h1
      cases q <;> simp only [gmL] at h5
      refine ⟨(0, []) :: zs, rfl, ?_, by simp [h3], by simp only [List.map_cons, List.flatten_cons, List.length_append, h4, List.sum_cons, Option.getD_none, List.length_nil]⟩
      intro x hx
      rcases List.mem_cons.1 hx with rfl | hx
      · exact .inr rfl
      · exact h2 x hx
theorem ok_Join {l : List (Option Nat)} {n : Nat} (hn : (l.map (·.getD 0)).sum = n) (h1 : n ≤ 4096) (h2 : l.length ≤ 4096) (hp : (uS .u8 n).pureT = true) : (⟨I.codec_Join, [.sl 1 (pzL l) false], .val (uS .u8 n)⟩ : Spec).ok Pg := by
  intro ps h
  refine ⟨hp, ?_⟩
  match ps, h with
  | [a], h =>
    simp only [gmL] at h
    have h3 := h.1
    cases a <;> simp only [gm] at h3
    obtain ⟨⟨rfl, rfl⟩, h3⟩ := h3
    obtain ⟨zs, rfl, h4, h5, h6⟩ := pzL_zs h3
    exact ⟨_, uS_gm (by rw [h6, hn]), codec_JoinZ zs h4 (by rw [h6]; omega) (by omega)⟩
  | [], h => simp [gmL] at h
  | _ :: _ :: _, h => simp [gmL] at h
theorem ok_JoinO {l : List (Option Nat)} {n : Nat} (hn : (l.map (·.getD 0)).sum = n) (h1 : n ≤ 4096) (h2 : l.length ≤ 4096) (hp : pureA (uL .u8 n) = true) : (⟨I.codec_Join, [.sl 1 (pzL l) false], .own 1 (uL .u8 n)⟩ : Spec).ok Pg := by
  intro ps h
  refine ⟨hp, ?_⟩
  match ps, h with
  | [a], h =>
    simp only [gmL] at h
    have h3 := h.1
    cases a <;> simp only [gm] at h3
    obtain ⟨⟨rfl, rfl⟩, h3⟩ := h3
    obtain ⟨zs, rfl, h4, h5, h6⟩ := pzL_zs h3
    exact ⟨_, by_uL' (by rw [h6, hn]), codec_JoinO zs h4 (by rw [h6]; omega) (by omega)⟩
  | [], h => simp [gmL] at h
  | _ :: _ :: _, h => simp [gmL] at h
end Go.Ab
end M6s
