/- Bytes of numbers; the message of a packet. No condition. -/
import Derived.Test.YtdfkcobijmbidaaGreatB3
import Derived.Test.YtdfkcobijmbidaaGreatSF1
import Derived.Test.YtdfkcobijmbidaaGreatSF2
import Derived.Test.YtdfkcobijmbidaaGreatSF3
import Derived.Test.YtdfkcobijmbidaaGreatSF4
import Derived.Test.YtdfkcobijmbidaaGreatA5
set_option linter.all false
noncomputable section M1s
namespace Go.Ab
open Go.Ab
def lB (n : Int) (i : Nat) : Int := IntKind.u8.wrap (n.fdiv (2 ^ (8 * i)))
def le (n : Int) (k : Nat) : List PV := (List.range k).map fun i => .int .u8 (lB n i)
theorem le_succ (n : Int) (k : Nat) : le n (k + 1) = le n k ++ [.int .u8 (lB n k)] := by simp [le, List.range_succ]
@[simp] theorem le_len (n : Int) (k : Nat) : (le n k).length = k := by simp [le]
@[simp] theorem le_pure (n : Int) (k : Nat) : PureL (le n k) := pureL_map (fun _ => by simp) _
theorem codec_Little (n : Int) (k : Nat) (h1 : 1 ≤ k) (h2 : k ≤ 8) : ARet Pg I.codec_Little [.int .u64 n, .int .i64 k] (.sl 1 (le n k) false) := by
  refine ACalls.intro T.codec_Little (by simp [F.codec_Little]) ?_
  simp [F.codec_Little, argEnv, fpBx, show ¬ (k : Int) < 1 by omega, show ¬ (8 : Int) < k by omega]
  refine LpS.rng k (fun _ => True) [0, 5, 13, 14] (fun i => [(5, .rs 5 [] 0 i i 1 .tip), (14, .int .i64 i)]) (fun i => [(5, .arr 1 (le n i))]) [.keep [0, 5, 13, 14], .vt 5 5 1] ?_
  simp [show le n 0 = [] from rfl]
  refine ⟨fun i hi K hK => ?_, fun K => ?_⟩
  · have hw : IntKind.i64.wrap (8 * (i : Int)) = ((8 * i : Nat) : Int) := by rw [wrap_i64 (by omega)]; omega
    have hw2 : IntKind.i64.wrap ((i : Int) + 1) = (i : Int) + 1 := wrap_i64 (by omega)
    have hm : min (8 * (i : Int)).toNat IntKind.u64.bits = 8 * i := by
      have e : (8 * (i : Int)).toNat = 8 * i := by omega
      rw [e]; exact Nat.min_eq_left (by show 8 * i ≤ 64; omega)
    simp [↓aw_lk, hi, hw, hw2, hm]
    refine ⟨by omega, ⟨by omega, by omega⟩, [], ?_⟩
    simp
    exact hK _ (by simp [le_succ, lB])
  · simp [↓aw_lk]
    refine RetS.plain [.keep [4], .fz 5] ?_
    simp [List.take_of_length_le]
def rB (l : List Int) : Nat → Int
  | 0 => 0
  | i + 1 => bits .or .u64 (rB l i) (IntKind.u64.wrap (IntKind.u64.wrap (l.getD i 0) * 2 ^ (8 * i)))
theorem codec_ReadLittle (l : List Int) (h : l.length ≤ 9223372036854775807) (b : Bool) : ARet Pg I.codec_ReadLittle [.sl 1 (l.map (PV.int .u8)) b] (.int .u64 (rB l (min l.length 8))) := by
  refine ACalls.intro T.codec_ReadLittle (by simp [F.codec_ReadLittle]) ?_
  have hm0 : min (l.length : Int) 8 = ((min l.length 8 : Nat) : Int) := by omega
  have hm1 : min l.length 8 ≤ 8 := by omega
  have hm2 : min l.length 8 ≤ l.length := by omega
  generalize min l.length 8 = m at *
  simp [F.codec_ReadLittle, argEnv, fpBx, hm0]
  refine LpS.rng m (fun _ => True) [0, 3, 7, 8] (fun i => [(3, .int .u64 (rB l i)), (8, .int .i64 i)]) (fun i => []) [.keep [0, 3, 7, 8]] ?_
  simp [show rB l 0 = 0 from rfl]
  refine ⟨fun i hi K hK => ?_, fun K => ?_⟩
  · have hw : IntKind.i64.wrap (8 * (i : Int)) = ((8 * i : Nat) : Int) := by rw [wrap_i64 (by omega)]; omega
    have hw2 : IntKind.i64.wrap ((i : Int) + 1) = (i : Int) + 1 := wrap_i64 (by omega)
    have hm : min (8 * (i : Int)).toNat IntKind.u64.bits = 8 * i := by
      have e : (8 * (i : Int)).toNat = 8 * i := by omega
      rw [e]; exact Nat.min_eq_left (by show 8 * i ≤ 64; omega)
    have hi1 : i < l.length := by omega
    simp [↓aw_lk, hi, hi1, hw, hw2, hm]
    refine ⟨by omega, [.keep [0, 3, 7, 8]], ?_⟩
    simp
    exact hK _ (by simp [rB, hi1])
  · simp [↓aw_lk]
    refine RetS.plain [] ?_
    simp
theorem lB_nat (n i : Nat) : lB (n : Int) i = ((n / 2 ^ (8 * i) % 256 : Nat) : Int) := by
  unfold lB
  have e : ((n : Int)).fdiv (2 ^ (8 * i)) = ((n / 2 ^ (8 * i) : Nat) : Int) := by
    have h2 : ((2 : Int) ^ (8 * i)) = ((2 ^ (8 * i) : Nat) : Int) := by simp
    rw [h2, Int.fdiv_eq_ediv_of_nonneg _ (Int.natCast_nonneg _)]
    simp
  rw [e, IntKind.wrap_u8']
  omega
def les (n k : Nat) : List Int := (List.range k).map fun i => lB (n : Int) i
theorem le_les (n k : Nat) : le (n : Int) k = (les n k).map (PV.int .u8) := by simp [le, les]
@[simp] theorem les_len (n k : Nat) : (les n k).length = k := by simp [les]
theorem rB_les (n k : Nat) (m : List Int) (hk : k ≤ 8) : ∀ i, i ≤ k → rB (les n k ++ m) i = ((n % 2 ^ (8 * i) : Nat) : Int)
  | 0, _ => by simp [rB, Nat.mod_one]
  | i + 1, h => by
    have ih := rB_les n k m hk i (by omega)
    have hg : (les n k ++ m).getD i 0 = ((n / 2 ^ (8 * i) % 256 : Nat) : Int) := by
      rw [List.getD_eq_getElem?_getD, List.getElem?_append_left (by simp; omega)]
      simp [les, lB_nat, show i < k by omega]
    have hp : 2 ^ (8 * i) * 256 ≤ 2 ^ 64 := by
      have : 2 ^ (8 * i) * 256 = 2 ^ (8 * i + 8) := by rw [Nat.pow_add]
      rw [this]
      exact Nat.pow_le_pow_right (by omega) (by omega)
    have hpos : 0 < 2 ^ (8 * i) := Nat.two_pow_pos _
    simp only [rB, ih, hg]
    generalize hP : 2 ^ (8 * i) = Q at *
    have hb : n / Q % 256 < 256 := Nat.mod_lt _ (by omega)
    have hx : n % Q < Q := Nat.mod_lt _ hpos
    have hq2 : ((2 : Int) ^ (8 * i)) = (Q : Int) := by rw [← hP]; simp
    generalize hB : n / Q % 256 = b at *
    have h255 : Q * b ≤ Q * 255 := Nat.mul_le_mul_left _ (by omega)
    have w1 : IntKind.u64.wrap ((b : Nat) : Int) = ((b : Nat) : Int) := wrap_u64 (by omega)
    have hbq : ((b : Int) * (2 : Int) ^ (8 * i)) = ((Q * b : Nat) : Int) := by rw [hq2, Int.mul_comm]; simp
    have w2 : IntKind.u64.wrap (((Q * b : Nat)) : Int) = (((Q * b : Nat)) : Int) := wrap_u64 (by omega)
    rw [w1, hbq, w2, u64_or_nat _ _ (by omega) (by omega)]
    have hor : n % Q ||| Q * b = Q * b + n % Q := by
      rw [Nat.or_comm, ← hP]
      exact (Nat.two_pow_add_eq_or_of_lt (by rw [hP]; exact hx) b).symm
    rw [hor]
    have e3 : 2 ^ (8 * (i + 1)) = Q * 256 := by rw [Nat.mul_add, Nat.pow_add, hP]
    rw [e3, Nat.mod_mul, hB]
    omega
end Go.Ab
end M1s
noncomputable section M2s
namespace Go.Ab
open Go.Ab
theorem message_begin (k : Int) : ACalls Pg I.message_begin [.int .i64 k] [] (fun r fp => r = .pt KB [] 0 ∧ fp = [.box (.st 1 [.rs (KB + 1) [] 0 4 4 1 .tip]), .arr 1 [.int .u8 (IntKind.u8.wrap k), .int .u8 0, .int .u8 0, .int .u8 0]]) := by
  refine ACalls.intro T.message_begin (by simp [F.message_begin]) ?_
  simp [F.message_begin, argEnv, fpBx]
  refine RetS.with [.keep [2]] [7, 5] ?_
  simp
theorem message_number (l : List PV) (n : Int) (k : Nat) (h1 : 1 ≤ k) (h2 : k ≤ 8) (hp : PureL l) (hl : l.length ≤ 4096) :
    ACalls Pg I.message_writer_number [.pt KB [] 0, .int .u64 n, .int .i64 k] [.box (.st 1 [.rs (KB + 1) [] 0 l.length l.length 1 .tip]), .arr 1 l]
      (fun r fp => r = .tup [] ∧ fp = [.box (.st 1 [.rs (KB + 1) [] 0 (l.length + k) (l.length + k) 1 .tip]), .arr 1 (l ++ le n k)]) := by
  refine ACalls.intro T.message_writer_number (by simp [F.message_writer_number]) ?_
  simp [F.message_writer_number, argEnv, fpBx]
  refine DrS.run [KB, KB + 1] rfl ?_
  simp
  refine callT.ret (codec_Little n k h1 h2) (by simp) (by simp) (by simp) ?_
  simp
  refine ⟨⟨by omega, by omega⟩, ?_⟩
  refine RetS.with [.keep []] [KB, KB + 1] ?_
  simp [hp, tupOf, refsOk, refsOkL, ren, renL]
theorem message_bytes (l ys : List PV) (c : Bool) (hy : PureL ys) (hp : PureL l) (hl : l.length ≤ 4096) (hyl : ys.length ≤ 4096) :
    ACalls Pg I.message_writer_bytes [.pt KB [] 0, .sl 1 ys c] [.box (.st 1 [.rs (KB + 1) [] 0 l.length l.length 1 .tip]), .arr 1 l]
      (fun r fp => r = .tup [] ∧ fp = [.box (.st 1 [.rs (KB + 1) [] 0 (l.length + ys.length) (l.length + ys.length) 1 .tip]), .arr 1 (l ++ ys)]) := by
  refine ACalls.intro T.message_writer_bytes (by simp [F.message_writer_bytes]) ?_
  simp [F.message_writer_bytes, argEnv, fpBx]
  refine ⟨⟨by omega, by omega⟩, ?_⟩
  refine RetS.with [.keep []] [KB, KB + 1] ?_
  simp [hp, hy, tupOf, refsOk, refsOkL, ren, renL]
@[simp] theorem renL_append (ρ : Nat → Nat) (l m : List PV) : renL ρ (l ++ m) = renL ρ l ++ renL ρ m := by induction l <;> simp [*, renL]
def by_ (l : List Int) : List PV := l.map (PV.int .u8)
@[simp] theorem by_len (l : List Int) : (by_ l).length = l.length := by simp [by_]
@[simp] theorem by_pure (l : List Int) : PureL (by_ l) := pureL_map (fun _ => by simp) _
@[simp] theorem by_wk (l : List Int) : wkL (by_ l) = by_ l := wkL_map (fun _ => by simp) _
def hdr (r c : Int) : List PV := [.int .u8 4, .int .u8 0, .int .u8 0, .int .u8 0] ++ le r 4 ++ le c 8
theorem message_EncodeTransport (r c : Int) (bs : List Int) (b : Bool) (h1 : 16 ≤ bs.length) (h2 : bs.length ≤ 2084) :
    ARet Pg I.message_EncodeTransport [.st 3 [.int .u32 r, .int .u64 c, .sl 1 (by_ bs) b]] (.tup [.sl 1 (hdr (IntKind.u64.wrap r) c ++ by_ bs) false, .int .i64 0]) := by
  refine ACalls.intro T.message_EncodeTransport (by simp [F.message_EncodeTransport]) ?_
  have hb := by_pure bs
  have hbl := by_len bs
  have hbw := by_wk bs
  generalize by_ bs = body at *
  rw [← hbl] at h1 h2
  simp [F.message_EncodeTransport, argEnv, fpBx, show ¬ (body.length : Int) < 16 by omega, show ¬ (2084 : Int) < body.length by omega]
  refine callS.gen [] [4, 5] [] (message_begin 4) (by simp [getAll]) (by simp) (by simp) (by simp [refsOkL]) (by simp) (by simp [renL]) (by simp) (by simp [refsOkB, refsOk, refsOkL, inFp]) ?_
  simp [putAll, renB, ren, renL, ren2]
  generalize IntKind.u64.wrap r = r at *
  have h4 : IntKind.u8.wrap 4 = 4 := rfl
  refine callS.gen [4, 5] [] [.box (.st 1 [.rs 5 [] 0 4 4 1 .tip]), .arr 1 [.int .u8 4, .int .u8 0, .int .u8 0, .int .u8 0]] (message_number [.int .u8 4, .int .u8 0, .int .u8 0, .int .u8 0] r 4 (by omega) (by omega) (by simp) (by simp)) (by simp [getAll]) (by simp) (by simp) (by simp [refsOkL, refsOk, inKs, idx]) (by simp [refsOkB, refsOkL, refsOk, inKs, idx]) (by simp [renL, ren, ren1, idx]) (by simp [renB, ren, renL, ren1, idx]) (by simp [refsOkB, refsOk, refsOkL, inFp]) ?_
  simp [putAll, renB, ren, renL, ren2]
  have p1 : PureL (le r 4) := le_pure r 4
  have p2 : PureL (le c 8) := le_pure c 8
  refine callS.gen [4, 5] [] [.box (.st 1 [.rs 5 [] 0 8 8 1 .tip]), .arr 1 (.int .u8 4 :: .int .u8 0 :: .int .u8 0 :: .int .u8 0 :: le r 4)] (message_number (.int .u8 4 :: .int .u8 0 :: .int .u8 0 :: .int .u8 0 :: le r 4) c 8 (by omega) (by omega) (by simp) (by simp)) (by simp [getAll]) (by simp) (by simp) (by simp [refsOkL, refsOk, inKs, idx]) (by simp [refsOkB, refsOkL, refsOk, inKs, idx, p1.refs]) (by simp [renL, ren, ren1, idx]) (by simp [renB, ren, renL, ren1, idx, p1.ren]) (by simp [refsOkB, refsOk, refsOkL, inFp, p1.refs, p2.refs]) ?_
  simp [putAll, renB, ren, renL, ren2, p1.ren, p2.ren]
  refine callS.gen [4, 5] [] [.box (.st 1 [.rs 5 [] 0 16 16 1 .tip]), .arr 1 (.int .u8 4 :: .int .u8 0 :: .int .u8 0 :: .int .u8 0 :: (le r 4 ++ le c 8))] (message_bytes (.int .u8 4 :: .int .u8 0 :: .int .u8 0 :: .int .u8 0 :: (le r 4 ++ le c 8)) body false hb (by simp) (by simp) (by omega)) (by simp [getAll]) (by simp) (by simp) (by simp [refsOkL, refsOk, inKs, idx, hb.refs]) (by simp [refsOkB, refsOkL, refsOk, inKs, idx, p1.refs, p2.refs]) (by simp [renL, ren, ren1, idx, hb.ren, hbw]) (by simp [renB, ren, renL, ren1, idx, p1.ren, p2.ren]) (by simp [refsOkB, refsOk, refsOkL, inFp, p1.refs, p2.refs, hb.refs]) ?_
  simp [putAll, renB, ren, renL, ren2, p1.ren, p2.ren, hb.ren]
  refine RetS.plain [.keep [2, 3], .fz 5] ?_
  simp [p1.refs, p2.refs, hb.refs, hdr]
  rw [if_pos (by omega), List.take_of_length_le (by simp; omega)]
  simp [hb]
set_option maxRecDepth 10000 in
theorem message_Kind {l : List Int} (h : l[0]? = some 4) (h1 : l[1]? = some 0) (h2 : l[2]? = some 0) (h3 : l[3]? = some 0) (hl : 32 ≤ l.length) (hl2 : l.length ≤ 2100) (b : Bool) : ARet Pg I.message_Kind [.sl 1 (by_ l) b] (.int .i64 4) := by
  refine ACalls.intro T.message_Kind (by simp [F.message_Kind]) ?_
  have g0 : (by_ l)[0]? = some (.int .u8 4) := by simp [by_, h]
  have g1 : (by_ l)[1]? = some (.int .u8 0) := by simp [by_, h1]
  have g2 : (by_ l)[2]? = some (.int .u8 0) := by simp [by_, h2]
  have g3 : (by_ l)[3]? = some (.int .u8 0) := by simp [by_, h3]
  simp [F.message_Kind, argEnv, fpBx, -getElem?_pos, g0, g1, g2, g3, show ¬ (l.length : Int) < 4 by omega]
  refine ⟨by omega, by omega, by omega, by omega, fun _ _ => ?_, fun hh => ?_⟩
  · refine RetS.plain [.keep [2]] ?_
    simp
  · have := hh (by omega)
    omega
theorem cursor_take (l : List PV) (c : Bool) (k : Nat) (hk : k ≤ l.length) (hp : PureL l) :
    ACalls Pg I.message_cursor_take [.pt KB [] 0, .int .i64 k] [.box (.st 1 [.sl 1 l c])] (fun r fp => r = .sl 1 (l.take k) true ∧ fp = [.box (.st 1 [.sl 1 (l.drop k) c])]) := by
  refine ACalls.intro T.message_cursor_take (by simp [F.message_cursor_take]) ?_
  simp [F.message_cursor_take, argEnv, fpBx]
  refine ⟨hk, ?_⟩
  refine RetS.with [.keep [4]] [KB] ?_
  simp [hp, refsOk, refsOkL, refsOkB, renB, ren, renL, tupOf]
theorem by_take (l m : List Int) (k : Nat) (h : l.length = k) : (by_ (l ++ m)).take k = by_ l := by subst h; simp [by_]
theorem by_drop (l m : List Int) (k : Nat) (h : l.length = k) : (by_ (l ++ m)).drop k = by_ m := by subst h; simp [by_]
theorem cursor_index (r : Nat) (m : List Int) (c : Bool) :
    ACalls Pg I.message_cursor_index [.pt KB [] 0] [.box (.st 1 [.sl 1 (by_ (les r 4 ++ m)) c])] (fun x fp => x = .int .u32 ((r % 4294967296 : Nat) : Int) ∧ fp = [.box (.st 1 [.sl 1 (by_ m) c])]) := by
  refine ACalls.intro T.message_cursor_index (by simp [F.message_cursor_index]) ?_
  have h1 := by_take (les r 4) m 4 (by simp)
  have h2 := by_drop (les r 4) m 4 (by simp)
  have ht := cursor_take (by_ (les r 4 ++ m)) c 4 (by simp) (by simp)
  rw [h1, h2] at ht
  have hm := by_pure m
  have hq := by_pure (les r 4 ++ m)
  have hrd := codec_ReadLittle (les r 4) (by simp) false
  rw [show min (les r 4).length 8 = 4 by simp, show rB (les r 4) 4 = ((r % 4294967296 : Nat) : Int) by
    have := rB_les r 4 [] (by omega) 4 (by omega)
    rw [List.append_nil] at this
    rw [this]] at hrd
  have hq4 : r % 4294967296 < 4294967296 := Nat.mod_lt _ (by omega)
  generalize r % 4294967296 = q at *
  simp [F.message_cursor_index, argEnv, fpBx]
  refine callS.gen [KB] [] [.box (.st 1 [.sl 1 (by_ (les r 4 ++ m)) c])] ht (by simp [getAll]) (by simp) (by simp) (by simp [refsOkL, refsOk, inKs, idx]) (by simp [refsOkB, refsOkL, refsOk, hq.refs]) (by simp [renL, ren, ren1, idx]) (by simp [renB, ren, renL, hq.ren]) (by simp [refsOkB, refsOk, refsOkL, hm.refs]) ?_
  simp [putAll, renB, ren, renL, hm.ren, (by_pure (les r 4)).ren]
  refine callS.ret hrd (by simp [by_]) (by simp) (by simp) ?_
  simp
  refine RetS.with [.keep [2]] [KB] ?_
  simp [refsOk, refsOkL, refsOkB, renB, ren, renL, tupOf, hm.refs, hm.ren]
  rw [wrap_u32 (by omega)]
def mB (r c : Nat) (bs : List Int) : List Int := 4 :: 0 :: 0 :: 0 :: (les r 4 ++ (les c 8 ++ bs))
theorem hdr_mB (r c : Nat) (bs : List Int) : hdr r c ++ by_ bs = by_ (mB r c bs) := by simp [hdr, mB, by_, le_les]
@[simp] theorem mB_len (r c : Nat) (bs : List Int) : (mB r c bs).length = 16 + bs.length := by simp [mB]; omega
set_option maxRecDepth 10000 in
theorem message_DecodeTransport (r c : Nat) (bs : List Int) (b : Bool) (hc : c ≤ 18446744073709551615) (h1 : 16 ≤ bs.length) (h2 : bs.length ≤ 2084) :
    ARet Pg I.message_DecodeTransport [.sl 1 (by_ (mB r c bs)) b] (.tup [.st 3 [.int .u32 ((r % 4294967296 : Nat) : Int), .int .u64 c, .sl 1 (by_ bs) false], .int .i64 0]) := by
  refine ACalls.intro T.message_DecodeTransport (by simp [F.message_DecodeTransport]) ?_
  have hM := by_pure (mB r c bs)
  have hd : (by_ (mB r c bs)).drop 4 = by_ (les r 4 ++ (les c 8 ++ bs)) := by simp [mB, by_]
  simp [F.message_DecodeTransport, argEnv, fpBx]
  refine callS.ret (message_Kind (l := mB r c bs) rfl rfl rfl rfl (by simp; omega) (by simp; omega) false) (by simp) (by simp) (by simp) ?_
  have htk : (by_ (mB r c bs)).take (16 + bs.length) = by_ (mB r c bs) := List.take_of_length_le (by simp)
  have q1 := by_pure (les r 4 ++ (les c 8 ++ bs))
  have q2 := by_pure (les c 8 ++ bs)
  have q3 := by_pure bs
  have ht := cursor_take (by_ (les c 8 ++ bs)) b 8 (by simp) (by simp)
  rw [by_take (les c 8) bs 8 (by simp), by_drop (les c 8) bs 8 (by simp)] at ht
  have hrd := codec_ReadLittle (les c 8) (by simp) false
  rw [show min (les c 8).length 8 = 8 by simp, show rB (les c 8) 8 = (c : Int) by
    have := rB_les c 8 [] (by omega) 8 (by omega)
    rw [List.append_nil] at this
    rw [this]; omega] at hrd
  simp [htk, hd]
  refine ⟨by omega, ?_⟩
  refine callS.gen [13] [] [.box (.st 1 [.sl 1 (by_ (les r 4 ++ (les c 8 ++ bs))) b])] (cursor_index r (les c 8 ++ bs) b) (by simp [getAll]) (by simp) (by simp) (by simp [refsOkL, refsOk, inKs, idx]) (by simp [refsOkB, refsOkL, refsOk, q1.refs]) (by simp [renL, ren, ren1, idx]) (by simp [renB, ren, renL, q1.ren]) (by simp [refsOkB, refsOk, refsOkL, q2.refs]) ?_
  simp [putAll, renB, ren, renL, q2.ren]
  refine callS.gen [13] [] [.box (.st 1 [.sl 1 (by_ (les c 8 ++ bs)) b])] ht (by simp [getAll]) (by simp) (by simp) (by simp [refsOkL, refsOk, inKs, idx]) (by simp [refsOkB, refsOkL, refsOk, q2.refs]) (by simp [renL, ren, ren1, idx]) (by simp [renB, ren, renL, q2.ren]) (by simp [refsOkB, refsOk, refsOkL, q3.refs]) ?_
  simp [putAll, renB, ren, renL, q3.ren, (by_pure (les c 8)).ren]
  refine callS.ret hrd (by simp [by_]) (by simp) (by simp) ?_
  simp
  refine ⟨⟨by omega, by omega⟩, ?_⟩
  refine RetS.plain [.keep [2, 3], .fz 25] ?_
  simp [q3.refs]
  exact List.take_of_length_le (by simp)
end Go.Ab
end M2s
