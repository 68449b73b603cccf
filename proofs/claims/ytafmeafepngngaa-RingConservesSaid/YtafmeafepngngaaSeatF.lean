/- The program's functions as the abstract reading has them, and their numbers. Written by program. No condition. -/
import Derived.Test.YtafmeafepngngaaA4
namespace Go.Ab.I
def burrowlaw23_RingConserves : FuncId := 4
def ring_Locals : FuncId := 13
def ring_Begin : FuncId := 14
def ring_Answer : FuncId := 15
def ring_Confirm : FuncId := 16
def burrowlaw23_count : FuncId := 17
def burrowlaw23_begun : FuncId := 18
def ring_locals : FuncId := 48
def ring_kept : FuncId := 49
end Go.Ab.I
namespace Go.Ab.F
open Go.Ab
/- burrow/burrowlaw23.RingConserves -/
def burrowlaw23_RingConservesl0 : ACode :=
  .seq (.region [⟨(some 76), none, true, .bin .lss .no (.t 75) (.t 74)⟩])
  (.seq (.cond (.t 76)
      (.skip)
      (.exit 3))
  (.seq (.block 4 (.seq (.region [⟨(some 77), none, false, .indexA (.sl 1) (.t 73) (.t 75)⟩,
        ⟨(some 78), none, true, .load false 1 (.t 77)⟩,
        ⟨(some 12), none, true, .mv (.t 78)⟩])
    (.seq (.region [⟨(some 79), none, true, .mv (.t 12)⟩,
        ⟨(some 80), none, true, .mv (.t 7)⟩,
        ⟨(some 81), none, true, .mv (.t 9)⟩,
        ⟨(some 82), none, false, .buildSlice false 1 (.sl 1 [] true) 2 [(0, (.t 80)), (1, (.t 81))]⟩,
        ⟨(some 83), none, false, .call (.c (.fn (.func I.burrowlaw23_count) [] [])) [(.t 79), (.t 82)]⟩,
        ⟨(some 84), none, true, .mv (.t 12)⟩,
        ⟨(some 85), none, true, .mv (.t 10)⟩,
        ⟨(some 86), none, true, .mv (.t 8)⟩,
        ⟨(some 87), none, false, .buildSlice false 1 (.sl 1 [] true) 2 [(0, (.t 85)), (1, (.t 86))]⟩,
        ⟨(some 88), none, false, .call (.c (.fn (.func I.burrowlaw23_count) [] [])) [(.t 84), (.t 87)]⟩,
        ⟨(some 89), none, true, .bin .neq .no (.t 83) (.t 88)⟩])
    (.cond (.t 89)
      (.seq (.region [⟨(some 2), none, true, .mv (.c (.bl false))⟩])
      (.ret))
      (.skip)))))
  (.region [⟨(some 90), none, true, .bin .add .no (.t 75) (.c (.int .i64 1))⟩,
    ⟨(some 75), none, true, .mv (.t 90)⟩])))
def burrowlaw23_RingConservesc1 : ACode :=
  .seq (.region [⟨(some 91), none, true, .mv (.t 10)⟩,
      ⟨(some 92), none, true, .len (.t 91)⟩,
      ⟨(some 93), none, true, .bin .gtr .no (.t 92) (.c (.int .i64 3))⟩])
  (.cond (.t 93)
    (.seq (.region [⟨(some 2), none, true, .mv (.c (.bl false))⟩])
    (.ret))
    (.skip))
def burrowlaw23_RingConservesc2 : ACode :=
  .region [⟨(some 94), none, true, .bin .add .no (.t 19) (.c (.int .i64 1))⟩,
    ⟨(some 19), none, true, .mv (.t 94)⟩]
def burrowlaw23_RingConservesl3 : ACode :=
  .seq (.region [⟨(some 20), none, true, .bin .lss .no (.t 19) (.t 18)⟩])
  (.seq (.cond (.t 20)
      (.skip)
      (.exit 0))
  (.seq (.block 1 (.seq (.region [⟨(some 21), none, true, .mv (.t 19)⟩,
        ⟨(some 22), none, false, .indexA (.sl 1) (.t 17) (.t 19)⟩,
        ⟨(some 23), none, true, .load false 1 (.t 22)⟩,
        ⟨(some 4), none, true, .mv (.t 21)⟩,
        ⟨(some 5), none, true, .mv (.t 23)⟩])
    (.seq (.region [⟨(some 24), none, true, .mv (.t 4)⟩,
        ⟨(some 25), none, true, .bin .add .no (.c (.int .i64 100)) (.t 24)⟩,
        ⟨(some 26), none, true, .convI .u32 (.t 25)⟩,
        ⟨(some 27), none, false, .build (.st 76 [(.int .u32 0), (.int .u32 0), (.ar 1 32 (zr 32 (.int .u8 0))), (.ar 1 32 (zr 32 (.int .u8 0))), (.int .u64 0), (.int .u64 0), (.st 6 [(.bl false), (.int .u64 0), (.ar 1 4 (zr 4 (.int .u64 0)))]), (.int .i64 0), (.bl false)]) [(0, (.t 26))]⟩,
        ⟨(some 6), none, false, .alloc (.st 76 [(.int .u32 0), (.int .u32 0), (.ar 1 32 (zr 32 (.int .u8 0))), (.ar 1 32 (zr 32 (.int .u8 0))), (.int .u64 0), (.int .u64 0), (.st 6 [(.bl false), (.int .u64 0), (.ar 1 4 (zr 4 (.int .u64 0)))]), (.int .i64 0), (.bl false)])⟩,
        ⟨none, none, false, .store 76 (.t 6) (.t 27)⟩])
    (.seq (.region [⟨(some 28), none, true, .load true 231 (.t 3)⟩,
        ⟨(some 29), none, false, .call (.c (.fn (.func I.ring_Locals) [] [])) [(.t 28)]⟩,
        ⟨(some 7), none, true, .mv (.t 29)⟩])
    (.seq (.region [⟨(some 8), none, true, .mv (.c (.sl 1 [] true))⟩])
    (.seq (.region [⟨(some 30), none, true, .fieldA 0 0 (.t 6)⟩,
        ⟨(some 31), none, true, .load false 1 (.t 30)⟩,
        ⟨(some 32), none, false, .buildSlice false 1 (.int .u32 0) 1 [(0, (.t 31))]⟩,
        ⟨(some 9), none, true, .mv (.t 32)⟩])
    (.seq (.seq (.region [⟨(some 33), none, true, .mv (.t 5)⟩,
          ⟨(some 34), none, false, .bin .rem .no (.t 33) (.c (.int .u8 3))⟩])
      (.block 2 (.seq (.region [⟨(some 51), none, true, .bin .eql .no (.t 34) (.c (.int .u8 0))⟩,
          ⟨(some 50), none, true, .mv (.t 51)⟩])
      (.cond (.t 50)
        (.region [⟨(some 53), none, true, .load true 231 (.t 3)⟩,
          ⟨(some 54), none, true, .load true 76 (.t 6)⟩,
          ⟨(some 55), none, false, .call (.c (.fn (.func I.ring_Begin) [] [])) [(.t 53), (.t 54)]⟩,
          ⟨(some 52), none, true, .mv (.t 55)⟩,
          ⟨(some 56), none, true, .extract 0 (.t 52)⟩,
          ⟨(some 57), none, true, .extract 1 (.t 52)⟩,
          ⟨none, none, false, .store 231 (.t 3) (.t 56)⟩,
          ⟨(some 8), none, true, .mv (.t 57)⟩])
        (.seq (.region [⟨(some 59), none, true, .bin .eql .no (.t 34) (.c (.int .u8 1))⟩,
            ⟨(some 58), none, true, .mv (.t 59)⟩])
        (.cond (.t 58)
          (.region [⟨(some 61), none, true, .load true 231 (.t 3)⟩,
            ⟨(some 62), none, true, .load true 76 (.t 6)⟩,
            ⟨(some 63), none, false, .call (.c (.fn (.func I.ring_Answer) [] [])) [(.t 61), (.t 62)]⟩,
            ⟨(some 60), none, true, .mv (.t 63)⟩,
            ⟨(some 64), none, true, .extract 0 (.t 60)⟩,
            ⟨(some 65), none, true, .extract 1 (.t 60)⟩,
            ⟨none, none, false, .store 231 (.t 3) (.t 64)⟩,
            ⟨(some 8), none, true, .mv (.t 65)⟩])
          (.seq (.region [⟨(some 9), none, true, .mv (.c (.sl 1 [] true))⟩])
          (.seq (.region [⟨(some 35), none, true, .mv (.t 7)⟩,
              ⟨(some 36), none, true, .len (.t 35)⟩,
              ⟨(some 37), none, true, .bin .gtr .no (.t 36) (.c (.int .i64 0))⟩])
          (.cond (.t 37)
            (.region [⟨(some 39), none, true, .load true 231 (.t 3)⟩,
              ⟨(some 40), none, true, .mv (.t 7)⟩,
              ⟨(some 41), none, true, .mv (.t 7)⟩,
              ⟨(some 42), none, true, .len (.t 41)⟩,
              ⟨(some 43), none, true, .bin .sub .no (.t 42) (.c (.int .i64 1))⟩,
              ⟨(some 44), none, false, .indexA (.sl 1) (.t 40) (.t 43)⟩,
              ⟨(some 45), none, true, .load false 1 (.t 44)⟩,
              ⟨(some 46), none, false, .callq (.c (.fn (.func I.ring_Confirm) [] [])) [(.t 39), (.t 45)]⟩,
              ⟨(some 38), none, true, .mv (.t 46)⟩,
              ⟨(some 47), none, true, .extract 0 (.t 38)⟩,
              ⟨(some 48), none, true, .extract 1 (.t 38)⟩,
              ⟨(some 49), none, true, .extract 2 (.t 38)⟩,
              ⟨none, none, false, .store 231 (.t 3) (.t 47)⟩,
              ⟨(some 8), none, true, .mv (.t 49)⟩])
            (.skip))))))))))
    (.seq (.region [⟨(some 66), none, true, .load true 231 (.t 3)⟩,
        ⟨(some 67), none, false, .call (.c (.fn (.func I.ring_Locals) [] [])) [(.t 66)]⟩,
        ⟨(some 10), none, true, .mv (.t 67)⟩])
    (.seq (.seq (.region [⟨(some 68), none, true, .mv (.t 7)⟩,
          ⟨(some 69), none, false, .append 1 4 false (.c (.sl 0 [] true)) (.t 68)⟩,
          ⟨(some 70), none, true, .mv (.t 9)⟩,
          ⟨(some 71), none, false, .append 1 4 false (.t 69) (.t 70)⟩,
          ⟨(some 72), none, true, .mv (.t 10)⟩,
          ⟨(some 73), none, false, .append 1 4 false (.t 71) (.t 72)⟩,
          ⟨(some 74), none, true, .len (.t 73)⟩,
          ⟨(some 75), none, true, .mv (.c (.int .i64 0))⟩])
      (.block 3 (.loop burrowlaw23_RingConservesl0)))
    burrowlaw23_RingConservesc1)))))))))
  burrowlaw23_RingConservesc2))
def burrowlaw23_RingConservesc4 : ACode :=
  .seq (.region [⟨(some 95), none, false, .call (.c (.fn (.func I.burrowlaw23_begun) [] [])) []⟩,
      ⟨(some 2), none, true, .mv (.t 95)⟩])
  (.ret)
def burrowlaw23_RingConserves : AFun := ⟨96, [.mv (.t 2)],
  .seq (.region [⟨(some 2), none, true, .mv (.c (.bl false))⟩])
  (.seq (.region [⟨(some 3), none, false, .alloc (.st 231 [(.st 77 [(.bl false), (.st 76 [(.int .u32 0), (.int .u32 0), (.ar 1 32 (zr 32 (.int .u8 0))), (.ar 1 32 (zr 32 (.int .u8 0))), (.int .u64 0), (.int .u64 0), (.st 6 [(.bl false), (.int .u64 0), (.ar 1 4 (zr 4 (.int .u64 0)))]), (.int .i64 0), (.bl false)])]), (.st 77 [(.bl false), (.st 76 [(.int .u32 0), (.int .u32 0), (.ar 1 32 (zr 32 (.int .u8 0))), (.ar 1 32 (zr 32 (.int .u8 0))), (.int .u64 0), (.int .u64 0), (.st 6 [(.bl false), (.int .u64 0), (.ar 1 4 (zr 4 (.int .u64 0)))]), (.int .i64 0), (.bl false)])]), (.st 77 [(.bl false), (.st 76 [(.int .u32 0), (.int .u32 0), (.ar 1 32 (zr 32 (.int .u8 0))), (.ar 1 32 (zr 32 (.int .u8 0))), (.int .u64 0), (.int .u64 0), (.st 6 [(.bl false), (.int .u64 0), (.ar 1 4 (zr 4 (.int .u64 0)))]), (.int .i64 0), (.bl false)])])])⟩])
  (.seq (.seq (.region [⟨(some 13), none, true, .mv (.t 0)⟩,
        ⟨(some 14), none, true, .mv (.t 0)⟩,
        ⟨(some 15), none, true, .len (.t 14)⟩,
        ⟨(some 16), none, true, .mm false [(.t 15), (.c (.int .i64 30))]⟩,
        ⟨(some 17), none, false, .slice (.sl 1) (.t 13) none (some (.t 16)) none⟩,
        ⟨(some 18), none, true, .len (.t 17)⟩,
        ⟨(some 19), none, true, .mv (.c (.int .i64 0))⟩])
    (.block 0 (.loop burrowlaw23_RingConservesl3)))
  burrowlaw23_RingConservesc4))⟩
/- burrow/ring.Locals -/

def ring_Locals : AFun := ⟨11, [.mv (.t 2)],
  .seq (.region [⟨(some 1), none, false, .box (.t 0)⟩,
      ⟨(some 2), none, true, .mv (.c (.sl 1 [] true))⟩])
  (.seq (.region [⟨(some 3), none, true, .fieldA 0 0 (.t 1)⟩,
      ⟨(some 4), none, true, .load true 77 (.t 3)⟩,
      ⟨(some 5), none, true, .fieldA 1 77 (.t 1)⟩,
      ⟨(some 6), none, true, .load true 77 (.t 5)⟩,
      ⟨(some 7), none, true, .fieldA 2 154 (.t 1)⟩,
      ⟨(some 8), none, true, .load true 77 (.t 7)⟩,
      ⟨(some 9), none, false, .buildSlice false 77 (.st 77 [(.bl false), (.st 76 [(.int .u32 0), (.int .u32 0), (.ar 1 32 (zr 32 (.int .u8 0))), (.ar 1 32 (zr 32 (.int .u8 0))), (.int .u64 0), (.int .u64 0), (.st 6 [(.bl false), (.int .u64 0), (.ar 1 4 (zr 4 (.int .u64 0)))]), (.int .i64 0), (.bl false)])]) 3 [(0, (.t 4)), (1, (.t 6)), (2, (.t 8))]⟩,
      ⟨(some 10), none, false, .call (.c (.fn (.func I.ring_locals) [] [])) [(.t 9)]⟩,
      ⟨(some 2), none, true, .mv (.t 10)⟩])
  (.ret))⟩
/- burrow/ring.Begin -/

def ring_Begin : AFun := ⟨31, [.load true 231 (.t 4), .mv (.t 5)],
  .seq (.region [⟨(some 2), none, false, .box (.t 0)⟩,
      ⟨(some 3), none, false, .box (.t 1)⟩,
      ⟨(some 4), none, false, .alloc (.st 231 [(.st 77 [(.bl false), (.st 76 [(.int .u32 0), (.int .u32 0), (.ar 1 32 (zr 32 (.int .u8 0))), (.ar 1 32 (zr 32 (.int .u8 0))), (.int .u64 0), (.int .u64 0), (.st 6 [(.bl false), (.int .u64 0), (.ar 1 4 (zr 4 (.int .u64 0)))]), (.int .i64 0), (.bl false)])]), (.st 77 [(.bl false), (.st 76 [(.int .u32 0), (.int .u32 0), (.ar 1 32 (zr 32 (.int .u8 0))), (.ar 1 32 (zr 32 (.int .u8 0))), (.int .u64 0), (.int .u64 0), (.st 6 [(.bl false), (.int .u64 0), (.ar 1 4 (zr 4 (.int .u64 0)))]), (.int .i64 0), (.bl false)])]), (.st 77 [(.bl false), (.st 76 [(.int .u32 0), (.int .u32 0), (.ar 1 32 (zr 32 (.int .u8 0))), (.ar 1 32 (zr 32 (.int .u8 0))), (.int .u64 0), (.int .u64 0), (.st 6 [(.bl false), (.int .u64 0), (.ar 1 4 (zr 4 (.int .u64 0)))]), (.int .i64 0), (.bl false)])])])⟩,
      ⟨(some 5), none, true, .mv (.c (.sl 1 [] true))⟩])
  (.seq (.region [⟨(some 7), none, true, .load true 76 (.t 3)⟩,
      ⟨(some 8), none, false, .build (.st 77 [(.bl false), (.st 76 [(.int .u32 0), (.int .u32 0), (.ar 1 32 (zr 32 (.int .u8 0))), (.ar 1 32 (zr 32 (.int .u8 0))), (.int .u64 0), (.int .u64 0), (.st 6 [(.bl false), (.int .u64 0), (.ar 1 4 (zr 4 (.int .u64 0)))]), (.int .i64 0), (.bl false)])]) [(0, (.c (.bl true))), (1, (.t 7))]⟩,
      ⟨(some 6), none, false, .alloc (.st 77 [(.bl false), (.st 76 [(.int .u32 0), (.int .u32 0), (.ar 1 32 (zr 32 (.int .u8 0))), (.ar 1 32 (zr 32 (.int .u8 0))), (.int .u64 0), (.int .u64 0), (.st 6 [(.bl false), (.int .u64 0), (.ar 1 4 (zr 4 (.int .u64 0)))]), (.int .i64 0), (.bl false)])])⟩,
      ⟨none, none, false, .store 77 (.t 6) (.t 8)⟩])
  (.seq (.seq (.region [⟨(some 9), none, true, .fieldA 2 154 (.t 2)⟩,
        ⟨(some 10), none, true, .fieldA 0 0 (.t 9)⟩,
        ⟨(some 11), none, true, .load false 1 (.t 10)⟩])
    (.cond (.t 11)
      (.seq (.region [⟨(some 12), none, true, .fieldA 2 154 (.t 2)⟩,
          ⟨(some 13), none, true, .load true 77 (.t 12)⟩,
          ⟨(some 14), none, true, .load true 77 (.t 6)⟩,
          ⟨(some 15), none, false, .build (.st 231 [(.st 77 [(.bl false), (.st 76 [(.int .u32 0), (.int .u32 0), (.ar 1 32 (zr 32 (.int .u8 0))), (.ar 1 32 (zr 32 (.int .u8 0))), (.int .u64 0), (.int .u64 0), (.st 6 [(.bl false), (.int .u64 0), (.ar 1 4 (zr 4 (.int .u64 0)))]), (.int .i64 0), (.bl false)])]), (.st 77 [(.bl false), (.st 76 [(.int .u32 0), (.int .u32 0), (.ar 1 32 (zr 32 (.int .u8 0))), (.ar 1 32 (zr 32 (.int .u8 0))), (.int .u64 0), (.int .u64 0), (.st 6 [(.bl false), (.int .u64 0), (.ar 1 4 (zr 4 (.int .u64 0)))]), (.int .i64 0), (.bl false)])]), (.st 77 [(.bl false), (.st 76 [(.int .u32 0), (.int .u32 0), (.ar 1 32 (zr 32 (.int .u8 0))), (.ar 1 32 (zr 32 (.int .u8 0))), (.int .u64 0), (.int .u64 0), (.st 6 [(.bl false), (.int .u64 0), (.ar 1 4 (zr 4 (.int .u64 0)))]), (.int .i64 0), (.bl false)])])]) [(0, (.t 13)), (1, (.t 14))]⟩,
          ⟨(some 16), none, true, .fieldA 0 0 (.t 2)⟩,
          ⟨(some 17), none, true, .load true 77 (.t 16)⟩,
          ⟨(some 18), none, true, .fieldA 1 77 (.t 2)⟩,
          ⟨(some 19), none, true, .load true 77 (.t 18)⟩,
          ⟨(some 20), none, false, .buildSlice false 77 (.st 77 [(.bl false), (.st 76 [(.int .u32 0), (.int .u32 0), (.ar 1 32 (zr 32 (.int .u8 0))), (.ar 1 32 (zr 32 (.int .u8 0))), (.int .u64 0), (.int .u64 0), (.st 6 [(.bl false), (.int .u64 0), (.ar 1 4 (zr 4 (.int .u64 0)))]), (.int .i64 0), (.bl false)])]) 2 [(0, (.t 17)), (1, (.t 19))]⟩,
          ⟨(some 21), none, false, .callq (.c (.fn (.func I.ring_locals) [] [])) [(.t 20)]⟩,
          ⟨none, none, false, .store 231 (.t 4) (.t 15)⟩,
          ⟨(some 5), none, true, .mv (.t 21)⟩])
      (.ret))
      (.skip)))
  (.seq (.region [⟨(some 22), none, true, .fieldA 1 77 (.t 2)⟩,
      ⟨(some 23), none, true, .load true 77 (.t 22)⟩,
      ⟨(some 24), none, false, .callq (.c (.fn (.func I.ring_kept) [] [])) [(.t 23)]⟩,
      ⟨(some 25), none, true, .load true 77 (.t 6)⟩,
      ⟨(some 26), none, false, .build (.st 231 [(.st 77 [(.bl false), (.st 76 [(.int .u32 0), (.int .u32 0), (.ar 1 32 (zr 32 (.int .u8 0))), (.ar 1 32 (zr 32 (.int .u8 0))), (.int .u64 0), (.int .u64 0), (.st 6 [(.bl false), (.int .u64 0), (.ar 1 4 (zr 4 (.int .u64 0)))]), (.int .i64 0), (.bl false)])]), (.st 77 [(.bl false), (.st 76 [(.int .u32 0), (.int .u32 0), (.ar 1 32 (zr 32 (.int .u8 0))), (.ar 1 32 (zr 32 (.int .u8 0))), (.int .u64 0), (.int .u64 0), (.st 6 [(.bl false), (.int .u64 0), (.ar 1 4 (zr 4 (.int .u64 0)))]), (.int .i64 0), (.bl false)])]), (.st 77 [(.bl false), (.st 76 [(.int .u32 0), (.int .u32 0), (.ar 1 32 (zr 32 (.int .u8 0))), (.ar 1 32 (zr 32 (.int .u8 0))), (.int .u64 0), (.int .u64 0), (.st 6 [(.bl false), (.int .u64 0), (.ar 1 4 (zr 4 (.int .u64 0)))]), (.int .i64 0), (.bl false)])])]) [(0, (.t 24)), (1, (.t 25))]⟩,
      ⟨(some 27), none, true, .fieldA 0 0 (.t 2)⟩,
      ⟨(some 28), none, true, .load true 77 (.t 27)⟩,
      ⟨(some 29), none, false, .buildSlice false 77 (.st 77 [(.bl false), (.st 76 [(.int .u32 0), (.int .u32 0), (.ar 1 32 (zr 32 (.int .u8 0))), (.ar 1 32 (zr 32 (.int .u8 0))), (.int .u64 0), (.int .u64 0), (.st 6 [(.bl false), (.int .u64 0), (.ar 1 4 (zr 4 (.int .u64 0)))]), (.int .i64 0), (.bl false)])]) 1 [(0, (.t 28))]⟩,
      ⟨(some 30), none, false, .callq (.c (.fn (.func I.ring_locals) [] [])) [(.t 29)]⟩,
      ⟨none, none, false, .store 231 (.t 4) (.t 26)⟩,
      ⟨(some 5), none, true, .mv (.t 30)⟩])
  (.ret))))⟩
/- burrow/ring.Answer -/

def ring_Answer : AFun := ⟨17, [.load true 231 (.t 4), .mv (.t 5)],
  .seq (.region [⟨(some 2), none, false, .box (.t 0)⟩,
      ⟨(some 3), none, false, .box (.t 1)⟩,
      ⟨(some 4), none, false, .alloc (.st 231 [(.st 77 [(.bl false), (.st 76 [(.int .u32 0), (.int .u32 0), (.ar 1 32 (zr 32 (.int .u8 0))), (.ar 1 32 (zr 32 (.int .u8 0))), (.int .u64 0), (.int .u64 0), (.st 6 [(.bl false), (.int .u64 0), (.ar 1 4 (zr 4 (.int .u64 0)))]), (.int .i64 0), (.bl false)])]), (.st 77 [(.bl false), (.st 76 [(.int .u32 0), (.int .u32 0), (.ar 1 32 (zr 32 (.int .u8 0))), (.ar 1 32 (zr 32 (.int .u8 0))), (.int .u64 0), (.int .u64 0), (.st 6 [(.bl false), (.int .u64 0), (.ar 1 4 (zr 4 (.int .u64 0)))]), (.int .i64 0), (.bl false)])]), (.st 77 [(.bl false), (.st 76 [(.int .u32 0), (.int .u32 0), (.ar 1 32 (zr 32 (.int .u8 0))), (.ar 1 32 (zr 32 (.int .u8 0))), (.int .u64 0), (.int .u64 0), (.st 6 [(.bl false), (.int .u64 0), (.ar 1 4 (zr 4 (.int .u64 0)))]), (.int .i64 0), (.bl false)])])])⟩,
      ⟨(some 5), none, true, .mv (.c (.sl 1 [] true))⟩])
  (.seq (.region [⟨(some 6), none, true, .fieldA 1 77 (.t 2)⟩,
      ⟨(some 7), none, true, .load true 77 (.t 6)⟩,
      ⟨(some 8), none, true, .load true 76 (.t 3)⟩,
      ⟨(some 9), none, false, .build (.st 77 [(.bl false), (.st 76 [(.int .u32 0), (.int .u32 0), (.ar 1 32 (zr 32 (.int .u8 0))), (.ar 1 32 (zr 32 (.int .u8 0))), (.int .u64 0), (.int .u64 0), (.st 6 [(.bl false), (.int .u64 0), (.ar 1 4 (zr 4 (.int .u64 0)))]), (.int .i64 0), (.bl false)])]) [(0, (.c (.bl true))), (1, (.t 8))]⟩,
      ⟨(some 10), none, false, .build (.st 231 [(.st 77 [(.bl false), (.st 76 [(.int .u32 0), (.int .u32 0), (.ar 1 32 (zr 32 (.int .u8 0))), (.ar 1 32 (zr 32 (.int .u8 0))), (.int .u64 0), (.int .u64 0), (.st 6 [(.bl false), (.int .u64 0), (.ar 1 4 (zr 4 (.int .u64 0)))]), (.int .i64 0), (.bl false)])]), (.st 77 [(.bl false), (.st 76 [(.int .u32 0), (.int .u32 0), (.ar 1 32 (zr 32 (.int .u8 0))), (.ar 1 32 (zr 32 (.int .u8 0))), (.int .u64 0), (.int .u64 0), (.st 6 [(.bl false), (.int .u64 0), (.ar 1 4 (zr 4 (.int .u64 0)))]), (.int .i64 0), (.bl false)])]), (.st 77 [(.bl false), (.st 76 [(.int .u32 0), (.int .u32 0), (.ar 1 32 (zr 32 (.int .u8 0))), (.ar 1 32 (zr 32 (.int .u8 0))), (.int .u64 0), (.int .u64 0), (.st 6 [(.bl false), (.int .u64 0), (.ar 1 4 (zr 4 (.int .u64 0)))]), (.int .i64 0), (.bl false)])])]) [(1, (.t 7)), (2, (.t 9))]⟩,
      ⟨(some 11), none, true, .fieldA 0 0 (.t 2)⟩,
      ⟨(some 12), none, true, .load true 77 (.t 11)⟩,
      ⟨(some 13), none, true, .fieldA 2 154 (.t 2)⟩,
      ⟨(some 14), none, true, .load true 77 (.t 13)⟩,
      ⟨(some 15), none, false, .buildSlice false 77 (.st 77 [(.bl false), (.st 76 [(.int .u32 0), (.int .u32 0), (.ar 1 32 (zr 32 (.int .u8 0))), (.ar 1 32 (zr 32 (.int .u8 0))), (.int .u64 0), (.int .u64 0), (.st 6 [(.bl false), (.int .u64 0), (.ar 1 4 (zr 4 (.int .u64 0)))]), (.int .i64 0), (.bl false)])]) 2 [(0, (.t 12)), (1, (.t 14))]⟩,
      ⟨(some 16), none, false, .callq (.c (.fn (.func I.ring_locals) [] [])) [(.t 15)]⟩,
      ⟨none, none, false, .store 231 (.t 4) (.t 10)⟩,
      ⟨(some 5), none, true, .mv (.t 16)⟩])
  (.ret))⟩
/- burrow/ring.Confirm -/

def ring_Confirm : AFun := ⟨30, [.load true 231 (.t 4), .mv (.t 5), .mv (.t 6)],
  .seq (.region [⟨(some 2), none, false, .box (.t 0)⟩,
      ⟨(some 4), none, false, .alloc (.st 231 [(.st 77 [(.bl false), (.st 76 [(.int .u32 0), (.int .u32 0), (.ar 1 32 (zr 32 (.int .u8 0))), (.ar 1 32 (zr 32 (.int .u8 0))), (.int .u64 0), (.int .u64 0), (.st 6 [(.bl false), (.int .u64 0), (.ar 1 4 (zr 4 (.int .u64 0)))]), (.int .i64 0), (.bl false)])]), (.st 77 [(.bl false), (.st 76 [(.int .u32 0), (.int .u32 0), (.ar 1 32 (zr 32 (.int .u8 0))), (.ar 1 32 (zr 32 (.int .u8 0))), (.int .u64 0), (.int .u64 0), (.st 6 [(.bl false), (.int .u64 0), (.ar 1 4 (zr 4 (.int .u64 0)))]), (.int .i64 0), (.bl false)])]), (.st 77 [(.bl false), (.st 76 [(.int .u32 0), (.int .u32 0), (.ar 1 32 (zr 32 (.int .u8 0))), (.ar 1 32 (zr 32 (.int .u8 0))), (.int .u64 0), (.int .u64 0), (.st 6 [(.bl false), (.int .u64 0), (.ar 1 4 (zr 4 (.int .u64 0)))]), (.int .i64 0), (.bl false)])])])⟩,
      ⟨(some 5), none, true, .mv (.c (.bl false))⟩,
      ⟨(some 6), none, true, .mv (.c (.sl 1 [] true))⟩])
  (.seq (.seq (.region [⟨(some 7), none, true, .fieldA 2 154 (.t 2)⟩,
        ⟨(some 8), none, true, .fieldA 0 0 (.t 7)⟩,
        ⟨(some 9), none, true, .load false 1 (.t 8)⟩,
        ⟨(some 10), none, true, .un .not (.t 9)⟩,
        ⟨(some 11), none, true, .mv (.t 10)⟩,
        ⟨(some 12), (some (11, false)), true, .fieldA 2 154 (.t 2)⟩,
        ⟨(some 13), (some (11, false)), true, .fieldA 1 1 (.t 12)⟩,
        ⟨(some 14), (some (11, false)), true, .fieldA 0 0 (.t 13)⟩,
        ⟨(some 15), (some (11, false)), true, .load false 1 (.t 14)⟩,
        ⟨(some 16), (some (11, false)), true, .mv (.t 1)⟩,
        ⟨(some 17), (some (11, false)), true, .bin .neq .no (.t 15) (.t 16)⟩,
        ⟨(some 18), none, true, .pick (.t 11) (.c (.bl true)) (.t 17)⟩])
    (.cond (.t 18)
      (.seq (.region [⟨(some 19), none, true, .load true 231 (.t 2)⟩,
          ⟨none, none, false, .store 231 (.t 4) (.t 19)⟩,
          ⟨(some 5), none, true, .mv (.c (.bl false))⟩,
          ⟨(some 6), none, true, .mv (.c (.sl 1 [] true))⟩])
      (.ret))
      (.skip)))
  (.seq (.region [⟨(some 20), none, true, .fieldA 1 77 (.t 2)⟩,
      ⟨(some 21), none, true, .load true 77 (.t 20)⟩,
      ⟨(some 22), none, false, .callq (.c (.fn (.func I.ring_kept) [] [])) [(.t 21)]⟩,
      ⟨(some 23), none, true, .fieldA 2 154 (.t 2)⟩,
      ⟨(some 24), none, true, .load true 77 (.t 23)⟩,
      ⟨(some 25), none, false, .build (.st 231 [(.st 77 [(.bl false), (.st 76 [(.int .u32 0), (.int .u32 0), (.ar 1 32 (zr 32 (.int .u8 0))), (.ar 1 32 (zr 32 (.int .u8 0))), (.int .u64 0), (.int .u64 0), (.st 6 [(.bl false), (.int .u64 0), (.ar 1 4 (zr 4 (.int .u64 0)))]), (.int .i64 0), (.bl false)])]), (.st 77 [(.bl false), (.st 76 [(.int .u32 0), (.int .u32 0), (.ar 1 32 (zr 32 (.int .u8 0))), (.ar 1 32 (zr 32 (.int .u8 0))), (.int .u64 0), (.int .u64 0), (.st 6 [(.bl false), (.int .u64 0), (.ar 1 4 (zr 4 (.int .u64 0)))]), (.int .i64 0), (.bl false)])]), (.st 77 [(.bl false), (.st 76 [(.int .u32 0), (.int .u32 0), (.ar 1 32 (zr 32 (.int .u8 0))), (.ar 1 32 (zr 32 (.int .u8 0))), (.int .u64 0), (.int .u64 0), (.st 6 [(.bl false), (.int .u64 0), (.ar 1 4 (zr 4 (.int .u64 0)))]), (.int .i64 0), (.bl false)])])]) [(0, (.t 22)), (1, (.t 24))]⟩,
      ⟨(some 26), none, true, .fieldA 0 0 (.t 2)⟩,
      ⟨(some 27), none, true, .load true 77 (.t 26)⟩,
      ⟨(some 28), none, false, .buildSlice false 77 (.st 77 [(.bl false), (.st 76 [(.int .u32 0), (.int .u32 0), (.ar 1 32 (zr 32 (.int .u8 0))), (.ar 1 32 (zr 32 (.int .u8 0))), (.int .u64 0), (.int .u64 0), (.st 6 [(.bl false), (.int .u64 0), (.ar 1 4 (zr 4 (.int .u64 0)))]), (.int .i64 0), (.bl false)])]) 1 [(0, (.t 27))]⟩,
      ⟨(some 29), none, false, .callq (.c (.fn (.func I.ring_locals) [] [])) [(.t 28)]⟩,
      ⟨none, none, false, .store 231 (.t 4) (.t 25)⟩,
      ⟨(some 5), none, true, .mv (.c (.bl true))⟩,
      ⟨(some 6), none, true, .mv (.t 29)⟩])
  (.ret)))⟩
/- burrow/burrowlaw23.count -/
def burrowlaw23_countl0 : ACode :=
  .seq (.region [⟨(some 19), none, true, .bin .lss .no (.t 18) (.t 17)⟩])
  (.seq (.cond (.t 19)
      (.skip)
      (.exit 2))
  (.seq (.block 3 (.seq (.region [⟨(some 20), none, false, .indexA (.sl 1) (.t 16) (.t 18)⟩,
        ⟨(some 21), none, true, .load false 1 (.t 20)⟩,
        ⟨(some 9), none, true, .mv (.t 21)⟩])
    (.seq (.region [⟨(some 22), none, true, .mv (.t 0)⟩,
        ⟨(some 23), none, true, .mv (.t 9)⟩,
        ⟨(some 24), none, true, .bin .eql .no (.t 22) (.t 23)⟩])
    (.cond (.t 24)
      (.region [⟨(some 25), none, true, .mv (.t 5)⟩,
        ⟨(some 26), none, true, .bin .add .no (.t 25) (.c (.int .i64 1))⟩,
        ⟨(some 5), none, true, .mv (.t 26)⟩])
      (.skip)))))
  (.region [⟨(some 27), none, true, .bin .add .no (.t 18) (.c (.int .i64 1))⟩,
    ⟨(some 18), none, true, .mv (.t 27)⟩])))
def burrowlaw23_countc1 : ACode :=
  .region [⟨(some 28), none, true, .bin .add .no (.t 12) (.c (.int .i64 1))⟩,
    ⟨(some 12), none, true, .mv (.t 28)⟩]
def burrowlaw23_countl2 : ACode :=
  .seq (.region [⟨(some 13), none, true, .bin .lss .no (.t 12) (.t 11)⟩])
  (.seq (.cond (.t 13)
      (.skip)
      (.exit 0))
  (.seq (.block 1 (.seq (.region [⟨(some 14), none, false, .indexA (.sl 1) (.t 10) (.t 12)⟩,
        ⟨(some 15), none, true, .load false 1 (.t 14)⟩,
        ⟨(some 7), none, true, .mv (.t 15)⟩])
    (.seq (.region [⟨(some 16), none, true, .mv (.t 7)⟩,
        ⟨(some 17), none, true, .len (.t 16)⟩,
        ⟨(some 18), none, true, .mv (.c (.int .i64 0))⟩])
    (.block 2 (.loop burrowlaw23_countl0)))))
  burrowlaw23_countc1))
def burrowlaw23_countc3 : ACode :=
  .seq (.region [⟨(some 29), none, true, .mv (.t 5)⟩,
      ⟨(some 4), none, true, .mv (.t 29)⟩])
  (.ret)
def burrowlaw23_count : AFun := ⟨30, [.mv (.t 4)],
  .seq (.region [⟨(some 4), none, true, .mv (.c (.int .i64 0))⟩])
  (.seq (.region [⟨(some 5), none, true, .mv (.c (.int .i64 0))⟩])
  (.seq (.seq (.region [⟨(some 10), none, true, .mv (.t 1)⟩,
        ⟨(some 11), none, true, .len (.t 10)⟩,
        ⟨(some 12), none, true, .mv (.c (.int .i64 0))⟩])
    (.block 0 (.loop burrowlaw23_countl2)))
  burrowlaw23_countc3))⟩
/- burrow/burrowlaw23.begun -/

def burrowlaw23_begun : AFun := ⟨49, [.mv (.t 0)],
  .seq (.region [⟨(some 0), none, true, .mv (.c (.bl false))⟩])
  (.seq (.region [⟨(some 7), none, false, .build (.st 76 [(.int .u32 0), (.int .u32 0), (.ar 1 32 (zr 32 (.int .u8 0))), (.ar 1 32 (zr 32 (.int .u8 0))), (.int .u64 0), (.int .u64 0), (.st 6 [(.bl false), (.int .u64 0), (.ar 1 4 (zr 4 (.int .u64 0)))]), (.int .i64 0), (.bl false)]) [(0, (.c (.int .u32 5)))]⟩,
      ⟨(some 1), none, false, .alloc (.st 76 [(.int .u32 0), (.int .u32 0), (.ar 1 32 (zr 32 (.int .u8 0))), (.ar 1 32 (zr 32 (.int .u8 0))), (.int .u64 0), (.int .u64 0), (.st 6 [(.bl false), (.int .u64 0), (.ar 1 4 (zr 4 (.int .u64 0)))]), (.int .i64 0), (.bl false)])⟩,
      ⟨none, none, false, .store 76 (.t 1) (.t 7)⟩])
  (.seq (.region [⟨(some 9), none, false, .build (.st 231 [(.st 77 [(.bl false), (.st 76 [(.int .u32 0), (.int .u32 0), (.ar 1 32 (zr 32 (.int .u8 0))), (.ar 1 32 (zr 32 (.int .u8 0))), (.int .u64 0), (.int .u64 0), (.st 6 [(.bl false), (.int .u64 0), (.ar 1 4 (zr 4 (.int .u64 0)))]), (.int .i64 0), (.bl false)])]), (.st 77 [(.bl false), (.st 76 [(.int .u32 0), (.int .u32 0), (.ar 1 32 (zr 32 (.int .u8 0))), (.ar 1 32 (zr 32 (.int .u8 0))), (.int .u64 0), (.int .u64 0), (.st 6 [(.bl false), (.int .u64 0), (.ar 1 4 (zr 4 (.int .u64 0)))]), (.int .i64 0), (.bl false)])]), (.st 77 [(.bl false), (.st 76 [(.int .u32 0), (.int .u32 0), (.ar 1 32 (zr 32 (.int .u8 0))), (.ar 1 32 (zr 32 (.int .u8 0))), (.int .u64 0), (.int .u64 0), (.st 6 [(.bl false), (.int .u64 0), (.ar 1 4 (zr 4 (.int .u64 0)))]), (.int .i64 0), (.bl false)])])]) []⟩,
      ⟨(some 10), none, true, .load true 76 (.t 1)⟩,
      ⟨(some 11), none, false, .call (.c (.fn (.func I.ring_Answer) [] [])) [(.t 9), (.t 10)]⟩,
      ⟨(some 8), none, true, .mv (.t 11)⟩,
      ⟨(some 12), none, true, .extract 0 (.t 8)⟩,
      ⟨(some 13), none, true, .extract 1 (.t 8)⟩,
      ⟨(some 2), none, false, .alloc (.st 231 [(.st 77 [(.bl false), (.st 76 [(.int .u32 0), (.int .u32 0), (.ar 1 32 (zr 32 (.int .u8 0))), (.ar 1 32 (zr 32 (.int .u8 0))), (.int .u64 0), (.int .u64 0), (.st 6 [(.bl false), (.int .u64 0), (.ar 1 4 (zr 4 (.int .u64 0)))]), (.int .i64 0), (.bl false)])]), (.st 77 [(.bl false), (.st 76 [(.int .u32 0), (.int .u32 0), (.ar 1 32 (zr 32 (.int .u8 0))), (.ar 1 32 (zr 32 (.int .u8 0))), (.int .u64 0), (.int .u64 0), (.st 6 [(.bl false), (.int .u64 0), (.ar 1 4 (zr 4 (.int .u64 0)))]), (.int .i64 0), (.bl false)])]), (.st 77 [(.bl false), (.st 76 [(.int .u32 0), (.int .u32 0), (.ar 1 32 (zr 32 (.int .u8 0))), (.ar 1 32 (zr 32 (.int .u8 0))), (.int .u64 0), (.int .u64 0), (.st 6 [(.bl false), (.int .u64 0), (.ar 1 4 (zr 4 (.int .u64 0)))]), (.int .i64 0), (.bl false)])])])⟩,
      ⟨none, none, false, .store 231 (.t 2) (.t 12)⟩,
      ⟨(some 3), none, true, .mv (.t 13)⟩])
  (.seq (.region [⟨(some 15), none, true, .load true 231 (.t 2)⟩,
      ⟨(some 16), none, false, .call (.c (.fn (.func I.ring_Confirm) [] [])) [(.t 15), (.c (.int .u32 5))]⟩,
      ⟨(some 14), none, true, .mv (.t 16)⟩,
      ⟨(some 17), none, true, .extract 0 (.t 14)⟩,
      ⟨(some 18), none, true, .extract 1 (.t 14)⟩,
      ⟨(some 19), none, true, .extract 2 (.t 14)⟩,
      ⟨(some 4), none, false, .alloc (.st 231 [(.st 77 [(.bl false), (.st 76 [(.int .u32 0), (.int .u32 0), (.ar 1 32 (zr 32 (.int .u8 0))), (.ar 1 32 (zr 32 (.int .u8 0))), (.int .u64 0), (.int .u64 0), (.st 6 [(.bl false), (.int .u64 0), (.ar 1 4 (zr 4 (.int .u64 0)))]), (.int .i64 0), (.bl false)])]), (.st 77 [(.bl false), (.st 76 [(.int .u32 0), (.int .u32 0), (.ar 1 32 (zr 32 (.int .u8 0))), (.ar 1 32 (zr 32 (.int .u8 0))), (.int .u64 0), (.int .u64 0), (.st 6 [(.bl false), (.int .u64 0), (.ar 1 4 (zr 4 (.int .u64 0)))]), (.int .i64 0), (.bl false)])]), (.st 77 [(.bl false), (.st 76 [(.int .u32 0), (.int .u32 0), (.ar 1 32 (zr 32 (.int .u8 0))), (.ar 1 32 (zr 32 (.int .u8 0))), (.int .u64 0), (.int .u64 0), (.st 6 [(.bl false), (.int .u64 0), (.ar 1 4 (zr 4 (.int .u64 0)))]), (.int .i64 0), (.bl false)])])])⟩,
      ⟨none, none, false, .store 231 (.t 4) (.t 17)⟩,
      ⟨(some 5), none, true, .mv (.t 18)⟩,
      ⟨(some 6), none, true, .mv (.t 19)⟩])
  (.seq (.region [⟨(some 20), none, true, .mv (.t 3)⟩,
      ⟨(some 21), none, true, .len (.t 20)⟩,
      ⟨(some 22), none, true, .bin .eql .no (.t 21) (.c (.int .i64 0))⟩,
      ⟨(some 23), none, true, .mv (.t 22)⟩,
      ⟨(some 24), (some (23, true)), true, .mv (.t 5)⟩,
      ⟨(some 25), none, true, .pick (.t 23) (.t 24) (.c (.bl false))⟩,
      ⟨(some 26), none, true, .mv (.t 25)⟩,
      ⟨(some 27), (some (26, true)), true, .mv (.t 6)⟩,
      ⟨(some 28), (some (26, true)), true, .len (.t 27)⟩,
      ⟨(some 29), (some (26, true)), true, .bin .eql .no (.t 28) (.c (.int .i64 0))⟩,
      ⟨(some 30), none, true, .pick (.t 26) (.t 29) (.c (.bl false))⟩,
      ⟨(some 31), none, true, .mv (.t 30)⟩,
      ⟨(some 32), (some (31, true)), true, .fieldA 1 77 (.t 4)⟩,
      ⟨(some 33), (some (31, true)), true, .fieldA 0 0 (.t 32)⟩,
      ⟨(some 34), (some (31, true)), true, .load false 1 (.t 33)⟩,
      ⟨(some 35), none, true, .pick (.t 31) (.t 34) (.c (.bl false))⟩,
      ⟨(some 36), none, true, .mv (.t 35)⟩,
      ⟨(some 37), (some (36, true)), true, .fieldA 1 77 (.t 4)⟩,
      ⟨(some 38), (some (36, true)), true, .fieldA 1 1 (.t 37)⟩,
      ⟨(some 39), (some (36, true)), true, .load true 76 (.t 38)⟩,
      ⟨(some 40), (some (36, true)), true, .load true 76 (.t 1)⟩,
      ⟨(some 41), (some (36, true)), true, .bin .eql (.sh (.st [(.i .u32), (.i .u32), (.ar 32 (.i .u8)), (.ar 32 (.i .u8)), (.i .u64), (.i .u64), (.st [.b, (.i .u64), (.ar 4 (.i .u64))]), (.i .i64), .b])) (.t 39) (.t 40)⟩,
      ⟨(some 42), none, true, .pick (.t 36) (.t 41) (.c (.bl false))⟩,
      ⟨(some 43), none, true, .mv (.t 42)⟩,
      ⟨(some 44), (some (43, true)), true, .fieldA 2 154 (.t 4)⟩,
      ⟨(some 45), (some (43, true)), true, .fieldA 0 0 (.t 44)⟩,
      ⟨(some 46), (some (43, true)), true, .load false 1 (.t 45)⟩,
      ⟨(some 47), (some (43, true)), true, .un .not (.t 46)⟩,
      ⟨(some 48), none, true, .pick (.t 43) (.t 47) (.c (.bl false))⟩,
      ⟨(some 0), none, true, .mv (.t 48)⟩])
  (.ret)))))⟩
/- burrow/ring.locals -/
def ring_localsl0 : ACode :=
  .seq (.region [⟨(some 9), none, true, .bin .lss .no (.t 8) (.t 7)⟩])
  (.seq (.cond (.t 9)
      (.skip)
      (.exit 0))
  (.seq (.block 1 (.seq (.region [⟨(some 10), none, false, .indexA (.sl 77) (.t 6) (.t 8)⟩,
        ⟨(some 11), none, true, .load true 77 (.t 10)⟩,
        ⟨(some 5), none, false, .alloc (.st 77 [(.bl false), (.st 76 [(.int .u32 0), (.int .u32 0), (.ar 1 32 (zr 32 (.int .u8 0))), (.ar 1 32 (zr 32 (.int .u8 0))), (.int .u64 0), (.int .u64 0), (.st 6 [(.bl false), (.int .u64 0), (.ar 1 4 (zr 4 (.int .u64 0)))]), (.int .i64 0), (.bl false)])])⟩,
        ⟨none, none, false, .store 77 (.t 5) (.t 11)⟩])
    (.seq (.region [⟨(some 12), none, true, .fieldA 0 0 (.t 5)⟩,
        ⟨(some 13), none, true, .load false 1 (.t 12)⟩])
    (.cond (.t 13)
      (.region [⟨(some 14), none, true, .mv (.t 3)⟩,
        ⟨(some 15), none, true, .fieldA 1 1 (.t 5)⟩,
        ⟨(some 16), none, true, .fieldA 0 0 (.t 15)⟩,
        ⟨(some 17), none, true, .load false 1 (.t 16)⟩,
        ⟨(some 18), none, false, .buildSlice false 1 (.int .u32 0) 1 [(0, (.t 17))]⟩,
        ⟨(some 19), none, false, .append 1 4 false (.t 14) (.t 18)⟩,
        ⟨(some 3), none, true, .mv (.t 19)⟩])
      (.skip)))))
  (.region [⟨(some 20), none, true, .bin .add .no (.t 8) (.c (.int .i64 1))⟩,
    ⟨(some 8), none, true, .mv (.t 20)⟩])))
def ring_localsc1 : ACode :=
  .seq (.region [⟨(some 21), none, true, .mv (.t 3)⟩,
      ⟨(some 2), none, true, .mv (.t 21)⟩])
  (.ret)
def ring_locals : AFun := ⟨22, [.mv (.t 2)],
  .seq (.region [⟨(some 2), none, true, .mv (.c (.sl 1 [] true))⟩])
  (.seq (.region [⟨(some 3), none, true, .mv (.c (.sl 1 [] true))⟩])
  (.seq (.seq (.region [⟨(some 6), none, true, .mv (.t 0)⟩,
        ⟨(some 7), none, true, .len (.t 6)⟩,
        ⟨(some 8), none, true, .mv (.c (.int .i64 0))⟩])
    (.block 0 (.loop ring_localsl0)))
  ring_localsc1))⟩
/- burrow/ring.kept -/

def ring_kept : AFun := ⟨8, [.load true 77 (.t 2)],
  .seq (.region [⟨(some 1), none, false, .box (.t 0)⟩,
      ⟨(some 2), none, false, .alloc (.st 77 [(.bl false), (.st 76 [(.int .u32 0), (.int .u32 0), (.ar 1 32 (zr 32 (.int .u8 0))), (.ar 1 32 (zr 32 (.int .u8 0))), (.int .u64 0), (.int .u64 0), (.st 6 [(.bl false), (.int .u64 0), (.ar 1 4 (zr 4 (.int .u64 0)))]), (.int .i64 0), (.bl false)])])⟩])
  (.seq (.seq (.region [⟨(some 3), none, true, .fieldA 0 0 (.t 1)⟩,
        ⟨(some 4), none, true, .load false 1 (.t 3)⟩,
        ⟨(some 5), none, true, .un .not (.t 4)⟩])
    (.cond (.t 5)
      (.seq (.region [⟨(some 6), none, false, .build (.st 77 [(.bl false), (.st 76 [(.int .u32 0), (.int .u32 0), (.ar 1 32 (zr 32 (.int .u8 0))), (.ar 1 32 (zr 32 (.int .u8 0))), (.int .u64 0), (.int .u64 0), (.st 6 [(.bl false), (.int .u64 0), (.ar 1 4 (zr 4 (.int .u64 0)))]), (.int .i64 0), (.bl false)])]) []⟩,
          ⟨none, none, false, .store 77 (.t 2) (.t 6)⟩])
      (.ret))
      (.skip)))
  (.seq (.region [⟨(some 7), none, true, .load true 77 (.t 1)⟩,
      ⟨none, none, false, .store 77 (.t 2) (.t 7)⟩])
  (.ret)))⟩
end Go.Ab.F
