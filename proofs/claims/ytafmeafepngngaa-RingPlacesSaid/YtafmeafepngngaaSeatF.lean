/- The program's functions as the abstract reading has them, and their numbers. Written by program. No condition. -/
import Derived.Test.YtafmeafepngngaaA4
namespace Go.Ab.I
def burrowlaw23_RingPlaces : FuncId := 7
def ring_Locals : FuncId := 13
def ring_Begin : FuncId := 14
def ring_Answer : FuncId := 15
def ring_Confirm : FuncId := 16
def burrowlaw23_count : FuncId := 17
def burrowlaw23_begun : FuncId := 18
def ring_Find : FuncId := 33
def burrowlaw23_same : FuncId := 34
def ring_Get : FuncId := 35
def ring_locals : FuncId := 48
def ring_kept : FuncId := 49
def ring_ring_places : FuncId := 53
def ring_ring_previous : FuncId := 73
def ring_ring_current : FuncId := 74
def ring_ring_next : FuncId := 75
end Go.Ab.I
namespace Go.Ab.F
open Go.Ab
/- burrow/burrowlaw23.RingPlaces -/

def burrowlaw23_RingPlaces : AFun := ⟨117, [.mv (.t 6)],
  .seq (.region [⟨(some 3), none, false, .box (.t 0)⟩,
      ⟨(some 4), none, false, .box (.t 1)⟩,
      ⟨(some 5), none, false, .box (.t 2)⟩,
      ⟨(some 6), none, true, .mv (.c (.bl false))⟩])
  (.seq (.region [⟨(some 19), none, true, .fieldA 0 0 (.t 3)⟩,
      ⟨none, none, false, .store 1 (.t 19) (.c (.int .u32 1))⟩,
      ⟨(some 20), none, true, .fieldA 0 0 (.t 4)⟩,
      ⟨none, none, false, .store 1 (.t 20) (.c (.int .u32 2))⟩,
      ⟨(some 21), none, true, .fieldA 0 0 (.t 5)⟩,
      ⟨none, none, false, .store 1 (.t 21) (.c (.int .u32 3))⟩])
  (.seq (.region [⟨(some 23), none, false, .build (.st 231 [(.st 77 [(.bl false), (.st 76 [(.int .u32 0), (.int .u32 0), (.ar 1 32 (zr 32 (.int .u8 0))), (.ar 1 32 (zr 32 (.int .u8 0))), (.int .u64 0), (.int .u64 0), (.st 6 [(.bl false), (.int .u64 0), (.ar 1 4 (zr 4 (.int .u64 0)))]), (.int .i64 0), (.bl false)])]), (.st 77 [(.bl false), (.st 76 [(.int .u32 0), (.int .u32 0), (.ar 1 32 (zr 32 (.int .u8 0))), (.ar 1 32 (zr 32 (.int .u8 0))), (.int .u64 0), (.int .u64 0), (.st 6 [(.bl false), (.int .u64 0), (.ar 1 4 (zr 4 (.int .u64 0)))]), (.int .i64 0), (.bl false)])]), (.st 77 [(.bl false), (.st 76 [(.int .u32 0), (.int .u32 0), (.ar 1 32 (zr 32 (.int .u8 0))), (.ar 1 32 (zr 32 (.int .u8 0))), (.int .u64 0), (.int .u64 0), (.st 6 [(.bl false), (.int .u64 0), (.ar 1 4 (zr 4 (.int .u64 0)))]), (.int .i64 0), (.bl false)])])]) []⟩,
      ⟨(some 24), none, true, .load true 76 (.t 3)⟩,
      ⟨(some 25), none, false, .call (.c (.fn (.func I.ring_Begin) [] [])) [(.t 23), (.t 24)]⟩,
      ⟨(some 22), none, true, .mv (.t 25)⟩,
      ⟨(some 26), none, true, .extract 0 (.t 22)⟩,
      ⟨(some 27), none, true, .extract 1 (.t 22)⟩,
      ⟨(some 7), none, false, .alloc (.st 231 [(.st 77 [(.bl false), (.st 76 [(.int .u32 0), (.int .u32 0), (.ar 1 32 (zr 32 (.int .u8 0))), (.ar 1 32 (zr 32 (.int .u8 0))), (.int .u64 0), (.int .u64 0), (.st 6 [(.bl false), (.int .u64 0), (.ar 1 4 (zr 4 (.int .u64 0)))]), (.int .i64 0), (.bl false)])]), (.st 77 [(.bl false), (.st 76 [(.int .u32 0), (.int .u32 0), (.ar 1 32 (zr 32 (.int .u8 0))), (.ar 1 32 (zr 32 (.int .u8 0))), (.int .u64 0), (.int .u64 0), (.st 6 [(.bl false), (.int .u64 0), (.ar 1 4 (zr 4 (.int .u64 0)))]), (.int .i64 0), (.bl false)])]), (.st 77 [(.bl false), (.st 76 [(.int .u32 0), (.int .u32 0), (.ar 1 32 (zr 32 (.int .u8 0))), (.ar 1 32 (zr 32 (.int .u8 0))), (.int .u64 0), (.int .u64 0), (.st 6 [(.bl false), (.int .u64 0), (.ar 1 4 (zr 4 (.int .u64 0)))]), (.int .i64 0), (.bl false)])])])⟩,
      ⟨none, none, false, .store 231 (.t 7) (.t 26)⟩,
      ⟨(some 8), none, true, .mv (.t 27)⟩])
  (.seq (.region [⟨(some 29), none, true, .load true 231 (.t 7)⟩,
      ⟨(some 30), none, true, .load true 76 (.t 4)⟩,
      ⟨(some 31), none, false, .call (.c (.fn (.func I.ring_Answer) [] [])) [(.t 29), (.t 30)]⟩,
      ⟨(some 28), none, true, .mv (.t 31)⟩,
      ⟨(some 32), none, true, .extract 0 (.t 28)⟩,
      ⟨(some 33), none, true, .extract 1 (.t 28)⟩,
      ⟨(some 9), none, false, .alloc (.st 231 [(.st 77 [(.bl false), (.st 76 [(.int .u32 0), (.int .u32 0), (.ar 1 32 (zr 32 (.int .u8 0))), (.ar 1 32 (zr 32 (.int .u8 0))), (.int .u64 0), (.int .u64 0), (.st 6 [(.bl false), (.int .u64 0), (.ar 1 4 (zr 4 (.int .u64 0)))]), (.int .i64 0), (.bl false)])]), (.st 77 [(.bl false), (.st 76 [(.int .u32 0), (.int .u32 0), (.ar 1 32 (zr 32 (.int .u8 0))), (.ar 1 32 (zr 32 (.int .u8 0))), (.int .u64 0), (.int .u64 0), (.st 6 [(.bl false), (.int .u64 0), (.ar 1 4 (zr 4 (.int .u64 0)))]), (.int .i64 0), (.bl false)])]), (.st 77 [(.bl false), (.st 76 [(.int .u32 0), (.int .u32 0), (.ar 1 32 (zr 32 (.int .u8 0))), (.ar 1 32 (zr 32 (.int .u8 0))), (.int .u64 0), (.int .u64 0), (.st 6 [(.bl false), (.int .u64 0), (.ar 1 4 (zr 4 (.int .u64 0)))]), (.int .i64 0), (.bl false)])])])⟩,
      ⟨none, none, false, .store 231 (.t 9) (.t 32)⟩,
      ⟨(some 10), none, true, .mv (.t 33)⟩])
  (.seq (.region [⟨(some 35), none, true, .load true 231 (.t 9)⟩,
      ⟨(some 36), none, false, .call (.c (.fn (.func I.ring_Confirm) [] [])) [(.t 35), (.c (.int .u32 2))]⟩,
      ⟨(some 34), none, true, .mv (.t 36)⟩,
      ⟨(some 37), none, true, .extract 0 (.t 34)⟩,
      ⟨(some 38), none, true, .extract 1 (.t 34)⟩,
      ⟨(some 39), none, true, .extract 2 (.t 34)⟩,
      ⟨(some 11), none, false, .alloc (.st 231 [(.st 77 [(.bl false), (.st 76 [(.int .u32 0), (.int .u32 0), (.ar 1 32 (zr 32 (.int .u8 0))), (.ar 1 32 (zr 32 (.int .u8 0))), (.int .u64 0), (.int .u64 0), (.st 6 [(.bl false), (.int .u64 0), (.ar 1 4 (zr 4 (.int .u64 0)))]), (.int .i64 0), (.bl false)])]), (.st 77 [(.bl false), (.st 76 [(.int .u32 0), (.int .u32 0), (.ar 1 32 (zr 32 (.int .u8 0))), (.ar 1 32 (zr 32 (.int .u8 0))), (.int .u64 0), (.int .u64 0), (.st 6 [(.bl false), (.int .u64 0), (.ar 1 4 (zr 4 (.int .u64 0)))]), (.int .i64 0), (.bl false)])]), (.st 77 [(.bl false), (.st 76 [(.int .u32 0), (.int .u32 0), (.ar 1 32 (zr 32 (.int .u8 0))), (.ar 1 32 (zr 32 (.int .u8 0))), (.int .u64 0), (.int .u64 0), (.st 6 [(.bl false), (.int .u64 0), (.ar 1 4 (zr 4 (.int .u64 0)))]), (.int .i64 0), (.bl false)])])])⟩,
      ⟨none, none, false, .store 231 (.t 11) (.t 37)⟩,
      ⟨(some 12), none, true, .mv (.t 38)⟩,
      ⟨(some 13), none, true, .mv (.t 39)⟩])
  (.seq (.region [⟨(some 41), none, true, .load true 231 (.t 9)⟩,
      ⟨(some 42), none, true, .load true 76 (.t 5)⟩,
      ⟨(some 43), none, false, .call (.c (.fn (.func I.ring_Begin) [] [])) [(.t 41), (.t 42)]⟩,
      ⟨(some 40), none, true, .mv (.t 43)⟩,
      ⟨(some 44), none, true, .extract 0 (.t 40)⟩,
      ⟨(some 45), none, true, .extract 1 (.t 40)⟩,
      ⟨(some 14), none, false, .alloc (.st 231 [(.st 77 [(.bl false), (.st 76 [(.int .u32 0), (.int .u32 0), (.ar 1 32 (zr 32 (.int .u8 0))), (.ar 1 32 (zr 32 (.int .u8 0))), (.int .u64 0), (.int .u64 0), (.st 6 [(.bl false), (.int .u64 0), (.ar 1 4 (zr 4 (.int .u64 0)))]), (.int .i64 0), (.bl false)])]), (.st 77 [(.bl false), (.st 76 [(.int .u32 0), (.int .u32 0), (.ar 1 32 (zr 32 (.int .u8 0))), (.ar 1 32 (zr 32 (.int .u8 0))), (.int .u64 0), (.int .u64 0), (.st 6 [(.bl false), (.int .u64 0), (.ar 1 4 (zr 4 (.int .u64 0)))]), (.int .i64 0), (.bl false)])]), (.st 77 [(.bl false), (.st 76 [(.int .u32 0), (.int .u32 0), (.ar 1 32 (zr 32 (.int .u8 0))), (.ar 1 32 (zr 32 (.int .u8 0))), (.int .u64 0), (.int .u64 0), (.st 6 [(.bl false), (.int .u64 0), (.ar 1 4 (zr 4 (.int .u64 0)))]), (.int .i64 0), (.bl false)])])])⟩,
      ⟨none, none, false, .store 231 (.t 14) (.t 44)⟩,
      ⟨(some 15), none, true, .mv (.t 45)⟩])
  (.seq (.region [⟨(some 47), none, true, .load true 231 (.t 11)⟩,
      ⟨(some 48), none, false, .call (.c (.fn (.func I.ring_Confirm) [] [])) [(.t 47), (.c (.int .u32 2))]⟩,
      ⟨(some 46), none, true, .mv (.t 48)⟩,
      ⟨(some 49), none, true, .extract 0 (.t 46)⟩,
      ⟨(some 50), none, true, .extract 1 (.t 46)⟩,
      ⟨(some 51), none, true, .extract 2 (.t 46)⟩,
      ⟨(some 16), none, false, .alloc (.st 231 [(.st 77 [(.bl false), (.st 76 [(.int .u32 0), (.int .u32 0), (.ar 1 32 (zr 32 (.int .u8 0))), (.ar 1 32 (zr 32 (.int .u8 0))), (.int .u64 0), (.int .u64 0), (.st 6 [(.bl false), (.int .u64 0), (.ar 1 4 (zr 4 (.int .u64 0)))]), (.int .i64 0), (.bl false)])]), (.st 77 [(.bl false), (.st 76 [(.int .u32 0), (.int .u32 0), (.ar 1 32 (zr 32 (.int .u8 0))), (.ar 1 32 (zr 32 (.int .u8 0))), (.int .u64 0), (.int .u64 0), (.st 6 [(.bl false), (.int .u64 0), (.ar 1 4 (zr 4 (.int .u64 0)))]), (.int .i64 0), (.bl false)])]), (.st 77 [(.bl false), (.st 76 [(.int .u32 0), (.int .u32 0), (.ar 1 32 (zr 32 (.int .u8 0))), (.ar 1 32 (zr 32 (.int .u8 0))), (.int .u64 0), (.int .u64 0), (.st 6 [(.bl false), (.int .u64 0), (.ar 1 4 (zr 4 (.int .u64 0)))]), (.int .i64 0), (.bl false)])])])⟩,
      ⟨none, none, false, .store 231 (.t 16) (.t 49)⟩,
      ⟨(some 17), none, true, .mv (.t 50)⟩,
      ⟨(some 18), none, true, .mv (.t 51)⟩])
  (.seq (.region [⟨(some 52), none, true, .load true 231 (.t 7)⟩,
      ⟨(some 53), none, false, .callq (.c (.fn (.func I.ring_Find) [] [])) [(.t 52), (.c (.int .u32 1))]⟩,
      ⟨(some 54), none, true, .bin .eql .no (.t 53) (.c (.int .i64 2))⟩,
      ⟨(some 55), none, true, .mv (.t 54)⟩,
      ⟨(some 56), (some (55, true)), true, .load true 231 (.t 9)⟩,
      ⟨(some 57), (some (55, true)), false, .callq (.c (.fn (.func I.ring_Find) [] [])) [(.t 56), (.c (.int .u32 1))]⟩,
      ⟨(some 58), (some (55, true)), false, .bin .eql .no (.t 57) (.c (.int .i64 2))⟩,
      ⟨(some 59), none, true, .pick (.t 55) (.t 58) (.c (.bl false))⟩,
      ⟨(some 60), none, true, .mv (.t 59)⟩,
      ⟨(some 61), (some (60, true)), true, .load true 231 (.t 9)⟩,
      ⟨(some 62), (some (60, true)), false, .callq (.c (.fn (.func I.ring_Find) [] [])) [(.t 61), (.c (.int .u32 2))]⟩,
      ⟨(some 63), (some (60, true)), false, .bin .eql .no (.t 62) (.c (.int .i64 3))⟩,
      ⟨(some 64), none, true, .pick (.t 60) (.t 63) (.c (.bl false))⟩,
      ⟨(some 65), none, true, .mv (.t 64)⟩,
      ⟨(some 66), (some (65, true)), true, .mv (.t 12)⟩,
      ⟨(some 67), none, true, .pick (.t 65) (.t 66) (.c (.bl false))⟩,
      ⟨(some 68), none, true, .mv (.t 67)⟩,
      ⟨(some 69), (some (68, true)), true, .mv (.t 13)⟩,
      ⟨(some 70), (some (68, true)), true, .len (.t 69)⟩,
      ⟨(some 71), (some (68, true)), true, .bin .eql .no (.t 70) (.c (.int .i64 0))⟩,
      ⟨(some 72), none, true, .pick (.t 68) (.t 71) (.c (.bl false))⟩,
      ⟨(some 73), none, true, .mv (.t 72)⟩,
      ⟨(some 74), (some (73, true)), true, .load true 231 (.t 11)⟩,
      ⟨(some 75), (some (73, true)), false, .callq (.c (.fn (.func I.ring_Find) [] [])) [(.t 74), (.c (.int .u32 1))]⟩,
      ⟨(some 76), (some (73, true)), false, .bin .eql .no (.t 75) (.c (.int .i64 1))⟩,
      ⟨(some 77), none, true, .pick (.t 73) (.t 76) (.c (.bl false))⟩,
      ⟨(some 78), none, true, .mv (.t 77)⟩,
      ⟨(some 79), (some (78, true)), true, .load true 231 (.t 11)⟩,
      ⟨(some 80), (some (78, true)), false, .callq (.c (.fn (.func I.ring_Find) [] [])) [(.t 79), (.c (.int .u32 2))]⟩,
      ⟨(some 81), (some (78, true)), false, .bin .eql .no (.t 80) (.c (.int .i64 2))⟩,
      ⟨(some 82), none, true, .pick (.t 78) (.t 81) (.c (.bl false))⟩,
      ⟨(some 83), none, true, .mv (.t 82)⟩,
      ⟨(some 84), (some (83, true)), true, .load true 231 (.t 11)⟩,
      ⟨(some 85), (some (83, true)), false, .callq (.c (.fn (.func I.ring_Find) [] [])) [(.t 84), (.c (.int .u32 3))]⟩,
      ⟨(some 86), (some (83, true)), false, .bin .eql .no (.t 85) (.c (.int .i64 0))⟩,
      ⟨(some 87), none, true, .pick (.t 83) (.t 86) (.c (.bl false))⟩,
      ⟨(some 88), none, true, .mv (.t 87)⟩,
      ⟨(some 89), (some (88, true)), true, .load true 231 (.t 14)⟩,
      ⟨(some 90), (some (88, true)), false, .callq (.c (.fn (.func I.ring_Find) [] [])) [(.t 89), (.c (.int .u32 3))]⟩,
      ⟨(some 91), (some (88, true)), false, .bin .eql .no (.t 90) (.c (.int .i64 2))⟩,
      ⟨(some 92), none, true, .pick (.t 88) (.t 91) (.c (.bl false))⟩,
      ⟨(some 93), none, true, .mv (.t 92)⟩,
      ⟨(some 94), (some (93, true)), true, .load true 231 (.t 14)⟩,
      ⟨(some 95), (some (93, true)), false, .callq (.c (.fn (.func I.ring_Find) [] [])) [(.t 94), (.c (.int .u32 2))]⟩,
      ⟨(some 96), (some (93, true)), false, .bin .eql .no (.t 95) (.c (.int .i64 1))⟩,
      ⟨(some 97), none, true, .pick (.t 93) (.t 96) (.c (.bl false))⟩,
      ⟨(some 98), none, true, .mv (.t 97)⟩,
      ⟨(some 99), (some (98, true)), true, .mv (.t 15)⟩,
      ⟨(some 100), (some (98, true)), false, .buildSlice false 1 (.int .u32 0) 1 [(0, (.c (.int .u32 1)))]⟩,
      ⟨(some 101), (some (98, true)), false, .callq (.c (.fn (.func I.burrowlaw23_same) [] [])) [(.t 99), (.t 100)]⟩,
      ⟨(some 102), none, true, .pick (.t 98) (.t 101) (.c (.bl false))⟩,
      ⟨(some 103), none, true, .mv (.t 102)⟩,
      ⟨(some 104), (some (103, true)), true, .mv (.t 17)⟩,
      ⟨(some 105), (some (103, true)), true, .un .not (.t 104)⟩,
      ⟨(some 106), none, true, .pick (.t 103) (.t 105) (.c (.bl false))⟩,
      ⟨(some 107), none, true, .mv (.t 106)⟩,
      ⟨(some 108), (some (107, true)), true, .load true 231 (.t 11)⟩,
      ⟨(some 109), (some (107, true)), false, .callq (.c (.fn (.func I.ring_Get) [] [])) [(.t 108), (.c (.int .i64 2))]⟩,
      ⟨(some 110), (some (107, true)), false, .field 1 1 true 76 (.t 109)⟩,
      ⟨(some 111), (some (107, true)), true, .load true 76 (.t 4)⟩,
      ⟨(some 112), (some (107, true)), false, .bin .eql (.sh (.st [(.i .u32), (.i .u32), (.ar 32 (.i .u8)), (.ar 32 (.i .u8)), (.i .u64), (.i .u64), (.st [.b, (.i .u64), (.ar 4 (.i .u64))]), (.i .i64), .b])) (.t 110) (.t 111)⟩,
      ⟨(some 113), none, true, .pick (.t 107) (.t 112) (.c (.bl false))⟩,
      ⟨(some 114), none, true, .mv (.t 113)⟩,
      ⟨(some 115), (some (114, true)), false, .callq (.c (.fn (.func I.burrowlaw23_begun) [] [])) []⟩,
      ⟨(some 116), none, true, .pick (.t 114) (.t 115) (.c (.bl false))⟩,
      ⟨(some 6), none, true, .mv (.t 116)⟩])
  (.ret))))))))⟩
/- burrow/ring.Locals -/

def ring_Locals : AFun := ⟨11, [.mv (.t 2)],
  .seq (.region [⟨(some 1), none, false, .box (.t 0)⟩,
      ⟨(some 2), none, true, .mv (.c (.sl 1 [] true))⟩])
  (.seq (.region [⟨(some 3), none, true, .fieldA 0 0 (.t 1)⟩,
      ⟨(some 4), none, true, .load true 77 (.t 3)⟩,
      ⟨(some 5), none, true, .fieldA 1 77 (.t 1)⟩,
      ⟨(some 6), none, true, .load true 77 (.t 5)⟩,
      ⟨(some 7), none, true, .fieldA 2 154 (.t 1)⟩,
      ⟨(some 8), none, true, .load true 77 (.t 7)⟩,
      ⟨(some 9), none, false, .buildSlice false 77 (.st 77 [(.bl false), (.st 76 [(.int .u32 0), (.int .u32 0), (.ar 1 32 (zr 32 (.int .u8 0))), (.ar 1 32 (zr 32 (.int .u8 0))), (.int .u64 0), (.int .u64 0), (.st 6 [(.bl false), (.int .u64 0), (.ar 1 4 (zr 4 (.int .u64 0)))]), (.int .i64 0), (.bl false)])]) 3 [(0, (.t 4)), (1, (.t 6)), (2, (.t 8))]⟩,
      ⟨(some 10), none, false, .call (.c (.fn (.func I.ring_locals) [] [])) [(.t 9)]⟩,
      ⟨(some 2), none, true, .mv (.t 10)⟩])
  (.ret))⟩
/- burrow/ring.Begin -/

def ring_Begin : AFun := ⟨31, [.load true 231 (.t 4), .mv (.t 5)],
  .seq (.region [⟨(some 2), none, false, .box (.t 0)⟩,
      ⟨(some 3), none, false, .box (.t 1)⟩,
      ⟨(some 4), none, false, .alloc (.st 231 [(.st 77 [(.bl false), (.st 76 [(.int .u32 0), (.int .u32 0), (.ar 1 32 (zr 32 (.int .u8 0))), (.ar 1 32 (zr 32 (.int .u8 0))), (.int .u64 0), (.int .u64 0), (.st 6 [(.bl false), (.int .u64 0), (.ar 1 4 (zr 4 (.int .u64 0)))]), (.int .i64 0), (.bl false)])]), (.st 77 [(.bl false), (.st 76 [(.int .u32 0), (.int .u32 0), (.ar 1 32 (zr 32 (.int .u8 0))), (.ar 1 32 (zr 32 (.int .u8 0))), (.int .u64 0), (.int .u64 0), (.st 6 [(.bl false), (.int .u64 0), (.ar 1 4 (zr 4 (.int .u64 0)))]), (.int .i64 0), (.bl false)])]), (.st 77 [(.bl false), (.st 76 [(.int .u32 0), (.int .u32 0), (.ar 1 32 (zr 32 (.int .u8 0))), (.ar 1 32 (zr 32 (.int .u8 0))), (.int .u64 0), (.int .u64 0), (.st 6 [(.bl false), (.int .u64 0), (.ar 1 4 (zr 4 (.int .u64 0)))]), (.int .i64 0), (.bl false)])])])⟩,
      ⟨(some 5), none, true, .mv (.c (.sl 1 [] true))⟩])
  (.seq (.region [⟨(some 7), none, true, .load true 76 (.t 3)⟩,
      ⟨(some 8), none, false, .build (.st 77 [(.bl false), (.st 76 [(.int .u32 0), (.int .u32 0), (.ar 1 32 (zr 32 (.int .u8 0))), (.ar 1 32 (zr 32 (.int .u8 0))), (.int .u64 0), (.int .u64 0), (.st 6 [(.bl false), (.int .u64 0), (.ar 1 4 (zr 4 (.int .u64 0)))]), (.int .i64 0), (.bl false)])]) [(0, (.c (.bl true))), (1, (.t 7))]⟩,
      ⟨(some 6), none, false, .alloc (.st 77 [(.bl false), (.st 76 [(.int .u32 0), (.int .u32 0), (.ar 1 32 (zr 32 (.int .u8 0))), (.ar 1 32 (zr 32 (.int .u8 0))), (.int .u64 0), (.int .u64 0), (.st 6 [(.bl false), (.int .u64 0), (.ar 1 4 (zr 4 (.int .u64 0)))]), (.int .i64 0), (.bl false)])])⟩,
      ⟨none, none, false, .store 77 (.t 6) (.t 8)⟩])
  (.seq (.seq (.region [⟨(some 9), none, true, .fieldA 2 154 (.t 2)⟩,
        ⟨(some 10), none, true, .fieldA 0 0 (.t 9)⟩,
        ⟨(some 11), none, true, .load false 1 (.t 10)⟩])
    (.cond (.t 11)
      (.seq (.region [⟨(some 12), none, true, .fieldA 2 154 (.t 2)⟩,
          ⟨(some 13), none, true, .load true 77 (.t 12)⟩,
          ⟨(some 14), none, true, .load true 77 (.t 6)⟩,
          ⟨(some 15), none, false, .build (.st 231 [(.st 77 [(.bl false), (.st 76 [(.int .u32 0), (.int .u32 0), (.ar 1 32 (zr 32 (.int .u8 0))), (.ar 1 32 (zr 32 (.int .u8 0))), (.int .u64 0), (.int .u64 0), (.st 6 [(.bl false), (.int .u64 0), (.ar 1 4 (zr 4 (.int .u64 0)))]), (.int .i64 0), (.bl false)])]), (.st 77 [(.bl false), (.st 76 [(.int .u32 0), (.int .u32 0), (.ar 1 32 (zr 32 (.int .u8 0))), (.ar 1 32 (zr 32 (.int .u8 0))), (.int .u64 0), (.int .u64 0), (.st 6 [(.bl false), (.int .u64 0), (.ar 1 4 (zr 4 (.int .u64 0)))]), (.int .i64 0), (.bl false)])]), (.st 77 [(.bl false), (.st 76 [(.int .u32 0), (.int .u32 0), (.ar 1 32 (zr 32 (.int .u8 0))), (.ar 1 32 (zr 32 (.int .u8 0))), (.int .u64 0), (.int .u64 0), (.st 6 [(.bl false), (.int .u64 0), (.ar 1 4 (zr 4 (.int .u64 0)))]), (.int .i64 0), (.bl false)])])]) [(0, (.t 13)), (1, (.t 14))]⟩,
          ⟨(some 16), none, true, .fieldA 0 0 (.t 2)⟩,
          ⟨(some 17), none, true, .load true 77 (.t 16)⟩,
          ⟨(some 18), none, true, .fieldA 1 77 (.t 2)⟩,
          ⟨(some 19), none, true, .load true 77 (.t 18)⟩,
          ⟨(some 20), none, false, .buildSlice false 77 (.st 77 [(.bl false), (.st 76 [(.int .u32 0), (.int .u32 0), (.ar 1 32 (zr 32 (.int .u8 0))), (.ar 1 32 (zr 32 (.int .u8 0))), (.int .u64 0), (.int .u64 0), (.st 6 [(.bl false), (.int .u64 0), (.ar 1 4 (zr 4 (.int .u64 0)))]), (.int .i64 0), (.bl false)])]) 2 [(0, (.t 17)), (1, (.t 19))]⟩,
          ⟨(some 21), none, false, .callq (.c (.fn (.func I.ring_locals) [] [])) [(.t 20)]⟩,
          ⟨none, none, false, .store 231 (.t 4) (.t 15)⟩,
          ⟨(some 5), none, true, .mv (.t 21)⟩])
      (.ret))
      (.skip)))
  (.seq (.region [⟨(some 22), none, true, .fieldA 1 77 (.t 2)⟩,
      ⟨(some 23), none, true, .load true 77 (.t 22)⟩,
      ⟨(some 24), none, false, .callq (.c (.fn (.func I.ring_kept) [] [])) [(.t 23)]⟩,
      ⟨(some 25), none, true, .load true 77 (.t 6)⟩,
      ⟨(some 26), none, false, .build (.st 231 [(.st 77 [(.bl false), (.st 76 [(.int .u32 0), (.int .u32 0), (.ar 1 32 (zr 32 (.int .u8 0))), (.ar 1 32 (zr 32 (.int .u8 0))), (.int .u64 0), (.int .u64 0), (.st 6 [(.bl false), (.int .u64 0), (.ar 1 4 (zr 4 (.int .u64 0)))]), (.int .i64 0), (.bl false)])]), (.st 77 [(.bl false), (.st 76 [(.int .u32 0), (.int .u32 0), (.ar 1 32 (zr 32 (.int .u8 0))), (.ar 1 32 (zr 32 (.int .u8 0))), (.int .u64 0), (.int .u64 0), (.st 6 [(.bl false), (.int .u64 0), (.ar 1 4 (zr 4 (.int .u64 0)))]), (.int .i64 0), (.bl false)])]), (.st 77 [(.bl false), (.st 76 [(.int .u32 0), (.int .u32 0), (.ar 1 32 (zr 32 (.int .u8 0))), (.ar 1 32 (zr 32 (.int .u8 0))), (.int .u64 0), (.int .u64 0), (.st 6 [(.bl false), (.int .u64 0), (.ar 1 4 (zr 4 (.int .u64 0)))]), (.int .i64 0), (.bl false)])])]) [(0, (.t 24)), (1, (.t 25))]⟩,
      ⟨(some 27), none, true, .fieldA 0 0 (.t 2)⟩,
      ⟨(some 28), none, true, .load true 77 (.t 27)⟩,
      ⟨(some 29), none, false, .buildSlice false 77 (.st 77 [(.bl false), (.st 76 [(.int .u32 0), (.int .u32 0), (.ar 1 32 (zr 32 (.int .u8 0))), (.ar 1 32 (zr 32 (.int .u8 0))), (.int .u64 0), (.int .u64 0), (.st 6 [(.bl false), (.int .u64 0), (.ar 1 4 (zr 4 (.int .u64 0)))]), (.int .i64 0), (.bl false)])]) 1 [(0, (.t 28))]⟩,
      ⟨(some 30), none, false, .callq (.c (.fn (.func I.ring_locals) [] [])) [(.t 29)]⟩,
      ⟨none, none, false, .store 231 (.t 4) (.t 26)⟩,
      ⟨(some 5), none, true, .mv (.t 30)⟩])
  (.ret))))⟩
/- burrow/ring.Answer -/

def ring_Answer : AFun := ⟨17, [.load true 231 (.t 4), .mv (.t 5)],
  .seq (.region [⟨(some 2), none, false, .box (.t 0)⟩,
      ⟨(some 3), none, false, .box (.t 1)⟩,
      ⟨(some 4), none, false, .alloc (.st 231 [(.st 77 [(.bl false), (.st 76 [(.int .u32 0), (.int .u32 0), (.ar 1 32 (zr 32 (.int .u8 0))), (.ar 1 32 (zr 32 (.int .u8 0))), (.int .u64 0), (.int .u64 0), (.st 6 [(.bl false), (.int .u64 0), (.ar 1 4 (zr 4 (.int .u64 0)))]), (.int .i64 0), (.bl false)])]), (.st 77 [(.bl false), (.st 76 [(.int .u32 0), (.int .u32 0), (.ar 1 32 (zr 32 (.int .u8 0))), (.ar 1 32 (zr 32 (.int .u8 0))), (.int .u64 0), (.int .u64 0), (.st 6 [(.bl false), (.int .u64 0), (.ar 1 4 (zr 4 (.int .u64 0)))]), (.int .i64 0), (.bl false)])]), (.st 77 [(.bl false), (.st 76 [(.int .u32 0), (.int .u32 0), (.ar 1 32 (zr 32 (.int .u8 0))), (.ar 1 32 (zr 32 (.int .u8 0))), (.int .u64 0), (.int .u64 0), (.st 6 [(.bl false), (.int .u64 0), (.ar 1 4 (zr 4 (.int .u64 0)))]), (.int .i64 0), (.bl false)])])])⟩,
      ⟨(some 5), none, true, .mv (.c (.sl 1 [] true))⟩])
  (.seq (.region [⟨(some 6), none, true, .fieldA 1 77 (.t 2)⟩,
      ⟨(some 7), none, true, .load true 77 (.t 6)⟩,
      ⟨(some 8), none, true, .load true 76 (.t 3)⟩,
      ⟨(some 9), none, false, .build (.st 77 [(.bl false), (.st 76 [(.int .u32 0), (.int .u32 0), (.ar 1 32 (zr 32 (.int .u8 0))), (.ar 1 32 (zr 32 (.int .u8 0))), (.int .u64 0), (.int .u64 0), (.st 6 [(.bl false), (.int .u64 0), (.ar 1 4 (zr 4 (.int .u64 0)))]), (.int .i64 0), (.bl false)])]) [(0, (.c (.bl true))), (1, (.t 8))]⟩,
      ⟨(some 10), none, false, .build (.st 231 [(.st 77 [(.bl false), (.st 76 [(.int .u32 0), (.int .u32 0), (.ar 1 32 (zr 32 (.int .u8 0))), (.ar 1 32 (zr 32 (.int .u8 0))), (.int .u64 0), (.int .u64 0), (.st 6 [(.bl false), (.int .u64 0), (.ar 1 4 (zr 4 (.int .u64 0)))]), (.int .i64 0), (.bl false)])]), (.st 77 [(.bl false), (.st 76 [(.int .u32 0), (.int .u32 0), (.ar 1 32 (zr 32 (.int .u8 0))), (.ar 1 32 (zr 32 (.int .u8 0))), (.int .u64 0), (.int .u64 0), (.st 6 [(.bl false), (.int .u64 0), (.ar 1 4 (zr 4 (.int .u64 0)))]), (.int .i64 0), (.bl false)])]), (.st 77 [(.bl false), (.st 76 [(.int .u32 0), (.int .u32 0), (.ar 1 32 (zr 32 (.int .u8 0))), (.ar 1 32 (zr 32 (.int .u8 0))), (.int .u64 0), (.int .u64 0), (.st 6 [(.bl false), (.int .u64 0), (.ar 1 4 (zr 4 (.int .u64 0)))]), (.int .i64 0), (.bl false)])])]) [(1, (.t 7)), (2, (.t 9))]⟩,
      ⟨(some 11), none, true, .fieldA 0 0 (.t 2)⟩,
      ⟨(some 12), none, true, .load true 77 (.t 11)⟩,
      ⟨(some 13), none, true, .fieldA 2 154 (.t 2)⟩,
      ⟨(some 14), none, true, .load true 77 (.t 13)⟩,
      ⟨(some 15), none, false, .buildSlice false 77 (.st 77 [(.bl false), (.st 76 [(.int .u32 0), (.int .u32 0), (.ar 1 32 (zr 32 (.int .u8 0))), (.ar 1 32 (zr 32 (.int .u8 0))), (.int .u64 0), (.int .u64 0), (.st 6 [(.bl false), (.int .u64 0), (.ar 1 4 (zr 4 (.int .u64 0)))]), (.int .i64 0), (.bl false)])]) 2 [(0, (.t 12)), (1, (.t 14))]⟩,
      ⟨(some 16), none, false, .callq (.c (.fn (.func I.ring_locals) [] [])) [(.t 15)]⟩,
      ⟨none, none, false, .store 231 (.t 4) (.t 10)⟩,
      ⟨(some 5), none, true, .mv (.t 16)⟩])
  (.ret))⟩
/- burrow/ring.Confirm -/

def ring_Confirm : AFun := ⟨30, [.load true 231 (.t 4), .mv (.t 5), .mv (.t 6)],
  .seq (.region [⟨(some 2), none, false, .box (.t 0)⟩,
      ⟨(some 4), none, false, .alloc (.st 231 [(.st 77 [(.bl false), (.st 76 [(.int .u32 0), (.int .u32 0), (.ar 1 32 (zr 32 (.int .u8 0))), (.ar 1 32 (zr 32 (.int .u8 0))), (.int .u64 0), (.int .u64 0), (.st 6 [(.bl false), (.int .u64 0), (.ar 1 4 (zr 4 (.int .u64 0)))]), (.int .i64 0), (.bl false)])]), (.st 77 [(.bl false), (.st 76 [(.int .u32 0), (.int .u32 0), (.ar 1 32 (zr 32 (.int .u8 0))), (.ar 1 32 (zr 32 (.int .u8 0))), (.int .u64 0), (.int .u64 0), (.st 6 [(.bl false), (.int .u64 0), (.ar 1 4 (zr 4 (.int .u64 0)))]), (.int .i64 0), (.bl false)])]), (.st 77 [(.bl false), (.st 76 [(.int .u32 0), (.int .u32 0), (.ar 1 32 (zr 32 (.int .u8 0))), (.ar 1 32 (zr 32 (.int .u8 0))), (.int .u64 0), (.int .u64 0), (.st 6 [(.bl false), (.int .u64 0), (.ar 1 4 (zr 4 (.int .u64 0)))]), (.int .i64 0), (.bl false)])])])⟩,
      ⟨(some 5), none, true, .mv (.c (.bl false))⟩,
      ⟨(some 6), none, true, .mv (.c (.sl 1 [] true))⟩])
  (.seq (.seq (.region [⟨(some 7), none, true, .fieldA 2 154 (.t 2)⟩,
        ⟨(some 8), none, true, .fieldA 0 0 (.t 7)⟩,
        ⟨(some 9), none, true, .load false 1 (.t 8)⟩,
        ⟨(some 10), none, true, .un .not (.t 9)⟩,
        ⟨(some 11), none, true, .mv (.t 10)⟩,
        ⟨(some 12), (some (11, false)), true, .fieldA 2 154 (.t 2)⟩,
        ⟨(some 13), (some (11, false)), true, .fieldA 1 1 (.t 12)⟩,
        ⟨(some 14), (some (11, false)), true, .fieldA 0 0 (.t 13)⟩,
        ⟨(some 15), (some (11, false)), true, .load false 1 (.t 14)⟩,
        ⟨(some 16), (some (11, false)), true, .mv (.t 1)⟩,
        ⟨(some 17), (some (11, false)), true, .bin .neq .no (.t 15) (.t 16)⟩,
        ⟨(some 18), none, true, .pick (.t 11) (.c (.bl true)) (.t 17)⟩])
    (.cond (.t 18)
      (.seq (.region [⟨(some 19), none, true, .load true 231 (.t 2)⟩,
          ⟨none, none, false, .store 231 (.t 4) (.t 19)⟩,
          ⟨(some 5), none, true, .mv (.c (.bl false))⟩,
          ⟨(some 6), none, true, .mv (.c (.sl 1 [] true))⟩])
      (.ret))
      (.skip)))
  (.seq (.region [⟨(some 20), none, true, .fieldA 1 77 (.t 2)⟩,
      ⟨(some 21), none, true, .load true 77 (.t 20)⟩,
      ⟨(some 22), none, false, .callq (.c (.fn (.func I.ring_kept) [] [])) [(.t 21)]⟩,
      ⟨(some 23), none, true, .fieldA 2 154 (.t 2)⟩,
      ⟨(some 24), none, true, .load true 77 (.t 23)⟩,
      ⟨(some 25), none, false, .build (.st 231 [(.st 77 [(.bl false), (.st 76 [(.int .u32 0), (.int .u32 0), (.ar 1 32 (zr 32 (.int .u8 0))), (.ar 1 32 (zr 32 (.int .u8 0))), (.int .u64 0), (.int .u64 0), (.st 6 [(.bl false), (.int .u64 0), (.ar 1 4 (zr 4 (.int .u64 0)))]), (.int .i64 0), (.bl false)])]), (.st 77 [(.bl false), (.st 76 [(.int .u32 0), (.int .u32 0), (.ar 1 32 (zr 32 (.int .u8 0))), (.ar 1 32 (zr 32 (.int .u8 0))), (.int .u64 0), (.int .u64 0), (.st 6 [(.bl false), (.int .u64 0), (.ar 1 4 (zr 4 (.int .u64 0)))]), (.int .i64 0), (.bl false)])]), (.st 77 [(.bl false), (.st 76 [(.int .u32 0), (.int .u32 0), (.ar 1 32 (zr 32 (.int .u8 0))), (.ar 1 32 (zr 32 (.int .u8 0))), (.int .u64 0), (.int .u64 0), (.st 6 [(.bl false), (.int .u64 0), (.ar 1 4 (zr 4 (.int .u64 0)))]), (.int .i64 0), (.bl false)])])]) [(0, (.t 22)), (1, (.t 24))]⟩,
      ⟨(some 26), none, true, .fieldA 0 0 (.t 2)⟩,
      ⟨(some 27), none, true, .load true 77 (.t 26)⟩,
      ⟨(some 28), none, false, .buildSlice false 77 (.st 77 [(.bl false), (.st 76 [(.int .u32 0), (.int .u32 0), (.ar 1 32 (zr 32 (.int .u8 0))), (.ar 1 32 (zr 32 (.int .u8 0))), (.int .u64 0), (.int .u64 0), (.st 6 [(.bl false), (.int .u64 0), (.ar 1 4 (zr 4 (.int .u64 0)))]), (.int .i64 0), (.bl false)])]) 1 [(0, (.t 27))]⟩,
      ⟨(some 29), none, false, .callq (.c (.fn (.func I.ring_locals) [] [])) [(.t 28)]⟩,
      ⟨none, none, false, .store 231 (.t 4) (.t 25)⟩,
      ⟨(some 5), none, true, .mv (.c (.bl true))⟩,
      ⟨(some 6), none, true, .mv (.t 29)⟩])
  (.ret)))⟩
/- burrow/burrowlaw23.count -/
def burrowlaw23_countl0 : ACode :=
  .seq (.region [⟨(some 19), none, true, .bin .lss .no (.t 18) (.t 17)⟩])
  (.seq (.cond (.t 19)
      (.skip)
      (.exit 2))
  (.seq (.block 3 (.seq (.region [⟨(some 20), none, false, .indexA (.sl 1) (.t 16) (.t 18)⟩,
        ⟨(some 21), none, true, .load false 1 (.t 20)⟩,
        ⟨(some 9), none, true, .mv (.t 21)⟩])
    (.seq (.region [⟨(some 22), none, true, .mv (.t 0)⟩,
        ⟨(some 23), none, true, .mv (.t 9)⟩,
        ⟨(some 24), none, true, .bin .eql .no (.t 22) (.t 23)⟩])
    (.cond (.t 24)
      (.region [⟨(some 25), none, true, .mv (.t 5)⟩,
        ⟨(some 26), none, true, .bin .add .no (.t 25) (.c (.int .i64 1))⟩,
        ⟨(some 5), none, true, .mv (.t 26)⟩])
      (.skip)))))
  (.region [⟨(some 27), none, true, .bin .add .no (.t 18) (.c (.int .i64 1))⟩,
    ⟨(some 18), none, true, .mv (.t 27)⟩])))
def burrowlaw23_countc1 : ACode :=
  .region [⟨(some 28), none, true, .bin .add .no (.t 12) (.c (.int .i64 1))⟩,
    ⟨(some 12), none, true, .mv (.t 28)⟩]
def burrowlaw23_countl2 : ACode :=
  .seq (.region [⟨(some 13), none, true, .bin .lss .no (.t 12) (.t 11)⟩])
  (.seq (.cond (.t 13)
      (.skip)
      (.exit 0))
  (.seq (.block 1 (.seq (.region [⟨(some 14), none, false, .indexA (.sl 1) (.t 10) (.t 12)⟩,
        ⟨(some 15), none, true, .load false 1 (.t 14)⟩,
        ⟨(some 7), none, true, .mv (.t 15)⟩])
    (.seq (.region [⟨(some 16), none, true, .mv (.t 7)⟩,
        ⟨(some 17), none, true, .len (.t 16)⟩,
        ⟨(some 18), none, true, .mv (.c (.int .i64 0))⟩])
    (.block 2 (.loop burrowlaw23_countl0)))))
  burrowlaw23_countc1))
def burrowlaw23_countc3 : ACode :=
  .seq (.region [⟨(some 29), none, true, .mv (.t 5)⟩,
      ⟨(some 4), none, true, .mv (.t 29)⟩])
  (.ret)
def burrowlaw23_count : AFun := ⟨30, [.mv (.t 4)],
  .seq (.region [⟨(some 4), none, true, .mv (.c (.int .i64 0))⟩])
  (.seq (.region [⟨(some 5), none, true, .mv (.c (.int .i64 0))⟩])
  (.seq (.seq (.region [⟨(some 10), none, true, .mv (.t 1)⟩,
        ⟨(some 11), none, true, .len (.t 10)⟩,
        ⟨(some 12), none, true, .mv (.c (.int .i64 0))⟩])
    (.block 0 (.loop burrowlaw23_countl2)))
  burrowlaw23_countc3))⟩
/- burrow/burrowlaw23.begun -/

def burrowlaw23_begun : AFun := ⟨49, [.mv (.t 0)],
  .seq (.region [⟨(some 0), none, true, .mv (.c (.bl false))⟩])
  (.seq (.region [⟨(some 7), none, false, .build (.st 76 [(.int .u32 0), (.int .u32 0), (.ar 1 32 (zr 32 (.int .u8 0))), (.ar 1 32 (zr 32 (.int .u8 0))), (.int .u64 0), (.int .u64 0), (.st 6 [(.bl false), (.int .u64 0), (.ar 1 4 (zr 4 (.int .u64 0)))]), (.int .i64 0), (.bl false)]) [(0, (.c (.int .u32 5)))]⟩,
      ⟨(some 1), none, false, .alloc (.st 76 [(.int .u32 0), (.int .u32 0), (.ar 1 32 (zr 32 (.int .u8 0))), (.ar 1 32 (zr 32 (.int .u8 0))), (.int .u64 0), (.int .u64 0), (.st 6 [(.bl false), (.int .u64 0), (.ar 1 4 (zr 4 (.int .u64 0)))]), (.int .i64 0), (.bl false)])⟩,
      ⟨none, none, false, .store 76 (.t 1) (.t 7)⟩])
  (.seq (.region [⟨(some 9), none, false, .build (.st 231 [(.st 77 [(.bl false), (.st 76 [(.int .u32 0), (.int .u32 0), (.ar 1 32 (zr 32 (.int .u8 0))), (.ar 1 32 (zr 32 (.int .u8 0))), (.int .u64 0), (.int .u64 0), (.st 6 [(.bl false), (.int .u64 0), (.ar 1 4 (zr 4 (.int .u64 0)))]), (.int .i64 0), (.bl false)])]), (.st 77 [(.bl false), (.st 76 [(.int .u32 0), (.int .u32 0), (.ar 1 32 (zr 32 (.int .u8 0))), (.ar 1 32 (zr 32 (.int .u8 0))), (.int .u64 0), (.int .u64 0), (.st 6 [(.bl false), (.int .u64 0), (.ar 1 4 (zr 4 (.int .u64 0)))]), (.int .i64 0), (.bl false)])]), (.st 77 [(.bl false), (.st 76 [(.int .u32 0), (.int .u32 0), (.ar 1 32 (zr 32 (.int .u8 0))), (.ar 1 32 (zr 32 (.int .u8 0))), (.int .u64 0), (.int .u64 0), (.st 6 [(.bl false), (.int .u64 0), (.ar 1 4 (zr 4 (.int .u64 0)))]), (.int .i64 0), (.bl false)])])]) []⟩,
      ⟨(some 10), none, true, .load true 76 (.t 1)⟩,
      ⟨(some 11), none, false, .call (.c (.fn (.func I.ring_Answer) [] [])) [(.t 9), (.t 10)]⟩,
      ⟨(some 8), none, true, .mv (.t 11)⟩,
      ⟨(some 12), none, true, .extract 0 (.t 8)⟩,
      ⟨(some 13), none, true, .extract 1 (.t 8)⟩,
      ⟨(some 2), none, false, .alloc (.st 231 [(.st 77 [(.bl false), (.st 76 [(.int .u32 0), (.int .u32 0), (.ar 1 32 (zr 32 (.int .u8 0))), (.ar 1 32 (zr 32 (.int .u8 0))), (.int .u64 0), (.int .u64 0), (.st 6 [(.bl false), (.int .u64 0), (.ar 1 4 (zr 4 (.int .u64 0)))]), (.int .i64 0), (.bl false)])]), (.st 77 [(.bl false), (.st 76 [(.int .u32 0), (.int .u32 0), (.ar 1 32 (zr 32 (.int .u8 0))), (.ar 1 32 (zr 32 (.int .u8 0))), (.int .u64 0), (.int .u64 0), (.st 6 [(.bl false), (.int .u64 0), (.ar 1 4 (zr 4 (.int .u64 0)))]), (.int .i64 0), (.bl false)])]), (.st 77 [(.bl false), (.st 76 [(.int .u32 0), (.int .u32 0), (.ar 1 32 (zr 32 (.int .u8 0))), (.ar 1 32 (zr 32 (.int .u8 0))), (.int .u64 0), (.int .u64 0), (.st 6 [(.bl false), (.int .u64 0), (.ar 1 4 (zr 4 (.int .u64 0)))]), (.int .i64 0), (.bl false)])])])⟩,
      ⟨none, none, false, .store 231 (.t 2) (.t 12)⟩,
      ⟨(some 3), none, true, .mv (.t 13)⟩])
  (.seq (.region [⟨(some 15), none, true, .load true 231 (.t 2)⟩,
      ⟨(some 16), none, false, .call (.c (.fn (.func I.ring_Confirm) [] [])) [(.t 15), (.c (.int .u32 5))]⟩,
      ⟨(some 14), none, true, .mv (.t 16)⟩,
      ⟨(some 17), none, true, .extract 0 (.t 14)⟩,
      ⟨(some 18), none, true, .extract 1 (.t 14)⟩,
      ⟨(some 19), none, true, .extract 2 (.t 14)⟩,
      ⟨(some 4), none, false, .alloc (.st 231 [(.st 77 [(.bl false), (.st 76 [(.int .u32 0), (.int .u32 0), (.ar 1 32 (zr 32 (.int .u8 0))), (.ar 1 32 (zr 32 (.int .u8 0))), (.int .u64 0), (.int .u64 0), (.st 6 [(.bl false), (.int .u64 0), (.ar 1 4 (zr 4 (.int .u64 0)))]), (.int .i64 0), (.bl false)])]), (.st 77 [(.bl false), (.st 76 [(.int .u32 0), (.int .u32 0), (.ar 1 32 (zr 32 (.int .u8 0))), (.ar 1 32 (zr 32 (.int .u8 0))), (.int .u64 0), (.int .u64 0), (.st 6 [(.bl false), (.int .u64 0), (.ar 1 4 (zr 4 (.int .u64 0)))]), (.int .i64 0), (.bl false)])]), (.st 77 [(.bl false), (.st 76 [(.int .u32 0), (.int .u32 0), (.ar 1 32 (zr 32 (.int .u8 0))), (.ar 1 32 (zr 32 (.int .u8 0))), (.int .u64 0), (.int .u64 0), (.st 6 [(.bl false), (.int .u64 0), (.ar 1 4 (zr 4 (.int .u64 0)))]), (.int .i64 0), (.bl false)])])])⟩,
      ⟨none, none, false, .store 231 (.t 4) (.t 17)⟩,
      ⟨(some 5), none, true, .mv (.t 18)⟩,
      ⟨(some 6), none, true, .mv (.t 19)⟩])
  (.seq (.region [⟨(some 20), none, true, .mv (.t 3)⟩,
      ⟨(some 21), none, true, .len (.t 20)⟩,
      ⟨(some 22), none, true, .bin .eql .no (.t 21) (.c (.int .i64 0))⟩,
      ⟨(some 23), none, true, .mv (.t 22)⟩,
      ⟨(some 24), (some (23, true)), true, .mv (.t 5)⟩,
      ⟨(some 25), none, true, .pick (.t 23) (.t 24) (.c (.bl false))⟩,
      ⟨(some 26), none, true, .mv (.t 25)⟩,
      ⟨(some 27), (some (26, true)), true, .mv (.t 6)⟩,
      ⟨(some 28), (some (26, true)), true, .len (.t 27)⟩,
      ⟨(some 29), (some (26, true)), true, .bin .eql .no (.t 28) (.c (.int .i64 0))⟩,
      ⟨(some 30), none, true, .pick (.t 26) (.t 29) (.c (.bl false))⟩,
      ⟨(some 31), none, true, .mv (.t 30)⟩,
      ⟨(some 32), (some (31, true)), true, .fieldA 1 77 (.t 4)⟩,
      ⟨(some 33), (some (31, true)), true, .fieldA 0 0 (.t 32)⟩,
      ⟨(some 34), (some (31, true)), true, .load false 1 (.t 33)⟩,
      ⟨(some 35), none, true, .pick (.t 31) (.t 34) (.c (.bl false))⟩,
      ⟨(some 36), none, true, .mv (.t 35)⟩,
      ⟨(some 37), (some (36, true)), true, .fieldA 1 77 (.t 4)⟩,
      ⟨(some 38), (some (36, true)), true, .fieldA 1 1 (.t 37)⟩,
      ⟨(some 39), (some (36, true)), true, .load true 76 (.t 38)⟩,
      ⟨(some 40), (some (36, true)), true, .load true 76 (.t 1)⟩,
      ⟨(some 41), (some (36, true)), true, .bin .eql (.sh (.st [(.i .u32), (.i .u32), (.ar 32 (.i .u8)), (.ar 32 (.i .u8)), (.i .u64), (.i .u64), (.st [.b, (.i .u64), (.ar 4 (.i .u64))]), (.i .i64), .b])) (.t 39) (.t 40)⟩,
      ⟨(some 42), none, true, .pick (.t 36) (.t 41) (.c (.bl false))⟩,
      ⟨(some 43), none, true, .mv (.t 42)⟩,
      ⟨(some 44), (some (43, true)), true, .fieldA 2 154 (.t 4)⟩,
      ⟨(some 45), (some (43, true)), true, .fieldA 0 0 (.t 44)⟩,
      ⟨(some 46), (some (43, true)), true, .load false 1 (.t 45)⟩,
      ⟨(some 47), (some (43, true)), true, .un .not (.t 46)⟩,
      ⟨(some 48), none, true, .pick (.t 43) (.t 47) (.c (.bl false))⟩,
      ⟨(some 0), none, true, .mv (.t 48)⟩])
  (.ret)))))⟩
/- burrow/ring.Find -/
def ring_Findl0 : ACode :=
  .seq (.region [⟨(some 15), none, true, .bin .lss .no (.t 14) (.c (.int .i64 3))⟩])
  (.seq (.cond (.t 15)
      (.skip)
      (.exit 0))
  (.seq (.block 1 (.seq (.region [⟨(some 16), none, true, .mv (.t 14)⟩,
        ⟨(some 17), none, false, .index false 3 1 (.t 13) (.t 14)⟩,
        ⟨(some 6), none, true, .mv (.t 16)⟩,
        ⟨(some 7), none, true, .mv (.t 17)⟩])
    (.seq (.region [⟨(some 18), none, true, .mv (.t 7)⟩,
        ⟨(some 19), none, false, .call (.t 18) []⟩,
        ⟨(some 8), none, true, .mv (.t 19)⟩])
    (.seq (.region [⟨(some 20), none, true, .mv (.t 8)⟩,
        ⟨(some 21), none, true, .nilCheck (.t 20)⟩,
        ⟨(some 22), none, true, .fieldA 0 0 (.t 21)⟩,
        ⟨(some 23), none, true, .load false 1 (.t 22)⟩,
        ⟨(some 24), none, true, .mv (.t 23)⟩,
        ⟨(some 25), (some (24, true)), true, .mv (.t 8)⟩,
        ⟨(some 26), (some (24, true)), true, .nilCheck (.t 25)⟩,
        ⟨(some 27), (some (24, true)), true, .fieldA 1 1 (.t 26)⟩,
        ⟨(some 28), (some (24, true)), true, .fieldA 0 0 (.t 27)⟩,
        ⟨(some 29), (some (24, true)), true, .load false 1 (.t 28)⟩,
        ⟨(some 30), (some (24, true)), true, .mv (.t 1)⟩,
        ⟨(some 31), (some (24, true)), true, .bin .eql .no (.t 29) (.t 30)⟩,
        ⟨(some 32), none, true, .pick (.t 24) (.t 31) (.c (.bl false))⟩])
    (.cond (.t 32)
      (.seq (.region [⟨(some 33), none, true, .mv (.t 6)⟩,
          ⟨(some 34), none, true, .bin .add .no (.t 33) (.c (.int .i64 1))⟩,
          ⟨(some 4), none, true, .mv (.t 34)⟩])
      (.ret))
      (.skip))))))
  (.region [⟨(some 35), none, true, .bin .add .no (.t 14) (.c (.int .i64 1))⟩,
    ⟨(some 14), none, true, .mv (.t 35)⟩])))
def ring_Findc1 : ACode :=
  .seq (.region [⟨(some 4), none, true, .mv (.c (.int .i64 0))⟩])
  (.ret)
def ring_Find : AFun := ⟨36, [.mv (.t 4)],
  .seq (.region [⟨(some 2), none, false, .box (.t 0)⟩,
      ⟨(some 4), none, true, .mv (.c (.int .i64 0))⟩])
  (.seq (.region [⟨(some 9), none, true, .load true 231 (.t 2)⟩,
      ⟨(some 10), none, false, .build (.st 231 [(.st 231 [(.st 77 [(.bl false), (.st 76 [(.int .u32 0), (.int .u32 0), (.ar 1 32 (zr 32 (.int .u8 0))), (.ar 1 32 (zr 32 (.int .u8 0))), (.int .u64 0), (.int .u64 0), (.st 6 [(.bl false), (.int .u64 0), (.ar 1 4 (zr 4 (.int .u64 0)))]), (.int .i64 0), (.bl false)])]), (.st 77 [(.bl false), (.st 76 [(.int .u32 0), (.int .u32 0), (.ar 1 32 (zr 32 (.int .u8 0))), (.ar 1 32 (zr 32 (.int .u8 0))), (.int .u64 0), (.int .u64 0), (.st 6 [(.bl false), (.int .u64 0), (.ar 1 4 (zr 4 (.int .u64 0)))]), (.int .i64 0), (.bl false)])]), (.st 77 [(.bl false), (.st 76 [(.int .u32 0), (.int .u32 0), (.ar 1 32 (zr 32 (.int .u8 0))), (.ar 1 32 (zr 32 (.int .u8 0))), (.int .u64 0), (.int .u64 0), (.st 6 [(.bl false), (.int .u64 0), (.ar 1 4 (zr 4 (.int .u64 0)))]), (.int .i64 0), (.bl false)])])])]) [(0, (.t 9))]⟩,
      ⟨(some 11), none, false, .box (.t 10)⟩,
      ⟨(some 5), none, true, .mv (.t 11)⟩])
  (.seq (.seq (.region [⟨(some 12), none, true, .mv (.t 5)⟩,
        ⟨(some 13), none, false, .call (.c (.fn (.func I.ring_ring_places) [] [])) [(.t 12)]⟩,
        ⟨(some 14), none, true, .mv (.c (.int .i64 0))⟩])
    (.block 0 (.loop ring_Findl0)))
  ring_Findc1))⟩
/- burrow/burrowlaw23.same -/
def burrowlaw23_samel0 : ACode :=
  .seq (.region [⟨(some 14), none, true, .bin .lss .no (.t 13) (.t 12)⟩])
  (.seq (.cond (.t 14)
      (.skip)
      (.exit 0))
  (.seq (.block 1 (.seq (.region [⟨(some 15), none, true, .mv (.t 13)⟩,
        ⟨(some 5), none, true, .mv (.t 15)⟩])
    (.seq (.region [⟨(some 16), none, true, .mv (.t 0)⟩,
        ⟨(some 17), none, true, .mv (.t 5)⟩,
        ⟨(some 18), none, false, .indexA (.sl 1) (.t 16) (.t 17)⟩,
        ⟨(some 19), none, true, .load false 1 (.t 18)⟩,
        ⟨(some 20), none, true, .mv (.t 1)⟩,
        ⟨(some 21), none, true, .mv (.t 5)⟩,
        ⟨(some 22), none, false, .indexA (.sl 1) (.t 20) (.t 21)⟩,
        ⟨(some 23), none, true, .load false 1 (.t 22)⟩,
        ⟨(some 24), none, true, .bin .neq .no (.t 19) (.t 23)⟩])
    (.cond (.t 24)
      (.seq (.region [⟨(some 4), none, true, .mv (.c (.bl false))⟩])
      (.ret))
      (.skip)))))
  (.region [⟨(some 25), none, true, .bin .add .no (.t 13) (.c (.int .i64 1))⟩,
    ⟨(some 13), none, true, .mv (.t 25)⟩])))
def burrowlaw23_samec1 : ACode :=
  .seq (.region [⟨(some 4), none, true, .mv (.c (.bl true))⟩])
  (.ret)
def burrowlaw23_same : AFun := ⟨26, [.mv (.t 4)],
  .seq (.region [⟨(some 4), none, true, .mv (.c (.bl false))⟩])
  (.seq (.seq (.region [⟨(some 6), none, true, .mv (.t 0)⟩,
        ⟨(some 7), none, true, .len (.t 6)⟩,
        ⟨(some 8), none, true, .mv (.t 1)⟩,
        ⟨(some 9), none, true, .len (.t 8)⟩,
        ⟨(some 10), none, true, .bin .neq .no (.t 7) (.t 9)⟩])
    (.cond (.t 10)
      (.seq (.region [⟨(some 4), none, true, .mv (.c (.bl false))⟩])
      (.ret))
      (.skip)))
  (.seq (.seq (.region [⟨(some 11), none, true, .mv (.t 0)⟩,
        ⟨(some 12), none, true, .len (.t 11)⟩,
        ⟨(some 13), none, true, .mv (.c (.int .i64 0))⟩])
    (.block 0 (.loop burrowlaw23_samel0)))
  burrowlaw23_samec1))⟩
/- burrow/ring.Get -/

def ring_Get : AFun := ⟨26, [.load true 77 (.t 4)],
  .seq (.region [⟨(some 2), none, false, .box (.t 0)⟩,
      ⟨(some 4), none, false, .alloc (.st 77 [(.bl false), (.st 76 [(.int .u32 0), (.int .u32 0), (.ar 1 32 (zr 32 (.int .u8 0))), (.ar 1 32 (zr 32 (.int .u8 0))), (.int .u64 0), (.int .u64 0), (.st 6 [(.bl false), (.int .u64 0), (.ar 1 4 (zr 4 (.int .u64 0)))]), (.int .i64 0), (.bl false)])])⟩])
  (.seq (.region [⟨(some 7), none, true, .load true 231 (.t 2)⟩,
      ⟨(some 8), none, false, .build (.st 231 [(.st 231 [(.st 77 [(.bl false), (.st 76 [(.int .u32 0), (.int .u32 0), (.ar 1 32 (zr 32 (.int .u8 0))), (.ar 1 32 (zr 32 (.int .u8 0))), (.int .u64 0), (.int .u64 0), (.st 6 [(.bl false), (.int .u64 0), (.ar 1 4 (zr 4 (.int .u64 0)))]), (.int .i64 0), (.bl false)])]), (.st 77 [(.bl false), (.st 76 [(.int .u32 0), (.int .u32 0), (.ar 1 32 (zr 32 (.int .u8 0))), (.ar 1 32 (zr 32 (.int .u8 0))), (.int .u64 0), (.int .u64 0), (.st 6 [(.bl false), (.int .u64 0), (.ar 1 4 (zr 4 (.int .u64 0)))]), (.int .i64 0), (.bl false)])]), (.st 77 [(.bl false), (.st 76 [(.int .u32 0), (.int .u32 0), (.ar 1 32 (zr 32 (.int .u8 0))), (.ar 1 32 (zr 32 (.int .u8 0))), (.int .u64 0), (.int .u64 0), (.st 6 [(.bl false), (.int .u64 0), (.ar 1 4 (zr 4 (.int .u64 0)))]), (.int .i64 0), (.bl false)])])])]) [(0, (.t 7))]⟩,
      ⟨(some 9), none, false, .box (.t 8)⟩,
      ⟨(some 5), none, true, .mv (.t 9)⟩])
  (.seq (.region [⟨(some 10), none, true, .mv (.t 5)⟩,
      ⟨(some 11), none, false, .call (.c (.fn (.func I.ring_ring_places) [] [])) [(.t 10)]⟩,
      ⟨(some 6), none, false, .alloc (.ar 1 3 (zr 3 .nf))⟩,
      ⟨none, none, false, .store 3 (.t 6) (.t 11)⟩])
  (.seq (.seq (.region [⟨(some 12), none, true, .mv (.t 1)⟩,
        ⟨(some 13), none, true, .bin .lss .no (.t 12) (.c (.int .i64 1))⟩,
        ⟨(some 14), none, true, .mv (.t 13)⟩,
        ⟨(some 15), (some (14, false)), true, .mv (.t 1)⟩,
        ⟨(some 16), (some (14, false)), true, .bin .gtr .no (.t 15) (.c (.int .i64 3))⟩,
        ⟨(some 17), none, true, .pick (.t 14) (.c (.bl true)) (.t 16)⟩])
    (.cond (.t 17)
      (.seq (.region [⟨(some 18), none, false, .build (.st 77 [(.bl false), (.st 76 [(.int .u32 0), (.int .u32 0), (.ar 1 32 (zr 32 (.int .u8 0))), (.ar 1 32 (zr 32 (.int .u8 0))), (.int .u64 0), (.int .u64 0), (.st 6 [(.bl false), (.int .u64 0), (.ar 1 4 (zr 4 (.int .u64 0)))]), (.int .i64 0), (.bl false)])]) []⟩,
          ⟨none, none, false, .store 77 (.t 4) (.t 18)⟩])
      (.ret))
      (.skip)))
  (.seq (.region [⟨(some 19), none, true, .mv (.t 1)⟩,
      ⟨(some 20), none, true, .bin .sub .no (.t 19) (.c (.int .i64 1))⟩,
      ⟨(some 21), none, false, .indexA (.ar 3 1) (.t 6) (.t 20)⟩,
      ⟨(some 22), none, true, .load false 1 (.t 21)⟩,
      ⟨(some 23), none, false, .call (.t 22) []⟩,
      ⟨(some 24), none, true, .nilCheck (.t 23)⟩,
      ⟨(some 25), none, true, .load true 77 (.t 24)⟩,
      ⟨none, none, false, .store 77 (.t 4) (.t 25)⟩])
  (.ret)))))⟩
/- burrow/ring.locals -/
def ring_localsl0 : ACode :=
  .seq (.region [⟨(some 9), none, true, .bin .lss .no (.t 8) (.t 7)⟩])
  (.seq (.cond (.t 9)
      (.skip)
      (.exit 0))
  (.seq (.block 1 (.seq (.region [⟨(some 10), none, false, .indexA (.sl 77) (.t 6) (.t 8)⟩,
        ⟨(some 11), none, true, .load true 77 (.t 10)⟩,
        ⟨(some 5), none, false, .alloc (.st 77 [(.bl false), (.st 76 [(.int .u32 0), (.int .u32 0), (.ar 1 32 (zr 32 (.int .u8 0))), (.ar 1 32 (zr 32 (.int .u8 0))), (.int .u64 0), (.int .u64 0), (.st 6 [(.bl false), (.int .u64 0), (.ar 1 4 (zr 4 (.int .u64 0)))]), (.int .i64 0), (.bl false)])])⟩,
        ⟨none, none, false, .store 77 (.t 5) (.t 11)⟩])
    (.seq (.region [⟨(some 12), none, true, .fieldA 0 0 (.t 5)⟩,
        ⟨(some 13), none, true, .load false 1 (.t 12)⟩])
    (.cond (.t 13)
      (.region [⟨(some 14), none, true, .mv (.t 3)⟩,
        ⟨(some 15), none, true, .fieldA 1 1 (.t 5)⟩,
        ⟨(some 16), none, true, .fieldA 0 0 (.t 15)⟩,
        ⟨(some 17), none, true, .load false 1 (.t 16)⟩,
        ⟨(some 18), none, false, .buildSlice false 1 (.int .u32 0) 1 [(0, (.t 17))]⟩,
        ⟨(some 19), none, false, .append 1 4 false (.t 14) (.t 18)⟩,
        ⟨(some 3), none, true, .mv (.t 19)⟩])
      (.skip)))))
  (.region [⟨(some 20), none, true, .bin .add .no (.t 8) (.c (.int .i64 1))⟩,
    ⟨(some 8), none, true, .mv (.t 20)⟩])))
def ring_localsc1 : ACode :=
  .seq (.region [⟨(some 21), none, true, .mv (.t 3)⟩,
      ⟨(some 2), none, true, .mv (.t 21)⟩])
  (.ret)
def ring_locals : AFun := ⟨22, [.mv (.t 2)],
  .seq (.region [⟨(some 2), none, true, .mv (.c (.sl 1 [] true))⟩])
  (.seq (.region [⟨(some 3), none, true, .mv (.c (.sl 1 [] true))⟩])
  (.seq (.seq (.region [⟨(some 6), none, true, .mv (.t 0)⟩,
        ⟨(some 7), none, true, .len (.t 6)⟩,
        ⟨(some 8), none, true, .mv (.c (.int .i64 0))⟩])
    (.block 0 (.loop ring_localsl0)))
  ring_localsc1))⟩
/- burrow/ring.kept -/

def ring_kept : AFun := ⟨8, [.load true 77 (.t 2)],
  .seq (.region [⟨(some 1), none, false, .box (.t 0)⟩,
      ⟨(some 2), none, false, .alloc (.st 77 [(.bl false), (.st 76 [(.int .u32 0), (.int .u32 0), (.ar 1 32 (zr 32 (.int .u8 0))), (.ar 1 32 (zr 32 (.int .u8 0))), (.int .u64 0), (.int .u64 0), (.st 6 [(.bl false), (.int .u64 0), (.ar 1 4 (zr 4 (.int .u64 0)))]), (.int .i64 0), (.bl false)])])⟩])
  (.seq (.seq (.region [⟨(some 3), none, true, .fieldA 0 0 (.t 1)⟩,
        ⟨(some 4), none, true, .load false 1 (.t 3)⟩,
        ⟨(some 5), none, true, .un .not (.t 4)⟩])
    (.cond (.t 5)
      (.seq (.region [⟨(some 6), none, false, .build (.st 77 [(.bl false), (.st 76 [(.int .u32 0), (.int .u32 0), (.ar 1 32 (zr 32 (.int .u8 0))), (.ar 1 32 (zr 32 (.int .u8 0))), (.int .u64 0), (.int .u64 0), (.st 6 [(.bl false), (.int .u64 0), (.ar 1 4 (zr 4 (.int .u64 0)))]), (.int .i64 0), (.bl false)])]) []⟩,
          ⟨none, none, false, .store 77 (.t 2) (.t 6)⟩])
      (.ret))
      (.skip)))
  (.seq (.region [⟨(some 7), none, true, .load true 77 (.t 1)⟩,
      ⟨none, none, false, .store 77 (.t 2) (.t 7)⟩])
  (.ret)))⟩
/- (*burrow/ring.ring).places -/

def ring_ring_places : AFun := ⟨10, [.load true 3 (.t 2)],
  .seq (.region [⟨(some 2), none, false, .alloc (.ar 1 3 (zr 3 .nf))⟩])
  (.seq (.region [⟨(some 3), none, true, .mv (.t 0)⟩,
      ⟨(some 4), none, false, .mkFunc (.func I.ring_ring_previous) [(.t 3)] []⟩,
      ⟨(some 5), none, true, .mv (.t 0)⟩,
      ⟨(some 6), none, false, .mkFunc (.func I.ring_ring_current) [(.t 5)] []⟩,
      ⟨(some 7), none, true, .mv (.t 0)⟩,
      ⟨(some 8), none, false, .mkFunc (.func I.ring_ring_next) [(.t 7)] []⟩,
      ⟨(some 9), none, false, .build (.ar 1 3 (zr 3 .nf)) [(0, (.t 4)), (1, (.t 6)), (2, (.t 8))]⟩,
      ⟨none, none, false, .store 3 (.t 2) (.t 9)⟩])
  (.ret))⟩
/- (*burrow/ring.ring).previous -/

def ring_ring_previous : AFun := ⟨7, [.mv (.t 2)],
  .seq (.region [⟨(some 2), none, true, .mv (.c .np)⟩])
  (.seq (.region [⟨(some 3), none, true, .mv (.t 0)⟩,
      ⟨(some 4), none, true, .nilCheck (.t 3)⟩,
      ⟨(some 5), none, true, .fieldA 0 0 (.t 4)⟩,
      ⟨(some 6), none, true, .fieldA 0 0 (.t 5)⟩,
      ⟨(some 2), none, true, .mv (.t 6)⟩])
  (.ret))⟩
/- (*burrow/ring.ring).current -/

def ring_ring_current : AFun := ⟨7, [.mv (.t 2)],
  .seq (.region [⟨(some 2), none, true, .mv (.c .np)⟩])
  (.seq (.region [⟨(some 3), none, true, .mv (.t 0)⟩,
      ⟨(some 4), none, true, .nilCheck (.t 3)⟩,
      ⟨(some 5), none, true, .fieldA 0 0 (.t 4)⟩,
      ⟨(some 6), none, true, .fieldA 1 77 (.t 5)⟩,
      ⟨(some 2), none, true, .mv (.t 6)⟩])
  (.ret))⟩
/- (*burrow/ring.ring).next -/

def ring_ring_next : AFun := ⟨7, [.mv (.t 2)],
  .seq (.region [⟨(some 2), none, true, .mv (.c .np)⟩])
  (.seq (.region [⟨(some 3), none, true, .mv (.t 0)⟩,
      ⟨(some 4), none, true, .nilCheck (.t 3)⟩,
      ⟨(some 5), none, true, .fieldA 0 0 (.t 4)⟩,
      ⟨(some 6), none, true, .fieldA 2 154 (.t 5)⟩,
      ⟨(some 2), none, true, .mv (.t 6)⟩])
  (.ret))⟩
end Go.Ab.F
