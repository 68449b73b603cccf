/- The program's functions as the abstract reading has them, and their numbers. Written by program. No condition. -/
import Derived.Test.YtafmeafepngngaaA4
namespace Go.Ab.I
def burrowlaw34_ExplainWithin : FuncId := 6
def burrowlaw18_cut : FuncId := 9
def stage_Push : FuncId := 10
def stage_Pop : FuncId := 11
def burrowlaw18_begun : FuncId := 12
def burrowcase_Cut : FuncId := 19
def burrowcase_Mod : FuncId := 20
def burrowref14_Push : FuncId := 21
def burrowlaw18_same : FuncId := 22
def burrowref14_Pop : FuncId := 23
def stage_Size : FuncId := 24
def burrowref14_Size : FuncId := 25
def burrowlaw34_small : FuncId := 26
def explain_Within : FuncId := 27
def burrowref34_Within : FuncId := 28
def burrowref34_SameEvents : FuncId := 29
def explain_Inputs : FuncId := 30
def burrowref34_Inputs : FuncId := 31
def burrowlaw34_begun : FuncId := 32
def stage_cloned : FuncId := 46
def slices_Clone_byte_byte : FuncId := 47
def explain_event_same : FuncId := 50
def own_Event : FuncId := 51
def burrowref31_SameEvent : FuncId := 52
def bytes_Equal : FuncId := 72
end Go.Ab.I
namespace Go.Ab.F
open Go.Ab
/- burrow/burrowlaw34.ExplainWithin -/
def burrowlaw34_ExplainWithinl0 : ACode :=
  .seq (.region [⟨(some 30), none, true, .bin .lss .no (.t 29) (.t 28)⟩])
  (.seq (.cond (.t 30)
      (.skip)
      (.exit 0))
  (.seq (.block 1 (.seq (.region [⟨(some 31), none, true, .mv (.t 29)⟩,
        ⟨(some 32), none, false, .indexA (.sl 22) (.t 27) (.t 29)⟩,
        ⟨(some 33), none, true, .load true 22 (.t 32)⟩,
        ⟨(some 13), none, false, .alloc (.st 22 [(.int .i64 0), (.st 18 [(.st 17 [(.bl false), (.ar 1 16 (zr 16 (.int .u8 0)))]), (.int .i64 0)]), (.sl 1 [] true), (.int .i64 0), (.str [])])⟩,
        ⟨(some 12), none, true, .mv (.t 31)⟩,
        ⟨none, none, false, .store 22 (.t 13) (.t 33)⟩])
    (.seq (.region [⟨(some 34), none, true, .mv (.t 12)⟩,
        ⟨(some 35), none, true, .mv (.t 2)⟩,
        ⟨(some 36), none, true, .len (.t 35)⟩,
        ⟨(some 37), none, true, .bin .geq .no (.t 34) (.t 36)⟩,
        ⟨(some 38), none, true, .mv (.t 37)⟩,
        ⟨(some 39), (some (38, false)), true, .mv (.t 2)⟩,
        ⟨(some 40), (some (38, false)), true, .mv (.t 12)⟩,
        ⟨(some 41), (some (38, false)), false, .indexA (.sl 1) (.t 39) (.t 40)⟩,
        ⟨(some 42), (some (38, false)), false, .load false 1 (.t 41)⟩,
        ⟨(some 43), (some (38, false)), false, .bin .rem .no (.t 42) (.c (.int .u8 3))⟩,
        ⟨(some 44), (some (38, false)), false, .bin .gtr .no (.t 43) (.c (.int .u8 0))⟩,
        ⟨(some 45), none, true, .pick (.t 38) (.c (.bl true)) (.t 44)⟩])
    (.cond (.t 45)
      (.region [⟨(some 46), none, true, .mv (.t 11)⟩,
        ⟨(some 47), none, true, .load true 22 (.t 13)⟩,
        ⟨(some 48), none, false, .buildSlice false 22 (.st 22 [(.int .i64 0), (.st 18 [(.st 17 [(.bl false), (.ar 1 16 (zr 16 (.int .u8 0)))]), (.int .i64 0)]), (.sl 1 [] true), (.int .i64 0), (.str [])]) 1 [(0, (.t 47))]⟩,
        ⟨(some 49), none, false, .append 22 88 false (.t 46) (.t 48)⟩,
        ⟨(some 11), none, true, .mv (.t 49)⟩])
      (.skip)))))
  (.region [⟨(some 50), none, true, .bin .add .no (.t 29) (.c (.int .i64 1))⟩,
    ⟨(some 29), none, true, .mv (.t 50)⟩])))
def burrowlaw34_ExplainWithinl1 : ACode :=
  .seq (.region [⟨(some 65), none, true, .bin .lss .no (.t 64) (.t 63)⟩])
  (.seq (.cond (.t 65)
      (.skip)
      (.exit 2))
  (.seq (.block 3 (.seq (.region [⟨(some 66), none, false, .indexA (.sl 1) (.t 62) (.t 64)⟩,
        ⟨(some 67), none, true, .load false 1 (.t 66)⟩,
        ⟨(some 15), none, true, .mv (.t 67)⟩])
    (.seq (.region [⟨(some 69), none, true, .mv (.t 15)⟩,
        ⟨(some 70), none, true, .mv (.t 10)⟩,
        ⟨(some 71), none, false, .call (.c (.fn (.func I.explain_Within) [] [])) [(.t 69), (.t 70)]⟩,
        ⟨(some 68), none, true, .mv (.t 71)⟩,
        ⟨(some 72), none, true, .extract 0 (.t 68)⟩,
        ⟨(some 73), none, true, .extract 1 (.t 68)⟩,
        ⟨(some 16), none, true, .mv (.t 72)⟩,
        ⟨(some 17), none, true, .mv (.t 73)⟩])
    (.seq (.region [⟨(some 75), none, true, .mv (.t 15)⟩,
        ⟨(some 76), none, true, .mv (.t 10)⟩,
        ⟨(some 77), none, false, .call (.c (.fn (.func I.burrowref34_Within) [] [])) [(.t 75), (.t 76)]⟩,
        ⟨(some 74), none, true, .mv (.t 77)⟩,
        ⟨(some 78), none, true, .extract 0 (.t 74)⟩,
        ⟨(some 79), none, true, .extract 1 (.t 74)⟩,
        ⟨(some 18), none, true, .mv (.t 78)⟩,
        ⟨(some 19), none, true, .mv (.t 79)⟩])
    (.seq (.region [⟨(some 80), none, true, .mv (.t 17)⟩,
        ⟨(some 81), none, true, .mv (.t 19)⟩,
        ⟨(some 82), none, true, .bin .neq .bl (.t 80) (.t 81)⟩,
        ⟨(some 83), none, true, .mv (.t 82)⟩,
        ⟨(some 84), (some (83, false)), true, .mv (.t 16)⟩,
        ⟨(some 85), (some (83, false)), true, .mv (.t 18)⟩,
        ⟨(some 86), (some (83, false)), false, .call (.c (.fn (.func I.burrowref34_SameEvents) [] [])) [(.t 84), (.t 85)]⟩,
        ⟨(some 87), (some (83, false)), false, .un .not (.t 86)⟩,
        ⟨(some 88), none, true, .pick (.t 83) (.c (.bl true)) (.t 87)⟩,
        ⟨(some 89), none, true, .mv (.t 88)⟩,
        ⟨(some 90), (some (89, false)), true, .mv (.t 17)⟩,
        ⟨(some 91), (some (89, false)), true, .mv (.t 90)⟩,
        ⟨(some 92), (some (91, true)), true, .mv (.t 16)⟩,
        ⟨(some 93), (some (91, true)), true, .len (.t 92)⟩,
        ⟨(some 94), (some (91, true)), true, .mv (.t 15)⟩,
        ⟨(some 95), (some (91, true)), true, .len (.t 94)⟩,
        ⟨(some 96), (some (91, true)), true, .bin .add .no (.t 93) (.t 95)⟩,
        ⟨(some 97), (some (91, true)), true, .mv (.t 10)⟩,
        ⟨(some 98), (some (91, true)), true, .len (.t 97)⟩,
        ⟨(some 99), (some (91, true)), true, .bin .neq .no (.t 96) (.t 98)⟩,
        ⟨(some 100), (some (89, false)), true, .pick (.t 91) (.t 99) (.c (.bl false))⟩,
        ⟨(some 101), none, true, .pick (.t 89) (.c (.bl true)) (.t 100)⟩])
    (.cond (.t 101)
      (.seq (.region [⟨(some 8), none, true, .mv (.c (.bl false))⟩])
      (.ret))
      (.skip)))))))
  (.region [⟨(some 102), none, true, .bin .add .no (.t 64) (.c (.int .i64 1))⟩,
    ⟨(some 64), none, true, .mv (.t 102)⟩])))
def burrowlaw34_ExplainWithinl2 : ACode :=
  .seq (.region [⟨(some 112), none, true, .bin .lss .no (.t 111) (.t 110)⟩])
  (.seq (.cond (.t 112)
      (.skip)
      (.exit 4))
  (.seq (.block 5 (.seq (.region [⟨(some 113), none, true, .mv (.t 111)⟩,
        ⟨(some 20), none, true, .mv (.t 113)⟩])
    (.region [⟨(some 114), none, true, .mv (.t 3)⟩,
      ⟨(some 115), none, true, .mv (.t 20)⟩,
      ⟨(some 116), none, true, .mv (.t 3)⟩,
      ⟨(some 117), none, true, .mv (.t 20)⟩,
      ⟨(some 118), none, false, .indexA (.sl 60) (.t 116) (.t 117)⟩,
      ⟨(some 119), none, true, .fieldA 0 0 (.t 118)⟩,
      ⟨(some 120), none, true, .load false 1 (.t 119)⟩,
      ⟨(some 121), none, false, .call (.c (.fn (.func I.burrowcase_Mod) [] [])) [(.t 120), (.c (.int .i64 3))]⟩,
      ⟨(some 122), none, false, .indexA (.sl 60) (.t 114) (.t 115)⟩,
      ⟨(some 123), none, true, .fieldA 0 0 (.t 122)⟩,
      ⟨none, none, false, .store 1 (.t 123) (.t 121)⟩])))
  (.region [⟨(some 124), none, true, .bin .add .no (.t 111) (.c (.int .i64 1))⟩,
    ⟨(some 111), none, true, .mv (.t 124)⟩])))
def burrowlaw34_ExplainWithinc3 : ACode :=
  .seq (.region [⟨(some 126), none, true, .mv (.t 11)⟩,
      ⟨(some 127), none, true, .mv (.t 10)⟩,
      ⟨(some 128), none, false, .call (.c (.fn (.func I.explain_Within) [] [])) [(.t 126), (.t 127)]⟩,
      ⟨(some 125), none, true, .mv (.t 128)⟩,
      ⟨(some 129), none, true, .extract 0 (.t 125)⟩,
      ⟨(some 130), none, true, .extract 1 (.t 125)⟩,
      ⟨(some 21), none, true, .mv (.t 129)⟩,
      ⟨(some 22), none, true, .mv (.t 130)⟩])
  (.seq (.region [⟨(some 131), none, true, .mv (.t 22)⟩,
      ⟨(some 132), none, true, .mv (.t 131)⟩,
      ⟨(some 133), (some (132, true)), true, .mv (.t 3)⟩,
      ⟨(some 134), (some (132, true)), false, .call (.c (.fn (.func I.explain_Inputs) [] [])) [(.t 133)]⟩,
      ⟨(some 135), (some (132, true)), true, .mv (.t 3)⟩,
      ⟨(some 136), (some (132, true)), false, .call (.c (.fn (.func I.burrowref34_Inputs) [] [])) [(.t 135)]⟩,
      ⟨(some 137), (some (132, true)), false, .call (.c (.fn (.func I.burrowref34_SameEvents) [] [])) [(.t 134), (.t 136)]⟩,
      ⟨(some 138), none, true, .pick (.t 132) (.t 137) (.c (.bl false))⟩,
      ⟨(some 139), none, true, .mv (.t 138)⟩,
      ⟨(some 140), (some (139, true)), false, .call (.c (.fn (.func I.burrowlaw34_begun) [] [])) []⟩,
      ⟨(some 141), none, true, .pick (.t 139) (.t 140) (.c (.bl false))⟩,
      ⟨(some 8), none, true, .mv (.t 141)⟩])
  (.ret))
def burrowlaw34_ExplainWithinc4 : ACode :=
  .seq (.region [⟨(some 103), none, true, .mv (.t 3)⟩,
      ⟨(some 104), none, true, .mv (.t 3)⟩,
      ⟨(some 105), none, true, .len (.t 104)⟩,
      ⟨(some 106), none, true, .mm false [(.t 105), (.c (.int .i64 8))]⟩,
      ⟨(some 107), none, false, .slice (.sl 60) (.t 103) none (some (.t 106)) none⟩,
      ⟨(some 108), none, false, .append 60 168 false (.c (.sl 0 [] true)) (.t 107)⟩,
      ⟨(some 3), none, true, .mv (.t 108)⟩])
  (.seq (.seq (.region [⟨(some 109), none, true, .mv (.t 3)⟩,
        ⟨(some 110), none, true, .len (.t 109)⟩,
        ⟨(some 111), none, true, .mv (.c (.int .i64 0))⟩])
    (.block 4 (.loop burrowlaw34_ExplainWithinl2)))
  burrowlaw34_ExplainWithinc3)
def burrowlaw34_ExplainWithinc5 : ACode :=
  .seq (.seq (.region [⟨(some 51), none, true, .mv (.t 9)⟩,
        ⟨(some 52), none, true, .mv (.t 11)⟩,
        ⟨(some 53), none, true, .mv (.t 11)⟩,
        ⟨(some 54), none, true, .mv (.t 11)⟩,
        ⟨(some 55), none, true, .len (.t 54)⟩,
        ⟨(some 56), none, true, .mv (.t 11)⟩,
        ⟨(some 57), none, true, .len (.t 56)⟩,
        ⟨(some 58), none, false, .slice (.sl 22) (.t 53) none (some (.t 55)) (some (.t 57))⟩,
        ⟨(some 59), none, false, .build (.st 22 [(.int .i64 0), (.st 18 [(.st 17 [(.bl false), (.ar 1 16 (zr 16 (.int .u8 0)))]), (.int .i64 0)]), (.sl 1 [] true), (.int .i64 0), (.str [])]) [(0, (.c (.int .i64 7)))]⟩,
        ⟨(some 60), none, false, .buildSlice false 22 (.st 22 [(.int .i64 0), (.st 18 [(.st 17 [(.bl false), (.ar 1 16 (zr 16 (.int .u8 0)))]), (.int .i64 0)]), (.sl 1 [] true), (.int .i64 0), (.str [])]) 1 [(0, (.t 59))]⟩,
        ⟨(some 61), none, false, .append 22 88 false (.t 58) (.t 60)⟩,
        ⟨(some 62), none, false, .buildSlice false 1 (.sl 22 [] true) 4 [(0, (.t 51)), (1, (.t 52)), (2, (.c (.sl 0 [] true))), (3, (.t 61))]⟩,
        ⟨(some 63), none, true, .len (.t 62)⟩,
        ⟨(some 64), none, true, .mv (.c (.int .i64 0))⟩])
    (.block 2 (.loop burrowlaw34_ExplainWithinl1)))
  burrowlaw34_ExplainWithinc4
def burrowlaw34_ExplainWithin : AFun := ⟨142, [.mv (.t 8)],
  .seq (.region [⟨(some 8), none, true, .mv (.c (.bl false))⟩])
  (.seq (.region [⟨(some 23), none, true, .mv (.t 0)⟩,
      ⟨(some 24), none, false, .call (.c (.fn (.func I.burrowlaw34_small) [] [])) [(.t 23), (.c (.int .i64 6))]⟩,
      ⟨(some 25), none, true, .mv (.t 1)⟩,
      ⟨(some 26), none, false, .call (.c (.fn (.func I.burrowlaw34_small) [] [])) [(.t 25), (.c (.int .i64 12))]⟩,
      ⟨(some 9), none, true, .mv (.t 24)⟩,
      ⟨(some 10), none, true, .mv (.t 26)⟩])
  (.seq (.region [⟨(some 11), none, true, .mv (.c (.sl 22 [] true))⟩])
  (.seq (.seq (.region [⟨(some 27), none, true, .mv (.t 10)⟩,
        ⟨(some 28), none, true, .len (.t 27)⟩,
        ⟨(some 29), none, true, .mv (.c (.int .i64 0))⟩])
    (.block 0 (.loop burrowlaw34_ExplainWithinl0)))
  burrowlaw34_ExplainWithinc5)))⟩
/- burrow/burrowlaw18.cut -/
def burrowlaw18_cutl0 : ACode :=
  .seq (.region [⟨(some 13), none, true, .bin .lss .no (.t 12) (.t 11)⟩])
  (.seq (.cond (.t 13)
      (.skip)
      (.exit 0))
  (.seq (.block 1 (.seq (.region [⟨(some 14), none, false, .indexA (.sl 1) (.t 10) (.t 12)⟩,
        ⟨(some 15), none, true, .load false 1 (.t 14)⟩,
        ⟨(some 5), none, true, .mv (.t 15)⟩])
    (.region [⟨(some 16), none, true, .mv (.t 3)⟩,
      ⟨(some 17), none, true, .mv (.t 5)⟩,
      ⟨(some 18), none, false, .call (.c (.fn (.func I.burrowcase_Cut) [] [])) [(.t 17), (.c (.int .i64 20))]⟩,
      ⟨(some 19), none, false, .buildSlice false 1 (.sl 1 [] true) 1 [(0, (.t 18))]⟩,
      ⟨(some 20), none, false, .append 1 24 false (.t 16) (.t 19)⟩,
      ⟨(some 3), none, true, .mv (.t 20)⟩])))
  (.region [⟨(some 21), none, true, .bin .add .no (.t 12) (.c (.int .i64 1))⟩,
    ⟨(some 12), none, true, .mv (.t 21)⟩])))
def burrowlaw18_cutc1 : ACode :=
  .seq (.region [⟨(some 22), none, true, .mv (.t 3)⟩,
      ⟨(some 2), none, true, .mv (.t 22)⟩])
  (.ret)
def burrowlaw18_cut : AFun := ⟨23, [.mv (.t 2)],
  .seq (.region [⟨(some 2), none, true, .mv (.c (.sl 1 [] true))⟩])
  (.seq (.region [⟨(some 3), none, true, .mv (.c (.sl 1 [] true))⟩])
  (.seq (.seq (.region [⟨(some 6), none, true, .mv (.t 0)⟩,
        ⟨(some 7), none, true, .mv (.t 0)⟩,
        ⟨(some 8), none, true, .len (.t 7)⟩,
        ⟨(some 9), none, true, .mm false [(.t 8), (.c (.int .i64 12))]⟩,
        ⟨(some 10), none, false, .slice (.sl 1) (.t 6) none (some (.t 9)) none⟩,
        ⟨(some 11), none, true, .len (.t 10)⟩,
        ⟨(some 12), none, true, .mv (.c (.int .i64 0))⟩])
    (.block 0 (.loop burrowlaw18_cutl0)))
  burrowlaw18_cutc1))⟩
/- burrow/stage.Push -/

def stage_Push : AFun := ⟨30, [.mv (.t 6), .mv (.t 7)],
  .seq (.region [⟨(some 6), none, true, .mv (.c (.sl 1 [] true))⟩,
      ⟨(some 7), none, true, .mv (.c (.int .i64 0))⟩])
  (.seq (.region [⟨(some 11), none, true, .mv (.t 0)⟩,
      ⟨(some 12), none, false, .call (.c (.fn (.func I.stage_cloned) [] [])) [(.t 11)]⟩,
      ⟨(some 13), none, true, .mv (.t 2)⟩,
      ⟨(some 14), none, false, .call (.c (.fn (.func I.slices_Clone_byte_byte) [] [])) [(.t 13)]⟩,
      ⟨(some 15), none, false, .buildSlice false 1 (.sl 1 [] true) 1 [(0, (.t 14))]⟩,
      ⟨(some 16), none, false, .append 1 24 false (.t 12) (.t 15)⟩,
      ⟨(some 8), none, true, .mv (.t 16)⟩])
  (.seq (.region [⟨(some 17), none, true, .mv (.t 8)⟩,
      ⟨(some 18), none, true, .len (.t 17)⟩,
      ⟨(some 9), none, true, .mv (.t 18)⟩])
  (.seq (.region [⟨(some 19), none, true, .mv (.t 9)⟩,
      ⟨(some 20), none, true, .mv (.t 1)⟩,
      ⟨(some 21), none, true, .mm true [(.c (.int .i64 0)), (.t 20)]⟩,
      ⟨(some 22), none, true, .bin .sub .no (.t 19) (.t 21)⟩,
      ⟨(some 23), none, true, .mm true [(.c (.int .i64 0)), (.t 22)]⟩,
      ⟨(some 10), none, true, .mv (.t 23)⟩])
  (.seq (.region [⟨(some 24), none, true, .mv (.t 8)⟩,
      ⟨(some 25), none, true, .mv (.t 10)⟩,
      ⟨(some 26), none, true, .mv (.t 9)⟩,
      ⟨(some 27), none, true, .mv (.t 9)⟩,
      ⟨(some 28), none, false, .slice (.sl 1) (.t 24) (some (.t 25)) (some (.t 26)) (some (.t 27))⟩,
      ⟨(some 29), none, true, .mv (.t 10)⟩,
      ⟨(some 6), none, true, .mv (.t 28)⟩,
      ⟨(some 7), none, true, .mv (.t 29)⟩])
  (.ret)))))⟩
/- burrow/stage.Pop -/

def stage_Pop : AFun := ⟨20, [.mv (.t 2), .mv (.t 3), .mv (.t 4)],
  .seq (.region [⟨(some 2), none, true, .mv (.c (.sl 1 [] true))⟩,
      ⟨(some 3), none, true, .mv (.c (.sl 1 [] true))⟩,
      ⟨(some 4), none, true, .mv (.c (.bl false))⟩])
  (.seq (.seq (.region [⟨(some 6), none, true, .mv (.t 0)⟩,
        ⟨(some 7), none, true, .len (.t 6)⟩,
        ⟨(some 8), none, true, .bin .eql .no (.t 7) (.c (.int .i64 0))⟩])
    (.cond (.t 8)
      (.seq (.region [⟨(some 2), none, true, .mv (.c (.sl 1 [] true))⟩,
          ⟨(some 3), none, true, .mv (.c (.sl 1 [] true))⟩,
          ⟨(some 4), none, true, .mv (.c (.bl false))⟩])
      (.ret))
      (.skip)))
  (.seq (.region [⟨(some 9), none, true, .mv (.t 0)⟩,
      ⟨(some 10), none, false, .call (.c (.fn (.func I.stage_cloned) [] [])) [(.t 9)]⟩,
      ⟨(some 5), none, true, .mv (.t 10)⟩])
  (.seq (.region [⟨(some 11), none, true, .mv (.t 5)⟩,
      ⟨(some 12), none, false, .indexA (.sl 1) (.t 11) (.c (.int .i64 0))⟩,
      ⟨(some 13), none, true, .load false 1 (.t 12)⟩,
      ⟨(some 14), none, true, .mv (.t 5)⟩,
      ⟨(some 15), none, true, .mv (.t 5)⟩,
      ⟨(some 16), none, true, .len (.t 15)⟩,
      ⟨(some 17), none, true, .mv (.t 5)⟩,
      ⟨(some 18), none, true, .len (.t 17)⟩,
      ⟨(some 19), none, false, .slice (.sl 1) (.t 14) (some (.c (.int .i64 1))) (some (.t 16)) (some (.t 18))⟩,
      ⟨(some 2), none, true, .mv (.t 13)⟩,
      ⟨(some 3), none, true, .mv (.t 19)⟩,
      ⟨(some 4), none, true, .mv (.c (.bl true))⟩])
  (.ret))))⟩
/- burrow/burrowlaw18.begun -/

def burrowlaw18_begun : AFun := ⟨32, [.mv (.t 0)],
  .seq (.region [⟨(some 0), none, true, .mv (.c (.bl false))⟩])
  (.seq (.region [⟨(some 4), none, false, .buildSlice false 1 (.int .u8 0) 1 [(0, (.c (.int .u8 1)))]⟩,
      ⟨(some 5), none, false, .buildSlice false 1 (.int .u8 0) 1 [(0, (.c (.int .u8 2)))]⟩,
      ⟨(some 6), none, false, .buildSlice false 1 (.sl 1 [] true) 2 [(0, (.t 4)), (1, (.t 5))]⟩,
      ⟨(some 7), none, false, .buildSlice false 1 (.int .u8 0) 1 [(0, (.c (.int .u8 3)))]⟩,
      ⟨(some 8), none, false, .call (.c (.fn (.func I.stage_Push) [] [])) [(.t 6), (.c (.int .i64 2)), (.t 7)]⟩,
      ⟨(some 3), none, true, .mv (.t 8)⟩,
      ⟨(some 9), none, true, .extract 0 (.t 3)⟩,
      ⟨(some 10), none, true, .extract 1 (.t 3)⟩,
      ⟨(some 1), none, true, .mv (.t 9)⟩,
      ⟨(some 2), none, true, .mv (.t 10)⟩])
  (.seq (.region [⟨(some 11), none, true, .mv (.t 2)⟩,
      ⟨(some 12), none, true, .bin .eql .no (.t 11) (.c (.int .i64 1))⟩,
      ⟨(some 13), none, true, .mv (.t 12)⟩,
      ⟨(some 14), (some (13, true)), true, .mv (.t 1)⟩,
      ⟨(some 15), (some (13, true)), true, .len (.t 14)⟩,
      ⟨(some 16), (some (13, true)), true, .bin .eql .no (.t 15) (.c (.int .i64 2))⟩,
      ⟨(some 17), none, true, .pick (.t 13) (.t 16) (.c (.bl false))⟩,
      ⟨(some 18), none, true, .mv (.t 17)⟩,
      ⟨(some 19), (some (18, true)), true, .mv (.t 1)⟩,
      ⟨(some 20), (some (18, true)), false, .indexA (.sl 1) (.t 19) (.c (.int .i64 0))⟩,
      ⟨(some 21), (some (18, true)), false, .load false 1 (.t 20)⟩,
      ⟨(some 22), (some (18, true)), false, .convS (.t 21)⟩,
      ⟨(some 23), (some (18, true)), false, .bin .eql .no (.t 22) (.c (.str [2]))⟩,
      ⟨(some 24), none, true, .pick (.t 18) (.t 23) (.c (.bl false))⟩,
      ⟨(some 25), none, true, .mv (.t 24)⟩,
      ⟨(some 26), (some (25, true)), true, .mv (.t 1)⟩,
      ⟨(some 27), (some (25, true)), false, .indexA (.sl 1) (.t 26) (.c (.int .i64 1))⟩,
      ⟨(some 28), (some (25, true)), false, .load false 1 (.t 27)⟩,
      ⟨(some 29), (some (25, true)), false, .convS (.t 28)⟩,
      ⟨(some 30), (some (25, true)), false, .bin .eql .no (.t 29) (.c (.str [3]))⟩,
      ⟨(some 31), none, true, .pick (.t 25) (.t 30) (.c (.bl false))⟩,
      ⟨(some 0), none, true, .mv (.t 31)⟩])
  (.ret)))⟩
/- burrow/burrowcase.Cut -/

def burrowcase_Cut : AFun := ⟨11, [.mv (.t 4)],
  .seq (.region [⟨(some 4), none, true, .mv (.c (.sl 1 [] true))⟩])
  (.seq (.region [⟨(some 5), none, true, .mv (.t 0)⟩,
      ⟨(some 6), none, true, .mv (.t 0)⟩,
      ⟨(some 7), none, true, .len (.t 6)⟩,
      ⟨(some 8), none, true, .mv (.t 1)⟩,
      ⟨(some 9), none, true, .mm false [(.t 7), (.t 8)]⟩,
      ⟨(some 10), none, false, .slice (.sl 1) (.t 5) none (some (.t 9)) none⟩,
      ⟨(some 4), none, true, .mv (.t 10)⟩])
  (.ret))⟩
/- burrow/burrowcase.Mod -/

def burrowcase_Mod : AFun := ⟨14, [.mv (.t 4)],
  .seq (.region [⟨(some 4), none, true, .mv (.c (.int .i64 0))⟩])
  (.seq (.seq (.region [⟨(some 5), none, true, .mv (.t 1)⟩,
        ⟨(some 6), none, true, .bin .lss .no (.t 5) (.c (.int .i64 1))⟩])
    (.cond (.t 6)
      (.seq (.region [⟨(some 4), none, true, .mv (.c (.int .i64 0))⟩])
      (.ret))
      (.skip)))
  (.seq (.region [⟨(some 7), none, true, .mv (.t 0)⟩,
      ⟨(some 8), none, true, .mv (.t 1)⟩,
      ⟨(some 9), none, false, .bin .rem .no (.t 7) (.t 8)⟩,
      ⟨(some 10), none, true, .mv (.t 1)⟩,
      ⟨(some 11), none, true, .bin .add .no (.t 9) (.t 10)⟩,
      ⟨(some 12), none, true, .mv (.t 1)⟩,
      ⟨(some 13), none, false, .bin .rem .no (.t 11) (.t 12)⟩,
      ⟨(some 4), none, true, .mv (.t 13)⟩])
  (.ret)))⟩
/- burrow/burrowref14.Push -/
def burrowref14_Pushl0 : ACode :=
  .seq (.region [⟨(some 15), none, true, .bin .lss .no (.t 14) (.t 13)⟩])
  (.seq (.cond (.t 15)
      (.skip)
      (.exit 0))
  (.seq (.block 1 (.seq (.region [⟨(some 16), none, false, .indexA (.sl 1) (.t 12) (.t 14)⟩,
        ⟨(some 17), none, true, .load false 1 (.t 16)⟩,
        ⟨(some 10), none, true, .mv (.t 17)⟩])
    (.region [⟨(some 18), none, true, .mv (.t 8)⟩,
      ⟨(some 19), none, false, .buildSlice false 1 (.int .u8 0) 0 []⟩,
      ⟨(some 20), none, true, .mv (.t 10)⟩,
      ⟨(some 21), none, false, .append 1 1 false (.t 19) (.t 20)⟩,
      ⟨(some 22), none, false, .buildSlice false 1 (.sl 1 [] true) 1 [(0, (.t 21))]⟩,
      ⟨(some 23), none, false, .append 1 24 false (.t 18) (.t 22)⟩,
      ⟨(some 8), none, true, .mv (.t 23)⟩])))
  (.region [⟨(some 24), none, true, .bin .add .no (.t 14) (.c (.int .i64 1))⟩,
    ⟨(some 14), none, true, .mv (.t 24)⟩])))
def burrowref14_Pushc1 : ACode :=
  .seq (.region [⟨(some 25), none, true, .mv (.t 8)⟩,
      ⟨(some 26), none, false, .buildSlice false 1 (.int .u8 0) 0 []⟩,
      ⟨(some 27), none, true, .mv (.t 2)⟩,
      ⟨(some 28), none, false, .append 1 1 false (.t 26) (.t 27)⟩,
      ⟨(some 29), none, false, .buildSlice false 1 (.sl 1 [] true) 1 [(0, (.t 28))]⟩,
      ⟨(some 30), none, false, .append 1 24 false (.t 25) (.t 29)⟩,
      ⟨(some 8), none, true, .mv (.t 30)⟩])
  (.seq (.region [⟨(some 31), none, true, .mv (.t 8)⟩,
      ⟨(some 32), none, true, .len (.t 31)⟩,
      ⟨(some 33), none, true, .mv (.t 1)⟩,
      ⟨(some 34), none, true, .mm true [(.t 33), (.c (.int .i64 0))]⟩,
      ⟨(some 35), none, true, .bin .sub .no (.t 32) (.t 34)⟩,
      ⟨(some 36), none, true, .mm true [(.t 35), (.c (.int .i64 0))]⟩,
      ⟨(some 11), none, true, .mv (.t 36)⟩])
  (.seq (.region [⟨(some 37), none, true, .mv (.t 8)⟩,
      ⟨(some 38), none, true, .mv (.t 11)⟩,
      ⟨(some 39), none, false, .slice (.sl 1) (.t 37) (some (.t 38)) none none⟩,
      ⟨(some 40), none, true, .mv (.t 11)⟩,
      ⟨(some 6), none, true, .mv (.t 39)⟩,
      ⟨(some 7), none, true, .mv (.t 40)⟩])
  (.ret)))
def burrowref14_Push : AFun := ⟨41, [.mv (.t 6), .mv (.t 7)],
  .seq (.region [⟨(some 6), none, true, .mv (.c (.sl 1 [] true))⟩,
      ⟨(some 7), none, true, .mv (.c (.int .i64 0))⟩])
  (.seq (.region [⟨(some 8), none, true, .mv (.c (.sl 1 [] true))⟩])
  (.seq (.seq (.region [⟨(some 12), none, true, .mv (.t 0)⟩,
        ⟨(some 13), none, true, .len (.t 12)⟩,
        ⟨(some 14), none, true, .mv (.c (.int .i64 0))⟩])
    (.block 0 (.loop burrowref14_Pushl0)))
  burrowref14_Pushc1))⟩
/- burrow/burrowlaw18.same -/
def burrowlaw18_samel0 : ACode :=
  .seq (.region [⟨(some 14), none, true, .bin .lss .no (.t 13) (.t 12)⟩])
  (.seq (.cond (.t 14)
      (.skip)
      (.exit 0))
  (.seq (.block 1 (.seq (.region [⟨(some 15), none, true, .mv (.t 13)⟩,
        ⟨(some 5), none, true, .mv (.t 15)⟩])
    (.seq (.region [⟨(some 16), none, true, .mv (.t 0)⟩,
        ⟨(some 17), none, true, .mv (.t 5)⟩,
        ⟨(some 18), none, false, .indexA (.sl 1) (.t 16) (.t 17)⟩,
        ⟨(some 19), none, true, .load false 1 (.t 18)⟩,
        ⟨(some 20), none, true, .convS (.t 19)⟩,
        ⟨(some 21), none, true, .mv (.t 1)⟩,
        ⟨(some 22), none, true, .mv (.t 5)⟩,
        ⟨(some 23), none, false, .indexA (.sl 1) (.t 21) (.t 22)⟩,
        ⟨(some 24), none, true, .load false 1 (.t 23)⟩,
        ⟨(some 25), none, true, .convS (.t 24)⟩,
        ⟨(some 26), none, true, .bin .neq .no (.t 20) (.t 25)⟩])
    (.cond (.t 26)
      (.seq (.region [⟨(some 4), none, true, .mv (.c (.bl false))⟩])
      (.ret))
      (.skip)))))
  (.region [⟨(some 27), none, true, .bin .add .no (.t 13) (.c (.int .i64 1))⟩,
    ⟨(some 13), none, true, .mv (.t 27)⟩])))
def burrowlaw18_samec1 : ACode :=
  .seq (.region [⟨(some 4), none, true, .mv (.c (.bl true))⟩])
  (.ret)
def burrowlaw18_same : AFun := ⟨28, [.mv (.t 4)],
  .seq (.region [⟨(some 4), none, true, .mv (.c (.bl false))⟩])
  (.seq (.seq (.region [⟨(some 6), none, true, .mv (.t 0)⟩,
        ⟨(some 7), none, true, .len (.t 6)⟩,
        ⟨(some 8), none, true, .mv (.t 1)⟩,
        ⟨(some 9), none, true, .len (.t 8)⟩,
        ⟨(some 10), none, true, .bin .neq .no (.t 7) (.t 9)⟩])
    (.cond (.t 10)
      (.seq (.region [⟨(some 4), none, true, .mv (.c (.bl false))⟩])
      (.ret))
      (.skip)))
  (.seq (.seq (.region [⟨(some 11), none, true, .mv (.t 0)⟩,
        ⟨(some 12), none, true, .len (.t 11)⟩,
        ⟨(some 13), none, true, .mv (.c (.int .i64 0))⟩])
    (.block 0 (.loop burrowlaw18_samel0)))
  burrowlaw18_samec1))⟩
/- burrow/burrowref14.Pop -/

def burrowref14_Pop : AFun := ⟨13, [.mv (.t 2), .mv (.t 3), .mv (.t 4)],
  .seq (.region [⟨(some 2), none, true, .mv (.c (.sl 1 [] true))⟩,
      ⟨(some 3), none, true, .mv (.c (.sl 1 [] true))⟩,
      ⟨(some 4), none, true, .mv (.c (.bl false))⟩])
  (.seq (.seq (.region [⟨(some 5), none, true, .mv (.t 0)⟩,
        ⟨(some 6), none, true, .len (.t 5)⟩,
        ⟨(some 7), none, true, .bin .eql .no (.t 6) (.c (.int .i64 0))⟩])
    (.cond (.t 7)
      (.seq (.region [⟨(some 2), none, true, .mv (.c (.sl 1 [] true))⟩,
          ⟨(some 3), none, true, .mv (.c (.sl 1 [] true))⟩,
          ⟨(some 4), none, true, .mv (.c (.bl false))⟩])
      (.ret))
      (.skip)))
  (.seq (.region [⟨(some 8), none, true, .mv (.t 0)⟩,
      ⟨(some 9), none, false, .indexA (.sl 1) (.t 8) (.c (.int .i64 0))⟩,
      ⟨(some 10), none, true, .load false 1 (.t 9)⟩,
      ⟨(some 11), none, true, .mv (.t 0)⟩,
      ⟨(some 12), none, false, .slice (.sl 1) (.t 11) (some (.c (.int .i64 1))) none none⟩,
      ⟨(some 2), none, true, .mv (.t 10)⟩,
      ⟨(some 3), none, true, .mv (.t 12)⟩,
      ⟨(some 4), none, true, .mv (.c (.bl true))⟩])
  (.ret)))⟩
/- burrow/stage.Size -/
def stage_Sizel0 : ACode :=
  .seq (.region [⟨(some 9), none, true, .bin .lss .no (.t 8) (.t 7)⟩])
  (.seq (.cond (.t 9)
      (.skip)
      (.exit 0))
  (.seq (.block 1 (.seq (.region [⟨(some 10), none, false, .indexA (.sl 1) (.t 6) (.t 8)⟩,
        ⟨(some 11), none, true, .load false 1 (.t 10)⟩,
        ⟨(some 5), none, true, .mv (.t 11)⟩])
    (.region [⟨(some 12), none, true, .mv (.t 3)⟩,
      ⟨(some 13), none, true, .mv (.t 5)⟩,
      ⟨(some 14), none, true, .len (.t 13)⟩,
      ⟨(some 15), none, true, .bin .add .no (.t 12) (.t 14)⟩,
      ⟨(some 3), none, true, .mv (.t 15)⟩])))
  (.region [⟨(some 16), none, true, .bin .add .no (.t 8) (.c (.int .i64 1))⟩,
    ⟨(some 8), none, true, .mv (.t 16)⟩])))
def stage_Sizec1 : ACode :=
  .seq (.region [⟨(some 17), none, true, .mv (.t 3)⟩,
      ⟨(some 2), none, true, .mv (.t 17)⟩])
  (.ret)
def stage_Size : AFun := ⟨18, [.mv (.t 2)],
  .seq (.region [⟨(some 2), none, true, .mv (.c (.int .i64 0))⟩])
  (.seq (.region [⟨(some 3), none, true, .mv (.c (.int .i64 0))⟩])
  (.seq (.seq (.region [⟨(some 6), none, true, .mv (.t 0)⟩,
        ⟨(some 7), none, true, .len (.t 6)⟩,
        ⟨(some 8), none, true, .mv (.c (.int .i64 0))⟩])
    (.block 0 (.loop stage_Sizel0)))
  stage_Sizec1))⟩
/- burrow/burrowref14.Size -/
def burrowref14_Sizel0 : ACode :=
  .seq (.region [⟨(some 9), none, true, .bin .lss .no (.t 8) (.t 7)⟩])
  (.seq (.cond (.t 9)
      (.skip)
      (.exit 0))
  (.seq (.block 1 (.seq (.region [⟨(some 10), none, false, .indexA (.sl 1) (.t 6) (.t 8)⟩,
        ⟨(some 11), none, true, .load false 1 (.t 10)⟩,
        ⟨(some 5), none, true, .mv (.t 11)⟩])
    (.region [⟨(some 12), none, true, .mv (.t 3)⟩,
      ⟨(some 13), none, true, .mv (.t 5)⟩,
      ⟨(some 14), none, true, .len (.t 13)⟩,
      ⟨(some 15), none, true, .bin .add .no (.t 12) (.t 14)⟩,
      ⟨(some 3), none, true, .mv (.t 15)⟩])))
  (.region [⟨(some 16), none, true, .bin .add .no (.t 8) (.c (.int .i64 1))⟩,
    ⟨(some 8), none, true, .mv (.t 16)⟩])))
def burrowref14_Sizec1 : ACode :=
  .seq (.region [⟨(some 17), none, true, .mv (.t 3)⟩,
      ⟨(some 2), none, true, .mv (.t 17)⟩])
  (.ret)
def burrowref14_Size : AFun := ⟨18, [.mv (.t 2)],
  .seq (.region [⟨(some 2), none, true, .mv (.c (.int .i64 0))⟩])
  (.seq (.region [⟨(some 3), none, true, .mv (.c (.int .i64 0))⟩])
  (.seq (.seq (.region [⟨(some 6), none, true, .mv (.t 0)⟩,
        ⟨(some 7), none, true, .len (.t 6)⟩,
        ⟨(some 8), none, true, .mv (.c (.int .i64 0))⟩])
    (.block 0 (.loop burrowref14_Sizel0)))
  burrowref14_Sizec1))⟩
/- burrow/burrowlaw34.small -/
def burrowlaw34_smalll0 : ACode :=
  .seq (.region [⟨(some 16), none, true, .bin .lss .no (.t 15) (.t 14)⟩])
  (.seq (.cond (.t 16)
      (.skip)
      (.exit 0))
  (.seq (.block 1 (.seq (.region [⟨(some 17), none, false, .indexA (.sl 1) (.t 13) (.t 15)⟩,
        ⟨(some 18), none, true, .load false 1 (.t 17)⟩,
        ⟨(some 7), none, true, .mv (.t 18)⟩])
    (.region [⟨(some 19), none, true, .mv (.t 5)⟩,
      ⟨(some 20), none, true, .mv (.t 7)⟩,
      ⟨(some 21), none, true, .convI .i64 (.t 20)⟩,
      ⟨(some 22), none, false, .bin .rem .no (.t 21) (.c (.int .i64 3))⟩,
      ⟨(some 23), none, true, .mv (.t 7)⟩,
      ⟨(some 24), none, false, .bin .quo .no (.t 23) (.c (.int .u8 3))⟩,
      ⟨(some 25), none, true, .convI .i64 (.t 24)⟩,
      ⟨(some 26), none, false, .bin .rem .no (.t 25) (.c (.int .i64 2))⟩,
      ⟨(some 27), none, false, .build (.st 22 [(.int .i64 0), (.st 18 [(.st 17 [(.bl false), (.ar 1 16 (zr 16 (.int .u8 0)))]), (.int .i64 0)]), (.sl 1 [] true), (.int .i64 0), (.str [])]) [(0, (.t 22)), (3, (.t 26))]⟩,
      ⟨(some 28), none, false, .buildSlice false 22 (.st 22 [(.int .i64 0), (.st 18 [(.st 17 [(.bl false), (.ar 1 16 (zr 16 (.int .u8 0)))]), (.int .i64 0)]), (.sl 1 [] true), (.int .i64 0), (.str [])]) 1 [(0, (.t 27))]⟩,
      ⟨(some 29), none, false, .append 22 88 false (.t 19) (.t 28)⟩,
      ⟨(some 5), none, true, .mv (.t 29)⟩])))
  (.region [⟨(some 30), none, true, .bin .add .no (.t 15) (.c (.int .i64 1))⟩,
    ⟨(some 15), none, true, .mv (.t 30)⟩])))
def burrowlaw34_smallc1 : ACode :=
  .seq (.region [⟨(some 31), none, true, .mv (.t 5)⟩,
      ⟨(some 4), none, true, .mv (.t 31)⟩])
  (.ret)
def burrowlaw34_small : AFun := ⟨32, [.mv (.t 4)],
  .seq (.region [⟨(some 4), none, true, .mv (.c (.sl 22 [] true))⟩])
  (.seq (.region [⟨(some 5), none, true, .mv (.c (.sl 22 [] true))⟩])
  (.seq (.seq (.region [⟨(some 8), none, true, .mv (.t 0)⟩,
        ⟨(some 9), none, true, .mv (.t 0)⟩,
        ⟨(some 10), none, true, .len (.t 9)⟩,
        ⟨(some 11), none, true, .mv (.t 1)⟩,
        ⟨(some 12), none, true, .mm false [(.t 10), (.t 11)]⟩,
        ⟨(some 13), none, false, .slice (.sl 1) (.t 8) none (some (.t 12)) none⟩,
        ⟨(some 14), none, true, .len (.t 13)⟩,
        ⟨(some 15), none, true, .mv (.c (.int .i64 0))⟩])
    (.block 0 (.loop burrowlaw34_smalll0)))
  burrowlaw34_smallc1))⟩
/- burrow/explain.Within -/
def explain_Withinl0 : ACode :=
  .seq (.region [⟨(some 13), none, true, .bin .lss .no (.t 12) (.t 11)⟩])
  (.seq (.cond (.t 13)
      (.skip)
      (.exit 0))
  (.seq (.block 1 (.seq (.region [⟨(some 14), none, false, .indexA (.sl 22) (.t 10) (.t 12)⟩,
        ⟨(some 15), none, true, .load true 22 (.t 14)⟩,
        ⟨(some 9), none, false, .alloc (.st 22 [(.int .i64 0), (.st 18 [(.st 17 [(.bl false), (.ar 1 16 (zr 16 (.int .u8 0)))]), (.int .i64 0)]), (.sl 1 [] true), (.int .i64 0), (.str [])])⟩,
        ⟨none, none, false, .store 22 (.t 9) (.t 15)⟩])
    (.seq (.region [⟨(some 16), none, true, .mv (.t 7)⟩,
        ⟨(some 17), none, true, .mv (.t 0)⟩,
        ⟨(some 18), none, true, .len (.t 17)⟩,
        ⟨(some 19), none, true, .bin .lss .no (.t 16) (.t 18)⟩,
        ⟨(some 20), none, true, .mv (.t 19)⟩,
        ⟨(some 21), (some (20, true)), true, .mv (.t 0)⟩,
        ⟨(some 22), (some (20, true)), true, .mv (.t 7)⟩,
        ⟨(some 23), (some (20, true)), false, .indexA (.sl 22) (.t 21) (.t 22)⟩,
        ⟨(some 24), (some (20, true)), false, .load true 22 (.t 23)⟩,
        ⟨(some 25), (some (20, true)), false, .build (.st 22 [(.st 22 [(.int .i64 0), (.st 18 [(.st 17 [(.bl false), (.ar 1 16 (zr 16 (.int .u8 0)))]), (.int .i64 0)]), (.sl 1 [] true), (.int .i64 0), (.str [])])]) [(0, (.t 24))]⟩,
        ⟨(some 26), (some (20, true)), true, .load true 22 (.t 9)⟩,
        ⟨(some 27), (some (20, true)), false, .callq (.c (.fn (.func I.explain_event_same) [] [])) [(.t 25), (.t 26)]⟩,
        ⟨(some 28), none, true, .pick (.t 20) (.t 27) (.c (.bl false))⟩])
    (.cond (.t 28)
      (.region [⟨(some 29), none, true, .mv (.t 7)⟩,
        ⟨(some 30), none, true, .bin .add .no (.t 29) (.c (.int .i64 1))⟩,
        ⟨(some 7), none, true, .mv (.t 30)⟩])
      (.region [⟨(some 31), none, true, .mv (.t 6)⟩,
        ⟨(some 32), none, true, .load true 22 (.t 9)⟩,
        ⟨(some 33), none, false, .call (.c (.fn (.func I.own_Event) [] [])) [(.t 32)]⟩,
        ⟨(some 34), none, false, .buildSlice false 22 (.st 22 [(.int .i64 0), (.st 18 [(.st 17 [(.bl false), (.ar 1 16 (zr 16 (.int .u8 0)))]), (.int .i64 0)]), (.sl 1 [] true), (.int .i64 0), (.str [])]) 1 [(0, (.t 33))]⟩,
        ⟨(some 35), none, false, .append 22 88 false (.t 31) (.t 34)⟩,
        ⟨(some 6), none, true, .mv (.t 35)⟩])))))
  (.region [⟨(some 36), none, true, .bin .add .no (.t 12) (.c (.int .i64 1))⟩,
    ⟨(some 12), none, true, .mv (.t 36)⟩])))
def explain_Withinc1 : ACode :=
  .seq (.seq (.region [⟨(some 37), none, true, .mv (.t 7)⟩,
        ⟨(some 38), none, true, .mv (.t 0)⟩,
        ⟨(some 39), none, true, .len (.t 38)⟩,
        ⟨(some 40), none, true, .bin .lss .no (.t 37) (.t 39)⟩])
    (.cond (.t 40)
      (.seq (.region [⟨(some 4), none, true, .mv (.c (.sl 22 [] true))⟩,
          ⟨(some 5), none, true, .mv (.c (.bl false))⟩])
      (.ret))
      (.skip)))
  (.seq (.region [⟨(some 41), none, true, .mv (.t 6)⟩,
      ⟨(some 4), none, true, .mv (.t 41)⟩,
      ⟨(some 5), none, true, .mv (.c (.bl true))⟩])
  (.ret))
def explain_Within : AFun := ⟨42, [.mv (.t 4), .mv (.t 5)],
  .seq (.region [⟨(some 4), none, true, .mv (.c (.sl 22 [] true))⟩,
      ⟨(some 5), none, true, .mv (.c (.bl false))⟩])
  (.seq (.region [⟨(some 6), none, true, .mv (.c (.sl 22 [] true))⟩])
  (.seq (.region [⟨(some 7), none, true, .mv (.c (.int .i64 0))⟩])
  (.seq (.seq (.region [⟨(some 10), none, true, .mv (.t 1)⟩,
        ⟨(some 11), none, true, .len (.t 10)⟩,
        ⟨(some 12), none, true, .mv (.c (.int .i64 0))⟩])
    (.block 0 (.loop explain_Withinl0)))
  explain_Withinc1)))⟩
/- burrow/burrowref34.Within -/
def burrowref34_Withinl0 : ACode :=
  .seq (.region [⟨(some 12), none, true, .bin .lss .no (.t 11) (.t 10)⟩])
  (.seq (.cond (.t 12)
      (.skip)
      (.exit 0))
  (.seq (.block 1 (.seq (.region [⟨(some 13), none, false, .indexA (.sl 22) (.t 9) (.t 11)⟩,
        ⟨(some 14), none, true, .load true 22 (.t 13)⟩,
        ⟨(some 8), none, false, .alloc (.st 22 [(.int .i64 0), (.st 18 [(.st 17 [(.bl false), (.ar 1 16 (zr 16 (.int .u8 0)))]), (.int .i64 0)]), (.sl 1 [] true), (.int .i64 0), (.str [])])⟩,
        ⟨none, none, false, .store 22 (.t 8) (.t 14)⟩])
    (.seq (.region [⟨(some 15), none, true, .mv (.t 0)⟩,
        ⟨(some 16), none, true, .len (.t 15)⟩,
        ⟨(some 17), none, true, .bin .gtr .no (.t 16) (.c (.int .i64 0))⟩,
        ⟨(some 18), none, true, .mv (.t 17)⟩,
        ⟨(some 19), (some (18, true)), true, .mv (.t 0)⟩,
        ⟨(some 20), (some (18, true)), false, .indexA (.sl 22) (.t 19) (.c (.int .i64 0))⟩,
        ⟨(some 21), (some (18, true)), false, .load true 22 (.t 20)⟩,
        ⟨(some 22), (some (18, true)), true, .load true 22 (.t 8)⟩,
        ⟨(some 23), (some (18, true)), false, .callq (.c (.fn (.func I.burrowref31_SameEvent) [] [])) [(.t 21), (.t 22)]⟩,
        ⟨(some 24), none, true, .pick (.t 18) (.t 23) (.c (.bl false))⟩])
    (.cond (.t 24)
      (.region [⟨(some 25), none, true, .mv (.t 0)⟩,
        ⟨(some 26), none, false, .slice (.sl 22) (.t 25) (some (.c (.int .i64 1))) none none⟩,
        ⟨(some 0), none, true, .mv (.t 26)⟩])
      (.region [⟨(some 27), none, true, .mv (.t 6)⟩,
        ⟨(some 28), none, true, .load true 22 (.t 8)⟩,
        ⟨(some 29), none, false, .buildSlice false 22 (.st 22 [(.int .i64 0), (.st 18 [(.st 17 [(.bl false), (.ar 1 16 (zr 16 (.int .u8 0)))]), (.int .i64 0)]), (.sl 1 [] true), (.int .i64 0), (.str [])]) 1 [(0, (.t 28))]⟩,
        ⟨(some 30), none, false, .append 22 88 false (.t 27) (.t 29)⟩,
        ⟨(some 6), none, true, .mv (.t 30)⟩])))))
  (.region [⟨(some 31), none, true, .bin .add .no (.t 11) (.c (.int .i64 1))⟩,
    ⟨(some 11), none, true, .mv (.t 31)⟩])))
def burrowref34_Withinc1 : ACode :=
  .seq (.seq (.region [⟨(some 32), none, true, .mv (.t 0)⟩,
        ⟨(some 33), none, true, .len (.t 32)⟩,
        ⟨(some 34), none, true, .bin .gtr .no (.t 33) (.c (.int .i64 0))⟩])
    (.cond (.t 34)
      (.seq (.region [⟨(some 4), none, true, .mv (.c (.sl 22 [] true))⟩,
          ⟨(some 5), none, true, .mv (.c (.bl false))⟩])
      (.ret))
      (.skip)))
  (.seq (.region [⟨(some 35), none, true, .mv (.t 6)⟩,
      ⟨(some 4), none, true, .mv (.t 35)⟩,
      ⟨(some 5), none, true, .mv (.c (.bl true))⟩])
  (.ret))
def burrowref34_Within : AFun := ⟨36, [.mv (.t 4), .mv (.t 5)],
  .seq (.region [⟨(some 4), none, true, .mv (.c (.sl 22 [] true))⟩,
      ⟨(some 5), none, true, .mv (.c (.bl false))⟩])
  (.seq (.region [⟨(some 6), none, true, .mv (.c (.sl 22 [] true))⟩])
  (.seq (.seq (.region [⟨(some 9), none, true, .mv (.t 1)⟩,
        ⟨(some 10), none, true, .len (.t 9)⟩,
        ⟨(some 11), none, true, .mv (.c (.int .i64 0))⟩])
    (.block 0 (.loop burrowref34_Withinl0)))
  burrowref34_Withinc1))⟩
/- burrow/burrowref34.SameEvents -/
def burrowref34_SameEventsl0 : ACode :=
  .seq (.region [⟨(some 14), none, true, .bin .lss .no (.t 13) (.t 12)⟩])
  (.seq (.cond (.t 14)
      (.skip)
      (.exit 0))
  (.seq (.block 1 (.seq (.region [⟨(some 15), none, true, .mv (.t 13)⟩,
        ⟨(some 5), none, true, .mv (.t 15)⟩])
    (.seq (.region [⟨(some 16), none, true, .mv (.t 0)⟩,
        ⟨(some 17), none, true, .mv (.t 5)⟩,
        ⟨(some 18), none, false, .indexA (.sl 22) (.t 16) (.t 17)⟩,
        ⟨(some 19), none, true, .load true 22 (.t 18)⟩,
        ⟨(some 20), none, true, .mv (.t 1)⟩,
        ⟨(some 21), none, true, .mv (.t 5)⟩,
        ⟨(some 22), none, false, .indexA (.sl 22) (.t 20) (.t 21)⟩,
        ⟨(some 23), none, true, .load true 22 (.t 22)⟩,
        ⟨(some 24), none, false, .callq (.c (.fn (.func I.burrowref31_SameEvent) [] [])) [(.t 19), (.t 23)]⟩,
        ⟨(some 25), none, true, .un .not (.t 24)⟩])
    (.cond (.t 25)
      (.seq (.region [⟨(some 4), none, true, .mv (.c (.bl false))⟩])
      (.ret))
      (.skip)))))
  (.region [⟨(some 26), none, true, .bin .add .no (.t 13) (.c (.int .i64 1))⟩,
    ⟨(some 13), none, true, .mv (.t 26)⟩])))
def burrowref34_SameEventsc1 : ACode :=
  .seq (.region [⟨(some 4), none, true, .mv (.c (.bl true))⟩])
  (.ret)
def burrowref34_SameEvents : AFun := ⟨27, [.mv (.t 4)],
  .seq (.region [⟨(some 4), none, true, .mv (.c (.bl false))⟩])
  (.seq (.seq (.region [⟨(some 6), none, true, .mv (.t 0)⟩,
        ⟨(some 7), none, true, .len (.t 6)⟩,
        ⟨(some 8), none, true, .mv (.t 1)⟩,
        ⟨(some 9), none, true, .len (.t 8)⟩,
        ⟨(some 10), none, true, .bin .neq .no (.t 7) (.t 9)⟩])
    (.cond (.t 10)
      (.seq (.region [⟨(some 4), none, true, .mv (.c (.bl false))⟩])
      (.ret))
      (.skip)))
  (.seq (.seq (.region [⟨(some 11), none, true, .mv (.t 0)⟩,
        ⟨(some 12), none, true, .len (.t 11)⟩,
        ⟨(some 13), none, true, .mv (.c (.int .i64 0))⟩])
    (.block 0 (.loop burrowref34_SameEventsl0)))
  burrowref34_SameEventsc1))⟩
/- burrow/explain.Inputs -/
def explain_Inputsl0 : ACode :=
  .seq (.region [⟨(some 9), none, true, .bin .lss .no (.t 8) (.t 7)⟩])
  (.seq (.cond (.t 9)
      (.skip)
      (.exit 0))
  (.seq (.block 1 (.seq (.region [⟨(some 10), none, false, .indexA (.sl 60) (.t 6) (.t 8)⟩,
        ⟨(some 11), none, true, .load true 60 (.t 10)⟩,
        ⟨(some 5), none, false, .alloc (.st 60 [(.int .i64 0), (.st 22 [(.int .i64 0), (.st 18 [(.st 17 [(.bl false), (.ar 1 16 (zr 16 (.int .u8 0)))]), (.int .i64 0)]), (.sl 1 [] true), (.int .i64 0), (.str [])]), (.int .i64 0), (.int .i64 0), (.int .u8 0), (.int .i64 0), (.int .i64 0), (.ar 1 32 (zr 32 (.int .u8 0)))])⟩,
        ⟨none, none, false, .store 60 (.t 5) (.t 11)⟩])
    (.seq (.region [⟨(some 12), none, true, .fieldA 0 0 (.t 5)⟩,
        ⟨(some 13), none, true, .load false 1 (.t 12)⟩,
        ⟨(some 14), none, true, .bin .eql .no (.t 13) (.c (.int .i64 1))⟩])
    (.cond (.t 14)
      (.region [⟨(some 15), none, true, .mv (.t 3)⟩,
        ⟨(some 16), none, true, .fieldA 1 1 (.t 5)⟩,
        ⟨(some 17), none, true, .load true 22 (.t 16)⟩,
        ⟨(some 18), none, false, .call (.c (.fn (.func I.own_Event) [] [])) [(.t 17)]⟩,
        ⟨(some 19), none, false, .buildSlice false 22 (.st 22 [(.int .i64 0), (.st 18 [(.st 17 [(.bl false), (.ar 1 16 (zr 16 (.int .u8 0)))]), (.int .i64 0)]), (.sl 1 [] true), (.int .i64 0), (.str [])]) 1 [(0, (.t 18))]⟩,
        ⟨(some 20), none, false, .append 22 88 false (.t 15) (.t 19)⟩,
        ⟨(some 3), none, true, .mv (.t 20)⟩])
      (.skip)))))
  (.region [⟨(some 21), none, true, .bin .add .no (.t 8) (.c (.int .i64 1))⟩,
    ⟨(some 8), none, true, .mv (.t 21)⟩])))
def explain_Inputsc1 : ACode :=
  .seq (.region [⟨(some 22), none, true, .mv (.t 3)⟩,
      ⟨(some 2), none, true, .mv (.t 22)⟩])
  (.ret)
def explain_Inputs : AFun := ⟨23, [.mv (.t 2)],
  .seq (.region [⟨(some 2), none, true, .mv (.c (.sl 22 [] true))⟩])
  (.seq (.region [⟨(some 3), none, true, .mv (.c (.sl 22 [] true))⟩])
  (.seq (.seq (.region [⟨(some 6), none, true, .mv (.t 0)⟩,
        ⟨(some 7), none, true, .len (.t 6)⟩,
        ⟨(some 8), none, true, .mv (.c (.int .i64 0))⟩])
    (.block 0 (.loop explain_Inputsl0)))
  explain_Inputsc1))⟩
/- burrow/burrowref34.Inputs -/
def burrowref34_Inputsl0 : ACode :=
  .seq (.region [⟨(some 9), none, true, .bin .lss .no (.t 8) (.t 7)⟩])
  (.seq (.cond (.t 9)
      (.skip)
      (.exit 0))
  (.seq (.block 1 (.seq (.region [⟨(some 10), none, false, .indexA (.sl 60) (.t 6) (.t 8)⟩,
        ⟨(some 11), none, true, .load true 60 (.t 10)⟩,
        ⟨(some 5), none, false, .alloc (.st 60 [(.int .i64 0), (.st 22 [(.int .i64 0), (.st 18 [(.st 17 [(.bl false), (.ar 1 16 (zr 16 (.int .u8 0)))]), (.int .i64 0)]), (.sl 1 [] true), (.int .i64 0), (.str [])]), (.int .i64 0), (.int .i64 0), (.int .u8 0), (.int .i64 0), (.int .i64 0), (.ar 1 32 (zr 32 (.int .u8 0)))])⟩,
        ⟨none, none, false, .store 60 (.t 5) (.t 11)⟩])
    (.seq (.region [⟨(some 12), none, true, .fieldA 0 0 (.t 5)⟩,
        ⟨(some 13), none, true, .load false 1 (.t 12)⟩,
        ⟨(some 14), none, true, .bin .eql .no (.t 13) (.c (.int .i64 1))⟩])
    (.cond (.t 14)
      (.region [⟨(some 15), none, true, .mv (.t 3)⟩,
        ⟨(some 16), none, true, .fieldA 1 1 (.t 5)⟩,
        ⟨(some 17), none, true, .load true 22 (.t 16)⟩,
        ⟨(some 18), none, false, .buildSlice false 22 (.st 22 [(.int .i64 0), (.st 18 [(.st 17 [(.bl false), (.ar 1 16 (zr 16 (.int .u8 0)))]), (.int .i64 0)]), (.sl 1 [] true), (.int .i64 0), (.str [])]) 1 [(0, (.t 17))]⟩,
        ⟨(some 19), none, false, .append 22 88 false (.t 15) (.t 18)⟩,
        ⟨(some 3), none, true, .mv (.t 19)⟩])
      (.skip)))))
  (.region [⟨(some 20), none, true, .bin .add .no (.t 8) (.c (.int .i64 1))⟩,
    ⟨(some 8), none, true, .mv (.t 20)⟩])))
def burrowref34_Inputsc1 : ACode :=
  .seq (.region [⟨(some 21), none, true, .mv (.t 3)⟩,
      ⟨(some 2), none, true, .mv (.t 21)⟩])
  (.ret)
def burrowref34_Inputs : AFun := ⟨22, [.mv (.t 2)],
  .seq (.region [⟨(some 2), none, true, .mv (.c (.sl 22 [] true))⟩])
  (.seq (.region [⟨(some 3), none, true, .mv (.c (.sl 22 [] true))⟩])
  (.seq (.seq (.region [⟨(some 6), none, true, .mv (.t 0)⟩,
        ⟨(some 7), none, true, .len (.t 6)⟩,
        ⟨(some 8), none, true, .mv (.c (.int .i64 0))⟩])
    (.block 0 (.loop burrowref34_Inputsl0)))
  burrowref34_Inputsc1))⟩
/- burrow/burrowlaw34.begun -/

def burrowlaw34_begun : AFun := ⟨39, [.mv (.t 0)],
  .seq (.region [⟨(some 0), none, true, .mv (.c (.bl false))⟩])
  (.seq (.region [⟨(some 6), none, false, .build (.st 22 [(.int .i64 0), (.st 18 [(.st 17 [(.bl false), (.ar 1 16 (zr 16 (.int .u8 0)))]), (.int .i64 0)]), (.sl 1 [] true), (.int .i64 0), (.str [])]) [(0, (.c (.int .i64 1)))]⟩,
      ⟨(some 7), none, false, .build (.st 22 [(.int .i64 0), (.st 18 [(.st 17 [(.bl false), (.ar 1 16 (zr 16 (.int .u8 0)))]), (.int .i64 0)]), (.sl 1 [] true), (.int .i64 0), (.str [])]) [(0, (.c (.int .i64 2)))]⟩,
      ⟨(some 8), none, false, .build (.st 22 [(.int .i64 0), (.st 18 [(.st 17 [(.bl false), (.ar 1 16 (zr 16 (.int .u8 0)))]), (.int .i64 0)]), (.sl 1 [] true), (.int .i64 0), (.str [])]) [(0, (.c (.int .i64 3)))]⟩,
      ⟨(some 1), none, false, .alloc (.st 22 [(.int .i64 0), (.st 18 [(.st 17 [(.bl false), (.ar 1 16 (zr 16 (.int .u8 0)))]), (.int .i64 0)]), (.sl 1 [] true), (.int .i64 0), (.str [])])⟩,
      ⟨(some 2), none, false, .alloc (.st 22 [(.int .i64 0), (.st 18 [(.st 17 [(.bl false), (.ar 1 16 (zr 16 (.int .u8 0)))]), (.int .i64 0)]), (.sl 1 [] true), (.int .i64 0), (.str [])])⟩,
      ⟨(some 3), none, false, .alloc (.st 22 [(.int .i64 0), (.st 18 [(.st 17 [(.bl false), (.ar 1 16 (zr 16 (.int .u8 0)))]), (.int .i64 0)]), (.sl 1 [] true), (.int .i64 0), (.str [])])⟩,
      ⟨none, none, false, .store 22 (.t 1) (.t 6)⟩,
      ⟨none, none, false, .store 22 (.t 2) (.t 7)⟩,
      ⟨none, none, false, .store 22 (.t 3) (.t 8)⟩])
  (.seq (.region [⟨(some 10), none, true, .load true 22 (.t 2)⟩,
      ⟨(some 11), none, false, .buildSlice false 22 (.st 22 [(.int .i64 0), (.st 18 [(.st 17 [(.bl false), (.ar 1 16 (zr 16 (.int .u8 0)))]), (.int .i64 0)]), (.sl 1 [] true), (.int .i64 0), (.str [])]) 1 [(0, (.t 10))]⟩,
      ⟨(some 12), none, true, .load true 22 (.t 1)⟩,
      ⟨(some 13), none, true, .load true 22 (.t 2)⟩,
      ⟨(some 14), none, true, .load true 22 (.t 3)⟩,
      ⟨(some 15), none, false, .buildSlice false 22 (.st 22 [(.int .i64 0), (.st 18 [(.st 17 [(.bl false), (.ar 1 16 (zr 16 (.int .u8 0)))]), (.int .i64 0)]), (.sl 1 [] true), (.int .i64 0), (.str [])]) 3 [(0, (.t 12)), (1, (.t 13)), (2, (.t 14))]⟩,
      ⟨(some 16), none, false, .call (.c (.fn (.func I.explain_Within) [] [])) [(.t 11), (.t 15)]⟩,
      ⟨(some 9), none, true, .mv (.t 16)⟩,
      ⟨(some 17), none, true, .extract 0 (.t 9)⟩,
      ⟨(some 18), none, true, .extract 1 (.t 9)⟩,
      ⟨(some 4), none, true, .mv (.t 17)⟩,
      ⟨(some 5), none, true, .mv (.t 18)⟩])
  (.seq (.region [⟨(some 19), none, true, .mv (.t 5)⟩,
      ⟨(some 20), none, true, .mv (.t 19)⟩,
      ⟨(some 21), (some (20, true)), true, .mv (.t 4)⟩,
      ⟨(some 22), (some (20, true)), true, .len (.t 21)⟩,
      ⟨(some 23), (some (20, true)), true, .bin .eql .no (.t 22) (.c (.int .i64 2))⟩,
      ⟨(some 24), none, true, .pick (.t 20) (.t 23) (.c (.bl false))⟩,
      ⟨(some 25), none, true, .mv (.t 24)⟩,
      ⟨(some 26), (some (25, true)), true, .mv (.t 4)⟩,
      ⟨(some 27), (some (25, true)), false, .indexA (.sl 22) (.t 26) (.c (.int .i64 0))⟩,
      ⟨(some 28), (some (25, true)), false, .fieldA 0 0 (.t 27)⟩,
      ⟨(some 29), (some (25, true)), false, .load false 1 (.t 28)⟩,
      ⟨(some 30), (some (25, true)), false, .bin .eql .no (.t 29) (.c (.int .i64 1))⟩,
      ⟨(some 31), none, true, .pick (.t 25) (.t 30) (.c (.bl false))⟩,
      ⟨(some 32), none, true, .mv (.t 31)⟩,
      ⟨(some 33), (some (32, true)), true, .mv (.t 4)⟩,
      ⟨(some 34), (some (32, true)), false, .indexA (.sl 22) (.t 33) (.c (.int .i64 1))⟩,
      ⟨(some 35), (some (32, true)), false, .fieldA 0 0 (.t 34)⟩,
      ⟨(some 36), (some (32, true)), false, .load false 1 (.t 35)⟩,
      ⟨(some 37), (some (32, true)), false, .bin .eql .no (.t 36) (.c (.int .i64 3))⟩,
      ⟨(some 38), none, true, .pick (.t 32) (.t 37) (.c (.bl false))⟩,
      ⟨(some 0), none, true, .mv (.t 38)⟩])
  (.ret))))⟩
/- burrow/stage.cloned -/
def stage_clonedl0 : ACode :=
  .seq (.region [⟨(some 9), none, true, .bin .lss .no (.t 8) (.t 7)⟩])
  (.seq (.cond (.t 9)
      (.skip)
      (.exit 0))
  (.seq (.block 1 (.seq (.region [⟨(some 10), none, false, .indexA (.sl 1) (.t 6) (.t 8)⟩,
        ⟨(some 11), none, true, .load false 1 (.t 10)⟩,
        ⟨(some 5), none, true, .mv (.t 11)⟩])
    (.region [⟨(some 12), none, true, .mv (.t 3)⟩,
      ⟨(some 13), none, true, .mv (.t 5)⟩,
      ⟨(some 14), none, false, .call (.c (.fn (.func I.slices_Clone_byte_byte) [] [])) [(.t 13)]⟩,
      ⟨(some 15), none, false, .buildSlice false 1 (.sl 1 [] true) 1 [(0, (.t 14))]⟩,
      ⟨(some 16), none, false, .append 1 24 false (.t 12) (.t 15)⟩,
      ⟨(some 3), none, true, .mv (.t 16)⟩])))
  (.region [⟨(some 17), none, true, .bin .add .no (.t 8) (.c (.int .i64 1))⟩,
    ⟨(some 8), none, true, .mv (.t 17)⟩])))
def stage_clonedc1 : ACode :=
  .seq (.region [⟨(some 18), none, true, .mv (.t 3)⟩,
      ⟨(some 2), none, true, .mv (.t 18)⟩])
  (.ret)
def stage_cloned : AFun := ⟨19, [.mv (.t 2)],
  .seq (.region [⟨(some 2), none, true, .mv (.c (.sl 1 [] true))⟩])
  (.seq (.region [⟨(some 3), none, true, .mv (.c (.sl 1 [] true))⟩])
  (.seq (.seq (.region [⟨(some 6), none, true, .mv (.t 0)⟩,
        ⟨(some 7), none, true, .len (.t 6)⟩,
        ⟨(some 8), none, true, .mv (.c (.int .i64 0))⟩])
    (.block 0 (.loop stage_clonedl0)))
  stage_clonedc1))⟩
/- slices.Clone[[]byte,byte] -/

def slices_Clone_byte_byte : AFun := ⟨8, [.mv (.t 2)],
  .seq (.region [⟨(some 2), none, true, .mv (.c (.sl 1 [] true))⟩])
  (.seq (.seq (.region [⟨(some 3), none, true, .mv (.t 0)⟩,
        ⟨(some 4), none, false, .isNil false (.t 3)⟩])
    (.cond (.t 4)
      (.seq (.region [⟨(some 2), none, true, .mv (.c (.sl 1 [] true))⟩])
      (.ret))
      (.skip)))
  (.seq (.region [⟨(some 5), none, false, .buildSlice false 1 (.int .u8 0) 0 []⟩,
      ⟨(some 6), none, true, .mv (.t 0)⟩,
      ⟨(some 7), none, false, .append 1 1 false (.t 5) (.t 6)⟩,
      ⟨(some 2), none, true, .mv (.t 7)⟩])
  (.ret)))⟩
/- (burrow/explain.event).same -/

def explain_event_same : AFun := ⟨43, [.mv (.t 4)],
  .seq (.region [⟨(some 2), none, false, .box (.t 0)⟩,
      ⟨(some 3), none, false, .box (.t 1)⟩,
      ⟨(some 4), none, true, .mv (.c (.bl false))⟩])
  (.seq (.region [⟨(some 5), none, true, .fieldA 0 0 (.t 2)⟩,
      ⟨(some 6), none, true, .fieldA 0 0 (.t 5)⟩,
      ⟨(some 7), none, true, .load false 1 (.t 6)⟩,
      ⟨(some 8), none, true, .fieldA 0 0 (.t 3)⟩,
      ⟨(some 9), none, true, .load false 1 (.t 8)⟩,
      ⟨(some 10), none, true, .bin .eql .no (.t 7) (.t 9)⟩,
      ⟨(some 11), none, true, .mv (.t 10)⟩,
      ⟨(some 12), (some (11, true)), true, .fieldA 0 0 (.t 2)⟩,
      ⟨(some 13), (some (11, true)), true, .fieldA 1 1 (.t 12)⟩,
      ⟨(some 14), (some (11, true)), true, .load true 18 (.t 13)⟩,
      ⟨(some 15), (some (11, true)), true, .fieldA 1 1 (.t 3)⟩,
      ⟨(some 16), (some (11, true)), true, .load true 18 (.t 15)⟩,
      ⟨(some 17), (some (11, true)), true, .bin .eql (.sh (.st [(.st [.b, (.ar 16 (.i .u8))]), (.i .i64)])) (.t 14) (.t 16)⟩,
      ⟨(some 18), none, true, .pick (.t 11) (.t 17) (.c (.bl false))⟩,
      ⟨(some 19), none, true, .mv (.t 18)⟩,
      ⟨(some 20), (some (19, true)), true, .fieldA 0 0 (.t 2)⟩,
      ⟨(some 21), (some (19, true)), true, .fieldA 3 20 (.t 20)⟩,
      ⟨(some 22), (some (19, true)), true, .load false 1 (.t 21)⟩,
      ⟨(some 23), (some (19, true)), true, .fieldA 3 20 (.t 3)⟩,
      ⟨(some 24), (some (19, true)), true, .load false 1 (.t 23)⟩,
      ⟨(some 25), (some (19, true)), true, .bin .eql .no (.t 22) (.t 24)⟩,
      ⟨(some 26), none, true, .pick (.t 19) (.t 25) (.c (.bl false))⟩,
      ⟨(some 27), none, true, .mv (.t 26)⟩,
      ⟨(some 28), (some (27, true)), true, .fieldA 0 0 (.t 2)⟩,
      ⟨(some 29), (some (27, true)), true, .fieldA 4 21 (.t 28)⟩,
      ⟨(some 30), (some (27, true)), true, .load false 1 (.t 29)⟩,
      ⟨(some 31), (some (27, true)), true, .fieldA 4 21 (.t 3)⟩,
      ⟨(some 32), (some (27, true)), true, .load false 1 (.t 31)⟩,
      ⟨(some 33), (some (27, true)), true, .bin .eql .no (.t 30) (.t 32)⟩,
      ⟨(some 34), none, true, .pick (.t 27) (.t 33) (.c (.bl false))⟩,
      ⟨(some 35), none, true, .mv (.t 34)⟩,
      ⟨(some 36), (some (35, true)), true, .fieldA 0 0 (.t 2)⟩,
      ⟨(some 37), (some (35, true)), true, .fieldA 2 19 (.t 36)⟩,
      ⟨(some 38), (some (35, true)), true, .load false 1 (.t 37)⟩,
      ⟨(some 39), (some (35, true)), true, .fieldA 2 19 (.t 3)⟩,
      ⟨(some 40), (some (35, true)), true, .load false 1 (.t 39)⟩,
      ⟨(some 41), (some (35, true)), false, .call (.c (.fn (.func I.bytes_Equal) [] [])) [(.t 38), (.t 40)]⟩,
      ⟨(some 42), none, true, .pick (.t 35) (.t 41) (.c (.bl false))⟩,
      ⟨(some 4), none, true, .mv (.t 42)⟩])
  (.ret))⟩
/- burrow/own.Event -/

def own_Event : AFun := ⟨8, [.load true 22 (.t 2)],
  .seq (.region [⟨(some 1), none, false, .box (.t 0)⟩,
      ⟨(some 2), none, false, .alloc (.st 22 [(.int .i64 0), (.st 18 [(.st 17 [(.bl false), (.ar 1 16 (zr 16 (.int .u8 0)))]), (.int .i64 0)]), (.sl 1 [] true), (.int .i64 0), (.str [])])⟩])
  (.seq (.region [⟨(some 3), none, true, .fieldA 2 19 (.t 1)⟩,
      ⟨(some 4), none, true, .load false 1 (.t 3)⟩,
      ⟨(some 5), none, false, .call (.c (.fn (.func I.slices_Clone_byte_byte) [] [])) [(.t 4)]⟩,
      ⟨(some 6), none, true, .fieldA 2 19 (.t 1)⟩,
      ⟨none, none, false, .store 1 (.t 6) (.t 5)⟩])
  (.seq (.region [⟨(some 7), none, true, .load true 22 (.t 1)⟩,
      ⟨none, none, false, .store 22 (.t 2) (.t 7)⟩])
  (.ret)))⟩
/- burrow/burrowref31.SameEvent -/

def burrowref31_SameEvent : AFun := ⟨40, [.mv (.t 4)],
  .seq (.region [⟨(some 2), none, false, .box (.t 0)⟩,
      ⟨(some 3), none, false, .box (.t 1)⟩,
      ⟨(some 4), none, true, .mv (.c (.bl false))⟩])
  (.seq (.region [⟨(some 5), none, true, .fieldA 0 0 (.t 2)⟩,
      ⟨(some 6), none, true, .load false 1 (.t 5)⟩,
      ⟨(some 7), none, true, .fieldA 0 0 (.t 3)⟩,
      ⟨(some 8), none, true, .load false 1 (.t 7)⟩,
      ⟨(some 9), none, true, .bin .eql .no (.t 6) (.t 8)⟩,
      ⟨(some 10), none, true, .mv (.t 9)⟩,
      ⟨(some 11), (some (10, true)), true, .fieldA 1 1 (.t 2)⟩,
      ⟨(some 12), (some (10, true)), true, .load true 18 (.t 11)⟩,
      ⟨(some 13), (some (10, true)), true, .fieldA 1 1 (.t 3)⟩,
      ⟨(some 14), (some (10, true)), true, .load true 18 (.t 13)⟩,
      ⟨(some 15), (some (10, true)), true, .bin .eql (.sh (.st [(.st [.b, (.ar 16 (.i .u8))]), (.i .i64)])) (.t 12) (.t 14)⟩,
      ⟨(some 16), none, true, .pick (.t 10) (.t 15) (.c (.bl false))⟩,
      ⟨(some 17), none, true, .mv (.t 16)⟩,
      ⟨(some 18), (some (17, true)), true, .fieldA 2 19 (.t 2)⟩,
      ⟨(some 19), (some (17, true)), true, .load false 1 (.t 18)⟩,
      ⟨(some 20), (some (17, true)), true, .convS (.t 19)⟩,
      ⟨(some 21), (some (17, true)), true, .fieldA 2 19 (.t 3)⟩,
      ⟨(some 22), (some (17, true)), true, .load false 1 (.t 21)⟩,
      ⟨(some 23), (some (17, true)), true, .convS (.t 22)⟩,
      ⟨(some 24), (some (17, true)), true, .bin .eql .no (.t 20) (.t 23)⟩,
      ⟨(some 25), none, true, .pick (.t 17) (.t 24) (.c (.bl false))⟩,
      ⟨(some 26), none, true, .mv (.t 25)⟩,
      ⟨(some 27), (some (26, true)), true, .fieldA 3 20 (.t 2)⟩,
      ⟨(some 28), (some (26, true)), true, .load false 1 (.t 27)⟩,
      ⟨(some 29), (some (26, true)), true, .fieldA 3 20 (.t 3)⟩,
      ⟨(some 30), (some (26, true)), true, .load false 1 (.t 29)⟩,
      ⟨(some 31), (some (26, true)), true, .bin .eql .no (.t 28) (.t 30)⟩,
      ⟨(some 32), none, true, .pick (.t 26) (.t 31) (.c (.bl false))⟩,
      ⟨(some 33), none, true, .mv (.t 32)⟩,
      ⟨(some 34), (some (33, true)), true, .fieldA 4 21 (.t 2)⟩,
      ⟨(some 35), (some (33, true)), true, .load false 1 (.t 34)⟩,
      ⟨(some 36), (some (33, true)), true, .fieldA 4 21 (.t 3)⟩,
      ⟨(some 37), (some (33, true)), true, .load false 1 (.t 36)⟩,
      ⟨(some 38), (some (33, true)), true, .bin .eql .no (.t 35) (.t 37)⟩,
      ⟨(some 39), none, true, .pick (.t 33) (.t 38) (.c (.bl false))⟩,
      ⟨(some 4), none, true, .mv (.t 39)⟩])
  (.ret))⟩
/- bytes.Equal -/

def bytes_Equal : AFun := ⟨10, [.mv (.t 4)],
  .seq (.region [⟨(some 4), none, true, .mv (.c (.bl false))⟩])
  (.seq (.region [⟨(some 5), none, true, .mv (.t 0)⟩,
      ⟨(some 6), none, true, .convS (.t 5)⟩,
      ⟨(some 7), none, true, .mv (.t 1)⟩,
      ⟨(some 8), none, true, .convS (.t 7)⟩,
      ⟨(some 9), none, true, .bin .eql .no (.t 6) (.t 8)⟩,
      ⟨(some 4), none, true, .mv (.t 9)⟩])
  (.ret))⟩
end Go.Ab.F
