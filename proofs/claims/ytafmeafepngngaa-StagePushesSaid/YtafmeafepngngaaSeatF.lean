/- The program's functions as the abstract reading has them, and their numbers. Written by program. No condition. -/
import Derived.Test.YtafmeafepngngaaA4
namespace Go.Ab.I
def burrowlaw18_StageOrders : FuncId := 3
def burrowlaw18_StagePushes : FuncId := 5
def burrowlaw18_cut : FuncId := 9
def stage_Push : FuncId := 10
def stage_Pop : FuncId := 11
def burrowlaw18_begun : FuncId := 12
def burrowcase_Cut : FuncId := 19
def burrowcase_Mod : FuncId := 20
def burrowref14_Push : FuncId := 21
def burrowlaw18_same : FuncId := 22
def burrowref14_Pop : FuncId := 23
def stage_Size : FuncId := 24
def burrowref14_Size : FuncId := 25
def stage_cloned : FuncId := 46
def slices_Clone_byte_byte : FuncId := 47
end Go.Ab.I
namespace Go.Ab.F
open Go.Ab
/- burrow/burrowlaw18.StageOrders -/
def burrowlaw18_StageOrdersl0 : ACode :=
  .seq (.region [⟨(some 30), none, true, .bin .lss .no (.t 29) (.t 28)⟩])
  (.seq (.cond (.t 30)
      (.skip)
      (.exit 0))
  (.seq (.block 1 (.seq (.region [⟨(some 31), none, false, .indexA (.sl 1) (.t 27) (.t 29)⟩,
        ⟨(some 32), none, true, .load false 1 (.t 31)⟩,
        ⟨(some 10), none, true, .mv (.t 32)⟩])
    (.seq (.region [⟨(some 34), none, true, .mv (.t 7)⟩,
        ⟨(some 35), none, true, .mv (.t 6)⟩,
        ⟨(some 36), none, true, .mv (.t 10)⟩,
        ⟨(some 37), none, false, .call (.c (.fn (.func I.stage_Push) [] [])) [(.t 34), (.t 35), (.t 36)]⟩,
        ⟨(some 33), none, true, .mv (.t 37)⟩,
        ⟨(some 38), none, true, .extract 0 (.t 33)⟩,
        ⟨(some 39), none, true, .extract 1 (.t 33)⟩,
        ⟨(some 11), none, true, .mv (.t 38)⟩,
        ⟨(some 12), none, true, .mv (.t 39)⟩])
    (.region [⟨(some 40), none, true, .mv (.t 11)⟩,
      ⟨(some 41), none, true, .mv (.t 8)⟩,
      ⟨(some 42), none, true, .mv (.t 12)⟩,
      ⟨(some 43), none, true, .bin .add .no (.t 41) (.t 42)⟩,
      ⟨(some 7), none, true, .mv (.t 40)⟩,
      ⟨(some 8), none, true, .mv (.t 43)⟩]))))
  (.region [⟨(some 44), none, true, .bin .add .no (.t 29) (.c (.int .i64 1))⟩,
    ⟨(some 29), none, true, .mv (.t 44)⟩])))
def burrowlaw18_StageOrdersl1 : ACode :=
  .seq (.region [⟨(some 57), none, true, .bin .lss .no (.t 56) (.t 55)⟩])
  (.seq (.cond (.t 57)
      (.skip)
      (.exit 2))
  (.seq (.block 3 (.seq (.region [⟨(some 58), none, false, .indexA (.sl 1) (.t 54) (.t 56)⟩,
        ⟨(some 59), none, true, .load false 1 (.t 58)⟩,
        ⟨(some 14), none, true, .mv (.t 59)⟩])
    (.seq (.region [⟨(some 61), none, true, .mv (.t 7)⟩,
        ⟨(some 62), none, false, .call (.c (.fn (.func I.stage_Pop) [] [])) [(.t 61)]⟩,
        ⟨(some 60), none, true, .mv (.t 62)⟩,
        ⟨(some 63), none, true, .extract 0 (.t 60)⟩,
        ⟨(some 64), none, true, .extract 1 (.t 60)⟩,
        ⟨(some 65), none, true, .extract 2 (.t 60)⟩,
        ⟨(some 15), none, true, .mv (.t 63)⟩,
        ⟨(some 16), none, true, .mv (.t 64)⟩,
        ⟨(some 17), none, true, .mv (.t 65)⟩])
    (.seq (.seq (.region [⟨(some 66), none, true, .mv (.t 17)⟩,
          ⟨(some 67), none, true, .un .not (.t 66)⟩,
          ⟨(some 68), none, true, .mv (.t 67)⟩,
          ⟨(some 69), (some (68, false)), true, .mv (.t 15)⟩,
          ⟨(some 70), (some (68, false)), true, .convS (.t 69)⟩,
          ⟨(some 71), (some (68, false)), true, .mv (.t 14)⟩,
          ⟨(some 72), (some (68, false)), true, .convS (.t 71)⟩,
          ⟨(some 73), (some (68, false)), true, .bin .neq .no (.t 70) (.t 72)⟩,
          ⟨(some 74), none, true, .pick (.t 68) (.c (.bl true)) (.t 73)⟩,
          ⟨(some 75), none, true, .mv (.t 74)⟩,
          ⟨(some 76), (some (75, false)), true, .mv (.t 16)⟩,
          ⟨(some 77), (some (75, false)), true, .len (.t 76)⟩,
          ⟨(some 78), (some (75, false)), true, .mv (.t 7)⟩,
          ⟨(some 79), (some (75, false)), true, .len (.t 78)⟩,
          ⟨(some 80), (some (75, false)), true, .bin .sub .no (.t 79) (.c (.int .i64 1))⟩,
          ⟨(some 81), (some (75, false)), true, .bin .neq .no (.t 77) (.t 80)⟩,
          ⟨(some 82), none, true, .pick (.t 75) (.c (.bl true)) (.t 81)⟩])
      (.cond (.t 82)
        (.seq (.region [⟨(some 4), none, true, .mv (.c (.bl false))⟩])
        (.ret))
        (.skip)))
    (.region [⟨(some 83), none, true, .mv (.t 16)⟩,
      ⟨(some 7), none, true, .mv (.t 83)⟩])))))
  (.region [⟨(some 84), none, true, .bin .add .no (.t 56) (.c (.int .i64 1))⟩,
    ⟨(some 56), none, true, .mv (.t 84)⟩])))
def burrowlaw18_StageOrdersc2 : ACode :=
  .seq (.region [⟨(some 86), none, true, .mv (.t 7)⟩,
      ⟨(some 87), none, false, .call (.c (.fn (.func I.stage_Pop) [] [])) [(.t 86)]⟩,
      ⟨(some 85), none, true, .mv (.t 87)⟩,
      ⟨(some 88), none, true, .extract 0 (.t 85)⟩,
      ⟨(some 89), none, true, .extract 1 (.t 85)⟩,
      ⟨(some 90), none, true, .extract 2 (.t 85)⟩,
      ⟨(some 18), none, true, .mv (.t 88)⟩,
      ⟨(some 19), none, true, .mv (.t 89)⟩,
      ⟨(some 20), none, true, .mv (.t 90)⟩])
  (.seq (.region [⟨(some 91), none, true, .mv (.t 20)⟩,
      ⟨(some 92), none, true, .un .not (.t 91)⟩,
      ⟨(some 93), none, true, .mv (.t 92)⟩,
      ⟨(some 94), (some (93, true)), false, .call (.c (.fn (.func I.burrowlaw18_begun) [] [])) []⟩,
      ⟨(some 95), none, true, .pick (.t 93) (.t 94) (.c (.bl false))⟩,
      ⟨(some 4), none, true, .mv (.t 95)⟩])
  (.ret))
def burrowlaw18_StageOrdersc3 : ACode :=
  .seq (.seq (.region [⟨(some 45), none, true, .mv (.t 8)⟩,
        ⟨(some 46), none, true, .mv (.t 5)⟩,
        ⟨(some 47), none, true, .len (.t 46)⟩,
        ⟨(some 48), none, true, .mv (.t 6)⟩,
        ⟨(some 49), none, true, .bin .sub .no (.t 47) (.t 48)⟩,
        ⟨(some 50), none, true, .mm true [(.c (.int .i64 0)), (.t 49)]⟩,
        ⟨(some 51), none, true, .bin .neq .no (.t 45) (.t 50)⟩])
    (.cond (.t 51)
      (.seq (.region [⟨(some 4), none, true, .mv (.c (.bl false))⟩])
      (.ret))
      (.skip)))
  (.seq (.seq (.region [⟨(some 52), none, true, .mv (.t 5)⟩,
        ⟨(some 53), none, true, .mv (.t 8)⟩,
        ⟨(some 54), none, false, .slice (.sl 1) (.t 52) (some (.t 53)) none none⟩,
        ⟨(some 55), none, true, .len (.t 54)⟩,
        ⟨(some 56), none, true, .mv (.c (.int .i64 0))⟩])
    (.block 2 (.loop burrowlaw18_StageOrdersl1)))
  burrowlaw18_StageOrdersc2)
def burrowlaw18_StageOrders : AFun := ⟨96, [.mv (.t 4)],
  .seq (.region [⟨(some 4), none, true, .mv (.c (.bl false))⟩])
  (.seq (.region [⟨(some 21), none, true, .mv (.t 0)⟩,
      ⟨(some 22), none, false, .call (.c (.fn (.func I.burrowlaw18_cut) [] [])) [(.t 21)]⟩,
      ⟨(some 5), none, true, .mv (.t 22)⟩])
  (.seq (.region [⟨(some 23), none, true, .mv (.t 1)⟩,
      ⟨(some 24), none, true, .convI .i64 (.t 23)⟩,
      ⟨(some 25), none, false, .bin .rem .no (.t 24) (.c (.int .i64 6))⟩,
      ⟨(some 26), none, true, .bin .add .no (.c (.int .i64 1)) (.t 25)⟩,
      ⟨(some 6), none, true, .mv (.t 26)⟩])
  (.seq (.region [⟨(some 7), none, true, .mv (.c (.sl 1 [] true))⟩])
  (.seq (.region [⟨(some 8), none, true, .mv (.c (.int .i64 0))⟩])
  (.seq (.seq (.region [⟨(some 27), none, true, .mv (.t 5)⟩,
        ⟨(some 28), none, true, .len (.t 27)⟩,
        ⟨(some 29), none, true, .mv (.c (.int .i64 0))⟩])
    (.block 0 (.loop burrowlaw18_StageOrdersl0)))
  burrowlaw18_StageOrdersc3)))))⟩
/- burrow/burrowlaw18.StagePushes -/
def burrowlaw18_StagePushesl0 : ACode :=
  .seq (.region [⟨(some 32), none, true, .bin .lss .no (.t 31) (.t 30)⟩])
  (.seq (.cond (.t 32)
      (.skip)
      (.exit 0))
  (.seq (.block 1 (.seq (.region [⟨(some 33), none, false, .indexA (.sl 1) (.t 29) (.t 31)⟩,
        ⟨(some 34), none, true, .load false 1 (.t 33)⟩,
        ⟨(some 10), none, true, .mv (.t 34)⟩])
    (.seq (.region [⟨(some 36), none, true, .mv (.t 7)⟩,
        ⟨(some 37), none, true, .mv (.t 10)⟩,
        ⟨(some 38), none, true, .mv (.t 8)⟩,
        ⟨(some 39), none, false, .call (.c (.fn (.func I.stage_Push) [] [])) [(.t 36), (.t 37), (.t 38)]⟩,
        ⟨(some 35), none, true, .mv (.t 39)⟩,
        ⟨(some 40), none, true, .extract 0 (.t 35)⟩,
        ⟨(some 41), none, true, .extract 1 (.t 35)⟩,
        ⟨(some 11), none, true, .mv (.t 40)⟩,
        ⟨(some 12), none, true, .mv (.t 41)⟩])
    (.seq (.region [⟨(some 43), none, true, .mv (.t 7)⟩,
        ⟨(some 44), none, true, .mv (.t 10)⟩,
        ⟨(some 45), none, true, .mv (.t 8)⟩,
        ⟨(some 46), none, false, .call (.c (.fn (.func I.burrowref14_Push) [] [])) [(.t 43), (.t 44), (.t 45)]⟩,
        ⟨(some 42), none, true, .mv (.t 46)⟩,
        ⟨(some 47), none, true, .extract 0 (.t 42)⟩,
        ⟨(some 48), none, true, .extract 1 (.t 42)⟩,
        ⟨(some 13), none, true, .mv (.t 47)⟩,
        ⟨(some 14), none, true, .mv (.t 48)⟩])
    (.seq (.region [⟨(some 49), none, true, .mv (.t 12)⟩,
        ⟨(some 50), none, true, .mv (.t 14)⟩,
        ⟨(some 51), none, true, .bin .neq .no (.t 49) (.t 50)⟩,
        ⟨(some 52), none, true, .mv (.t 51)⟩,
        ⟨(some 53), (some (52, false)), true, .mv (.t 11)⟩,
        ⟨(some 54), (some (52, false)), true, .mv (.t 13)⟩,
        ⟨(some 55), (some (52, false)), false, .call (.c (.fn (.func I.burrowlaw18_same) [] [])) [(.t 53), (.t 54)]⟩,
        ⟨(some 56), (some (52, false)), true, .un .not (.t 55)⟩,
        ⟨(some 57), none, true, .pick (.t 52) (.c (.bl true)) (.t 56)⟩])
    (.cond (.t 57)
      (.seq (.region [⟨(some 6), none, true, .mv (.c (.bl false))⟩])
      (.ret))
      (.skip)))))))
  (.region [⟨(some 58), none, true, .bin .add .no (.t 31) (.c (.int .i64 1))⟩,
    ⟨(some 31), none, true, .mv (.t 58)⟩])))
def burrowlaw18_StagePushesc1 : ACode :=
  .seq (.region [⟨(some 60), none, true, .mv (.t 7)⟩,
      ⟨(some 61), none, false, .call (.c (.fn (.func I.stage_Pop) [] [])) [(.t 60)]⟩,
      ⟨(some 59), none, true, .mv (.t 61)⟩,
      ⟨(some 62), none, true, .extract 0 (.t 59)⟩,
      ⟨(some 63), none, true, .extract 1 (.t 59)⟩,
      ⟨(some 64), none, true, .extract 2 (.t 59)⟩,
      ⟨(some 15), none, true, .mv (.t 62)⟩,
      ⟨(some 16), none, true, .mv (.t 63)⟩,
      ⟨(some 17), none, true, .mv (.t 64)⟩])
  (.seq (.region [⟨(some 66), none, true, .mv (.t 7)⟩,
      ⟨(some 67), none, false, .call (.c (.fn (.func I.burrowref14_Pop) [] [])) [(.t 66)]⟩,
      ⟨(some 65), none, true, .mv (.t 67)⟩,
      ⟨(some 68), none, true, .extract 0 (.t 65)⟩,
      ⟨(some 69), none, true, .extract 1 (.t 65)⟩,
      ⟨(some 70), none, true, .extract 2 (.t 65)⟩,
      ⟨(some 18), none, true, .mv (.t 68)⟩,
      ⟨(some 19), none, true, .mv (.t 69)⟩,
      ⟨(some 20), none, true, .mv (.t 70)⟩])
  (.seq (.region [⟨(some 71), none, true, .mv (.t 15)⟩,
      ⟨(some 72), none, true, .convS (.t 71)⟩,
      ⟨(some 73), none, true, .mv (.t 18)⟩,
      ⟨(some 74), none, true, .convS (.t 73)⟩,
      ⟨(some 75), none, true, .bin .eql .no (.t 72) (.t 74)⟩,
      ⟨(some 76), none, true, .mv (.t 75)⟩,
      ⟨(some 77), (some (76, true)), true, .mv (.t 16)⟩,
      ⟨(some 78), (some (76, true)), true, .mv (.t 19)⟩,
      ⟨(some 79), (some (76, true)), false, .call (.c (.fn (.func I.burrowlaw18_same) [] [])) [(.t 77), (.t 78)]⟩,
      ⟨(some 80), none, true, .pick (.t 76) (.t 79) (.c (.bl false))⟩,
      ⟨(some 81), none, true, .mv (.t 80)⟩,
      ⟨(some 82), (some (81, true)), true, .mv (.t 17)⟩,
      ⟨(some 83), (some (81, true)), true, .mv (.t 20)⟩,
      ⟨(some 84), (some (81, true)), true, .bin .eql .bl (.t 82) (.t 83)⟩,
      ⟨(some 85), none, true, .pick (.t 81) (.t 84) (.c (.bl false))⟩,
      ⟨(some 86), none, true, .mv (.t 85)⟩,
      ⟨(some 87), (some (86, true)), true, .mv (.t 7)⟩,
      ⟨(some 88), (some (86, true)), false, .call (.c (.fn (.func I.stage_Size) [] [])) [(.t 87)]⟩,
      ⟨(some 89), (some (86, true)), true, .mv (.t 7)⟩,
      ⟨(some 90), (some (86, true)), false, .call (.c (.fn (.func I.burrowref14_Size) [] [])) [(.t 89)]⟩,
      ⟨(some 91), (some (86, true)), true, .bin .eql .no (.t 88) (.t 90)⟩,
      ⟨(some 92), none, true, .pick (.t 86) (.t 91) (.c (.bl false))⟩,
      ⟨(some 93), none, true, .mv (.t 92)⟩,
      ⟨(some 94), (some (93, true)), false, .call (.c (.fn (.func I.burrowlaw18_begun) [] [])) []⟩,
      ⟨(some 95), none, true, .pick (.t 93) (.t 94) (.c (.bl false))⟩,
      ⟨(some 6), none, true, .mv (.t 95)⟩])
  (.ret)))
def burrowlaw18_StagePushes : AFun := ⟨96, [.mv (.t 6)],
  .seq (.region [⟨(some 6), none, true, .mv (.c (.bl false))⟩])
  (.seq (.region [⟨(some 21), none, true, .mv (.t 0)⟩,
      ⟨(some 22), none, false, .call (.c (.fn (.func I.burrowlaw18_cut) [] [])) [(.t 21)]⟩,
      ⟨(some 23), none, true, .mv (.t 2)⟩,
      ⟨(some 24), none, false, .call (.c (.fn (.func I.burrowcase_Cut) [] [])) [(.t 23), (.c (.int .i64 20))]⟩,
      ⟨(some 7), none, true, .mv (.t 22)⟩,
      ⟨(some 8), none, true, .mv (.t 24)⟩])
  (.seq (.seq (.region [⟨(some 25), none, true, .mv (.t 1)⟩,
        ⟨(some 26), none, true, .mv (.t 1)⟩,
        ⟨(some 27), none, false, .call (.c (.fn (.func I.burrowcase_Mod) [] [])) [(.t 26), (.c (.int .i64 14))]⟩,
        ⟨(some 28), none, true, .bin .sub .no (.t 27) (.c (.int .i64 1))⟩,
        ⟨(some 29), none, false, .buildSlice false 1 (.int .i64 0) 2 [(0, (.t 25)), (1, (.t 28))]⟩,
        ⟨(some 30), none, true, .len (.t 29)⟩,
        ⟨(some 31), none, true, .mv (.c (.int .i64 0))⟩])
    (.block 0 (.loop burrowlaw18_StagePushesl0)))
  burrowlaw18_StagePushesc1))⟩
/- burrow/burrowlaw18.cut -/
def burrowlaw18_cutl0 : ACode :=
  .seq (.region [⟨(some 13), none, true, .bin .lss .no (.t 12) (.t 11)⟩])
  (.seq (.cond (.t 13)
      (.skip)
      (.exit 0))
  (.seq (.block 1 (.seq (.region [⟨(some 14), none, false, .indexA (.sl 1) (.t 10) (.t 12)⟩,
        ⟨(some 15), none, true, .load false 1 (.t 14)⟩,
        ⟨(some 5), none, true, .mv (.t 15)⟩])
    (.region [⟨(some 16), none, true, .mv (.t 3)⟩,
      ⟨(some 17), none, true, .mv (.t 5)⟩,
      ⟨(some 18), none, false, .call (.c (.fn (.func I.burrowcase_Cut) [] [])) [(.t 17), (.c (.int .i64 20))]⟩,
      ⟨(some 19), none, false, .buildSlice false 1 (.sl 1 [] true) 1 [(0, (.t 18))]⟩,
      ⟨(some 20), none, false, .append 1 24 false (.t 16) (.t 19)⟩,
      ⟨(some 3), none, true, .mv (.t 20)⟩])))
  (.region [⟨(some 21), none, true, .bin .add .no (.t 12) (.c (.int .i64 1))⟩,
    ⟨(some 12), none, true, .mv (.t 21)⟩])))
def burrowlaw18_cutc1 : ACode :=
  .seq (.region [⟨(some 22), none, true, .mv (.t 3)⟩,
      ⟨(some 2), none, true, .mv (.t 22)⟩])
  (.ret)
def burrowlaw18_cut : AFun := ⟨23, [.mv (.t 2)],
  .seq (.region [⟨(some 2), none, true, .mv (.c (.sl 1 [] true))⟩])
  (.seq (.region [⟨(some 3), none, true, .mv (.c (.sl 1 [] true))⟩])
  (.seq (.seq (.region [⟨(some 6), none, true, .mv (.t 0)⟩,
        ⟨(some 7), none, true, .mv (.t 0)⟩,
        ⟨(some 8), none, true, .len (.t 7)⟩,
        ⟨(some 9), none, true, .mm false [(.t 8), (.c (.int .i64 12))]⟩,
        ⟨(some 10), none, false, .slice (.sl 1) (.t 6) none (some (.t 9)) none⟩,
        ⟨(some 11), none, true, .len (.t 10)⟩,
        ⟨(some 12), none, true, .mv (.c (.int .i64 0))⟩])
    (.block 0 (.loop burrowlaw18_cutl0)))
  burrowlaw18_cutc1))⟩
/- burrow/stage.Push -/

def stage_Push : AFun := ⟨30, [.mv (.t 6), .mv (.t 7)],
  .seq (.region [⟨(some 6), none, true, .mv (.c (.sl 1 [] true))⟩,
      ⟨(some 7), none, true, .mv (.c (.int .i64 0))⟩])
  (.seq (.region [⟨(some 11), none, true, .mv (.t 0)⟩,
      ⟨(some 12), none, false, .call (.c (.fn (.func I.stage_cloned) [] [])) [(.t 11)]⟩,
      ⟨(some 13), none, true, .mv (.t 2)⟩,
      ⟨(some 14), none, false, .call (.c (.fn (.func I.slices_Clone_byte_byte) [] [])) [(.t 13)]⟩,
      ⟨(some 15), none, false, .buildSlice false 1 (.sl 1 [] true) 1 [(0, (.t 14))]⟩,
      ⟨(some 16), none, false, .append 1 24 false (.t 12) (.t 15)⟩,
      ⟨(some 8), none, true, .mv (.t 16)⟩])
  (.seq (.region [⟨(some 17), none, true, .mv (.t 8)⟩,
      ⟨(some 18), none, true, .len (.t 17)⟩,
      ⟨(some 9), none, true, .mv (.t 18)⟩])
  (.seq (.region [⟨(some 19), none, true, .mv (.t 9)⟩,
      ⟨(some 20), none, true, .mv (.t 1)⟩,
      ⟨(some 21), none, true, .mm true [(.c (.int .i64 0)), (.t 20)]⟩,
      ⟨(some 22), none, true, .bin .sub .no (.t 19) (.t 21)⟩,
      ⟨(some 23), none, true, .mm true [(.c (.int .i64 0)), (.t 22)]⟩,
      ⟨(some 10), none, true, .mv (.t 23)⟩])
  (.seq (.region [⟨(some 24), none, true, .mv (.t 8)⟩,
      ⟨(some 25), none, true, .mv (.t 10)⟩,
      ⟨(some 26), none, true, .mv (.t 9)⟩,
      ⟨(some 27), none, true, .mv (.t 9)⟩,
      ⟨(some 28), none, false, .slice (.sl 1) (.t 24) (some (.t 25)) (some (.t 26)) (some (.t 27))⟩,
      ⟨(some 29), none, true, .mv (.t 10)⟩,
      ⟨(some 6), none, true, .mv (.t 28)⟩,
      ⟨(some 7), none, true, .mv (.t 29)⟩])
  (.ret)))))⟩
/- burrow/stage.Pop -/

def stage_Pop : AFun := ⟨20, [.mv (.t 2), .mv (.t 3), .mv (.t 4)],
  .seq (.region [⟨(some 2), none, true, .mv (.c (.sl 1 [] true))⟩,
      ⟨(some 3), none, true, .mv (.c (.sl 1 [] true))⟩,
      ⟨(some 4), none, true, .mv (.c (.bl false))⟩])
  (.seq (.seq (.region [⟨(some 6), none, true, .mv (.t 0)⟩,
        ⟨(some 7), none, true, .len (.t 6)⟩,
        ⟨(some 8), none, true, .bin .eql .no (.t 7) (.c (.int .i64 0))⟩])
    (.cond (.t 8)
      (.seq (.region [⟨(some 2), none, true, .mv (.c (.sl 1 [] true))⟩,
          ⟨(some 3), none, true, .mv (.c (.sl 1 [] true))⟩,
          ⟨(some 4), none, true, .mv (.c (.bl false))⟩])
      (.ret))
      (.skip)))
  (.seq (.region [⟨(some 9), none, true, .mv (.t 0)⟩,
      ⟨(some 10), none, false, .call (.c (.fn (.func I.stage_cloned) [] [])) [(.t 9)]⟩,
      ⟨(some 5), none, true, .mv (.t 10)⟩])
  (.seq (.region [⟨(some 11), none, true, .mv (.t 5)⟩,
      ⟨(some 12), none, false, .indexA (.sl 1) (.t 11) (.c (.int .i64 0))⟩,
      ⟨(some 13), none, true, .load false 1 (.t 12)⟩,
      ⟨(some 14), none, true, .mv (.t 5)⟩,
      ⟨(some 15), none, true, .mv (.t 5)⟩,
      ⟨(some 16), none, true, .len (.t 15)⟩,
      ⟨(some 17), none, true, .mv (.t 5)⟩,
      ⟨(some 18), none, true, .len (.t 17)⟩,
      ⟨(some 19), none, false, .slice (.sl 1) (.t 14) (some (.c (.int .i64 1))) (some (.t 16)) (some (.t 18))⟩,
      ⟨(some 2), none, true, .mv (.t 13)⟩,
      ⟨(some 3), none, true, .mv (.t 19)⟩,
      ⟨(some 4), none, true, .mv (.c (.bl true))⟩])
  (.ret))))⟩
/- burrow/burrowlaw18.begun -/

def burrowlaw18_begun : AFun := ⟨32, [.mv (.t 0)],
  .seq (.region [⟨(some 0), none, true, .mv (.c (.bl false))⟩])
  (.seq (.region [⟨(some 4), none, false, .buildSlice false 1 (.int .u8 0) 1 [(0, (.c (.int .u8 1)))]⟩,
      ⟨(some 5), none, false, .buildSlice false 1 (.int .u8 0) 1 [(0, (.c (.int .u8 2)))]⟩,
      ⟨(some 6), none, false, .buildSlice false 1 (.sl 1 [] true) 2 [(0, (.t 4)), (1, (.t 5))]⟩,
      ⟨(some 7), none, false, .buildSlice false 1 (.int .u8 0) 1 [(0, (.c (.int .u8 3)))]⟩,
      ⟨(some 8), none, false, .call (.c (.fn (.func I.stage_Push) [] [])) [(.t 6), (.c (.int .i64 2)), (.t 7)]⟩,
      ⟨(some 3), none, true, .mv (.t 8)⟩,
      ⟨(some 9), none, true, .extract 0 (.t 3)⟩,
      ⟨(some 10), none, true, .extract 1 (.t 3)⟩,
      ⟨(some 1), none, true, .mv (.t 9)⟩,
      ⟨(some 2), none, true, .mv (.t 10)⟩])
  (.seq (.region [⟨(some 11), none, true, .mv (.t 2)⟩,
      ⟨(some 12), none, true, .bin .eql .no (.t 11) (.c (.int .i64 1))⟩,
      ⟨(some 13), none, true, .mv (.t 12)⟩,
      ⟨(some 14), (some (13, true)), true, .mv (.t 1)⟩,
      ⟨(some 15), (some (13, true)), true, .len (.t 14)⟩,
      ⟨(some 16), (some (13, true)), true, .bin .eql .no (.t 15) (.c (.int .i64 2))⟩,
      ⟨(some 17), none, true, .pick (.t 13) (.t 16) (.c (.bl false))⟩,
      ⟨(some 18), none, true, .mv (.t 17)⟩,
      ⟨(some 19), (some (18, true)), true, .mv (.t 1)⟩,
      ⟨(some 20), (some (18, true)), false, .indexA (.sl 1) (.t 19) (.c (.int .i64 0))⟩,
      ⟨(some 21), (some (18, true)), true, .load false 1 (.t 20)⟩,
      ⟨(some 22), (some (18, true)), true, .convS (.t 21)⟩,
      ⟨(some 23), (some (18, true)), true, .bin .eql .no (.t 22) (.c (.str [2]))⟩,
      ⟨(some 24), none, true, .pick (.t 18) (.t 23) (.c (.bl false))⟩,
      ⟨(some 25), none, true, .mv (.t 24)⟩,
      ⟨(some 26), (some (25, true)), true, .mv (.t 1)⟩,
      ⟨(some 27), (some (25, true)), false, .indexA (.sl 1) (.t 26) (.c (.int .i64 1))⟩,
      ⟨(some 28), (some (25, true)), true, .load false 1 (.t 27)⟩,
      ⟨(some 29), (some (25, true)), true, .convS (.t 28)⟩,
      ⟨(some 30), (some (25, true)), true, .bin .eql .no (.t 29) (.c (.str [3]))⟩,
      ⟨(some 31), none, true, .pick (.t 25) (.t 30) (.c (.bl false))⟩,
      ⟨(some 0), none, true, .mv (.t 31)⟩])
  (.ret)))⟩
/- burrow/burrowcase.Cut -/

def burrowcase_Cut : AFun := ⟨11, [.mv (.t 4)],
  .seq (.region [⟨(some 4), none, true, .mv (.c (.sl 1 [] true))⟩])
  (.seq (.region [⟨(some 5), none, true, .mv (.t 0)⟩,
      ⟨(some 6), none, true, .mv (.t 0)⟩,
      ⟨(some 7), none, true, .len (.t 6)⟩,
      ⟨(some 8), none, true, .mv (.t 1)⟩,
      ⟨(some 9), none, true, .mm false [(.t 7), (.t 8)]⟩,
      ⟨(some 10), none, false, .slice (.sl 1) (.t 5) none (some (.t 9)) none⟩,
      ⟨(some 4), none, true, .mv (.t 10)⟩])
  (.ret))⟩
/- burrow/burrowcase.Mod -/

def burrowcase_Mod : AFun := ⟨14, [.mv (.t 4)],
  .seq (.region [⟨(some 4), none, true, .mv (.c (.int .i64 0))⟩])
  (.seq (.seq (.region [⟨(some 5), none, true, .mv (.t 1)⟩,
        ⟨(some 6), none, true, .bin .lss .no (.t 5) (.c (.int .i64 1))⟩])
    (.cond (.t 6)
      (.seq (.region [⟨(some 4), none, true, .mv (.c (.int .i64 0))⟩])
      (.ret))
      (.skip)))
  (.seq (.region [⟨(some 7), none, true, .mv (.t 0)⟩,
      ⟨(some 8), none, true, .mv (.t 1)⟩,
      ⟨(some 9), none, false, .bin .rem .no (.t 7) (.t 8)⟩,
      ⟨(some 10), none, true, .mv (.t 1)⟩,
      ⟨(some 11), none, true, .bin .add .no (.t 9) (.t 10)⟩,
      ⟨(some 12), none, true, .mv (.t 1)⟩,
      ⟨(some 13), none, false, .bin .rem .no (.t 11) (.t 12)⟩,
      ⟨(some 4), none, true, .mv (.t 13)⟩])
  (.ret)))⟩
/- burrow/burrowref14.Push -/
def burrowref14_Pushl0 : ACode :=
  .seq (.region [⟨(some 15), none, true, .bin .lss .no (.t 14) (.t 13)⟩])
  (.seq (.cond (.t 15)
      (.skip)
      (.exit 0))
  (.seq (.block 1 (.seq (.region [⟨(some 16), none, false, .indexA (.sl 1) (.t 12) (.t 14)⟩,
        ⟨(some 17), none, true, .load false 1 (.t 16)⟩,
        ⟨(some 10), none, true, .mv (.t 17)⟩])
    (.region [⟨(some 18), none, true, .mv (.t 8)⟩,
      ⟨(some 19), none, false, .buildSlice false 1 (.int .u8 0) 0 []⟩,
      ⟨(some 20), none, true, .mv (.t 10)⟩,
      ⟨(some 21), none, false, .append 1 1 false (.t 19) (.t 20)⟩,
      ⟨(some 22), none, false, .buildSlice false 1 (.sl 1 [] true) 1 [(0, (.t 21))]⟩,
      ⟨(some 23), none, false, .append 1 24 false (.t 18) (.t 22)⟩,
      ⟨(some 8), none, true, .mv (.t 23)⟩])))
  (.region [⟨(some 24), none, true, .bin .add .no (.t 14) (.c (.int .i64 1))⟩,
    ⟨(some 14), none, true, .mv (.t 24)⟩])))
def burrowref14_Pushc1 : ACode :=
  .seq (.region [⟨(some 25), none, true, .mv (.t 8)⟩,
      ⟨(some 26), none, false, .buildSlice false 1 (.int .u8 0) 0 []⟩,
      ⟨(some 27), none, true, .mv (.t 2)⟩,
      ⟨(some 28), none, false, .append 1 1 false (.t 26) (.t 27)⟩,
      ⟨(some 29), none, false, .buildSlice false 1 (.sl 1 [] true) 1 [(0, (.t 28))]⟩,
      ⟨(some 30), none, false, .append 1 24 false (.t 25) (.t 29)⟩,
      ⟨(some 8), none, true, .mv (.t 30)⟩])
  (.seq (.region [⟨(some 31), none, true, .mv (.t 8)⟩,
      ⟨(some 32), none, true, .len (.t 31)⟩,
      ⟨(some 33), none, true, .mv (.t 1)⟩,
      ⟨(some 34), none, true, .mm true [(.t 33), (.c (.int .i64 0))]⟩,
      ⟨(some 35), none, true, .bin .sub .no (.t 32) (.t 34)⟩,
      ⟨(some 36), none, true, .mm true [(.t 35), (.c (.int .i64 0))]⟩,
      ⟨(some 11), none, true, .mv (.t 36)⟩])
  (.seq (.region [⟨(some 37), none, true, .mv (.t 8)⟩,
      ⟨(some 38), none, true, .mv (.t 11)⟩,
      ⟨(some 39), none, false, .slice (.sl 1) (.t 37) (some (.t 38)) none none⟩,
      ⟨(some 40), none, true, .mv (.t 11)⟩,
      ⟨(some 6), none, true, .mv (.t 39)⟩,
      ⟨(some 7), none, true, .mv (.t 40)⟩])
  (.ret)))
def burrowref14_Push : AFun := ⟨41, [.mv (.t 6), .mv (.t 7)],
  .seq (.region [⟨(some 6), none, true, .mv (.c (.sl 1 [] true))⟩,
      ⟨(some 7), none, true, .mv (.c (.int .i64 0))⟩])
  (.seq (.region [⟨(some 8), none, true, .mv (.c (.sl 1 [] true))⟩])
  (.seq (.seq (.region [⟨(some 12), none, true, .mv (.t 0)⟩,
        ⟨(some 13), none, true, .len (.t 12)⟩,
        ⟨(some 14), none, true, .mv (.c (.int .i64 0))⟩])
    (.block 0 (.loop burrowref14_Pushl0)))
  burrowref14_Pushc1))⟩
/- burrow/burrowlaw18.same -/
def burrowlaw18_samel0 : ACode :=
  .seq (.region [⟨(some 14), none, true, .bin .lss .no (.t 13) (.t 12)⟩])
  (.seq (.cond (.t 14)
      (.skip)
      (.exit 0))
  (.seq (.block 1 (.seq (.region [⟨(some 15), none, true, .mv (.t 13)⟩,
        ⟨(some 5), none, true, .mv (.t 15)⟩])
    (.seq (.region [⟨(some 16), none, true, .mv (.t 0)⟩,
        ⟨(some 17), none, true, .mv (.t 5)⟩,
        ⟨(some 18), none, false, .indexA (.sl 1) (.t 16) (.t 17)⟩,
        ⟨(some 19), none, true, .load false 1 (.t 18)⟩,
        ⟨(some 20), none, true, .convS (.t 19)⟩,
        ⟨(some 21), none, true, .mv (.t 1)⟩,
        ⟨(some 22), none, true, .mv (.t 5)⟩,
        ⟨(some 23), none, false, .indexA (.sl 1) (.t 21) (.t 22)⟩,
        ⟨(some 24), none, true, .load false 1 (.t 23)⟩,
        ⟨(some 25), none, true, .convS (.t 24)⟩,
        ⟨(some 26), none, true, .bin .neq .no (.t 20) (.t 25)⟩])
    (.cond (.t 26)
      (.seq (.region [⟨(some 4), none, true, .mv (.c (.bl false))⟩])
      (.ret))
      (.skip)))))
  (.region [⟨(some 27), none, true, .bin .add .no (.t 13) (.c (.int .i64 1))⟩,
    ⟨(some 13), none, true, .mv (.t 27)⟩])))
def burrowlaw18_samec1 : ACode :=
  .seq (.region [⟨(some 4), none, true, .mv (.c (.bl true))⟩])
  (.ret)
def burrowlaw18_same : AFun := ⟨28, [.mv (.t 4)],
  .seq (.region [⟨(some 4), none, true, .mv (.c (.bl false))⟩])
  (.seq (.seq (.region [⟨(some 6), none, true, .mv (.t 0)⟩,
        ⟨(some 7), none, true, .len (.t 6)⟩,
        ⟨(some 8), none, true, .mv (.t 1)⟩,
        ⟨(some 9), none, true, .len (.t 8)⟩,
        ⟨(some 10), none, true, .bin .neq .no (.t 7) (.t 9)⟩])
    (.cond (.t 10)
      (.seq (.region [⟨(some 4), none, true, .mv (.c (.bl false))⟩])
      (.ret))
      (.skip)))
  (.seq (.seq (.region [⟨(some 11), none, true, .mv (.t 0)⟩,
        ⟨(some 12), none, true, .len (.t 11)⟩,
        ⟨(some 13), none, true, .mv (.c (.int .i64 0))⟩])
    (.block 0 (.loop burrowlaw18_samel0)))
  burrowlaw18_samec1))⟩
/- burrow/burrowref14.Pop -/

def burrowref14_Pop : AFun := ⟨13, [.mv (.t 2), .mv (.t 3), .mv (.t 4)],
  .seq (.region [⟨(some 2), none, true, .mv (.c (.sl 1 [] true))⟩,
      ⟨(some 3), none, true, .mv (.c (.sl 1 [] true))⟩,
      ⟨(some 4), none, true, .mv (.c (.bl false))⟩])
  (.seq (.seq (.region [⟨(some 5), none, true, .mv (.t 0)⟩,
        ⟨(some 6), none, true, .len (.t 5)⟩,
        ⟨(some 7), none, true, .bin .eql .no (.t 6) (.c (.int .i64 0))⟩])
    (.cond (.t 7)
      (.seq (.region [⟨(some 2), none, true, .mv (.c (.sl 1 [] true))⟩,
          ⟨(some 3), none, true, .mv (.c (.sl 1 [] true))⟩,
          ⟨(some 4), none, true, .mv (.c (.bl false))⟩])
      (.ret))
      (.skip)))
  (.seq (.region [⟨(some 8), none, true, .mv (.t 0)⟩,
      ⟨(some 9), none, false, .indexA (.sl 1) (.t 8) (.c (.int .i64 0))⟩,
      ⟨(some 10), none, true, .load false 1 (.t 9)⟩,
      ⟨(some 11), none, true, .mv (.t 0)⟩,
      ⟨(some 12), none, false, .slice (.sl 1) (.t 11) (some (.c (.int .i64 1))) none none⟩,
      ⟨(some 2), none, true, .mv (.t 10)⟩,
      ⟨(some 3), none, true, .mv (.t 12)⟩,
      ⟨(some 4), none, true, .mv (.c (.bl true))⟩])
  (.ret)))⟩
/- burrow/stage.Size -/
def stage_Sizel0 : ACode :=
  .seq (.region [⟨(some 9), none, true, .bin .lss .no (.t 8) (.t 7)⟩])
  (.seq (.cond (.t 9)
      (.skip)
      (.exit 0))
  (.seq (.block 1 (.seq (.region [⟨(some 10), none, false, .indexA (.sl 1) (.t 6) (.t 8)⟩,
        ⟨(some 11), none, true, .load false 1 (.t 10)⟩,
        ⟨(some 5), none, true, .mv (.t 11)⟩])
    (.region [⟨(some 12), none, true, .mv (.t 3)⟩,
      ⟨(some 13), none, true, .mv (.t 5)⟩,
      ⟨(some 14), none, true, .len (.t 13)⟩,
      ⟨(some 15), none, true, .bin .add .no (.t 12) (.t 14)⟩,
      ⟨(some 3), none, true, .mv (.t 15)⟩])))
  (.region [⟨(some 16), none, true, .bin .add .no (.t 8) (.c (.int .i64 1))⟩,
    ⟨(some 8), none, true, .mv (.t 16)⟩])))
def stage_Sizec1 : ACode :=
  .seq (.region [⟨(some 17), none, true, .mv (.t 3)⟩,
      ⟨(some 2), none, true, .mv (.t 17)⟩])
  (.ret)
def stage_Size : AFun := ⟨18, [.mv (.t 2)],
  .seq (.region [⟨(some 2), none, true, .mv (.c (.int .i64 0))⟩])
  (.seq (.region [⟨(some 3), none, true, .mv (.c (.int .i64 0))⟩])
  (.seq (.seq (.region [⟨(some 6), none, true, .mv (.t 0)⟩,
        ⟨(some 7), none, true, .len (.t 6)⟩,
        ⟨(some 8), none, true, .mv (.c (.int .i64 0))⟩])
    (.block 0 (.loop stage_Sizel0)))
  stage_Sizec1))⟩
/- burrow/burrowref14.Size -/
def burrowref14_Sizel0 : ACode :=
  .seq (.region [⟨(some 9), none, true, .bin .lss .no (.t 8) (.t 7)⟩])
  (.seq (.cond (.t 9)
      (.skip)
      (.exit 0))
  (.seq (.block 1 (.seq (.region [⟨(some 10), none, false, .indexA (.sl 1) (.t 6) (.t 8)⟩,
        ⟨(some 11), none, true, .load false 1 (.t 10)⟩,
        ⟨(some 5), none, true, .mv (.t 11)⟩])
    (.region [⟨(some 12), none, true, .mv (.t 3)⟩,
      ⟨(some 13), none, true, .mv (.t 5)⟩,
      ⟨(some 14), none, true, .len (.t 13)⟩,
      ⟨(some 15), none, true, .bin .add .no (.t 12) (.t 14)⟩,
      ⟨(some 3), none, true, .mv (.t 15)⟩])))
  (.region [⟨(some 16), none, true, .bin .add .no (.t 8) (.c (.int .i64 1))⟩,
    ⟨(some 8), none, true, .mv (.t 16)⟩])))
def burrowref14_Sizec1 : ACode :=
  .seq (.region [⟨(some 17), none, true, .mv (.t 3)⟩,
      ⟨(some 2), none, true, .mv (.t 17)⟩])
  (.ret)
def burrowref14_Size : AFun := ⟨18, [.mv (.t 2)],
  .seq (.region [⟨(some 2), none, true, .mv (.c (.int .i64 0))⟩])
  (.seq (.region [⟨(some 3), none, true, .mv (.c (.int .i64 0))⟩])
  (.seq (.seq (.region [⟨(some 6), none, true, .mv (.t 0)⟩,
        ⟨(some 7), none, true, .len (.t 6)⟩,
        ⟨(some 8), none, true, .mv (.c (.int .i64 0))⟩])
    (.block 0 (.loop burrowref14_Sizel0)))
  burrowref14_Sizec1))⟩
/- burrow/stage.cloned -/
def stage_clonedl0 : ACode :=
  .seq (.region [⟨(some 9), none, true, .bin .lss .no (.t 8) (.t 7)⟩])
  (.seq (.cond (.t 9)
      (.skip)
      (.exit 0))
  (.seq (.block 1 (.seq (.region [⟨(some 10), none, false, .indexA (.sl 1) (.t 6) (.t 8)⟩,
        ⟨(some 11), none, true, .load false 1 (.t 10)⟩,
        ⟨(some 5), none, true, .mv (.t 11)⟩])
    (.region [⟨(some 12), none, true, .mv (.t 3)⟩,
      ⟨(some 13), none, true, .mv (.t 5)⟩,
      ⟨(some 14), none, false, .call (.c (.fn (.func I.slices_Clone_byte_byte) [] [])) [(.t 13)]⟩,
      ⟨(some 15), none, false, .buildSlice false 1 (.sl 1 [] true) 1 [(0, (.t 14))]⟩,
      ⟨(some 16), none, false, .append 1 24 false (.t 12) (.t 15)⟩,
      ⟨(some 3), none, true, .mv (.t 16)⟩])))
  (.region [⟨(some 17), none, true, .bin .add .no (.t 8) (.c (.int .i64 1))⟩,
    ⟨(some 8), none, true, .mv (.t 17)⟩])))
def stage_clonedc1 : ACode :=
  .seq (.region [⟨(some 18), none, true, .mv (.t 3)⟩,
      ⟨(some 2), none, true, .mv (.t 18)⟩])
  (.ret)
def stage_cloned : AFun := ⟨19, [.mv (.t 2)],
  .seq (.region [⟨(some 2), none, true, .mv (.c (.sl 1 [] true))⟩])
  (.seq (.region [⟨(some 3), none, true, .mv (.c (.sl 1 [] true))⟩])
  (.seq (.seq (.region [⟨(some 6), none, true, .mv (.t 0)⟩,
        ⟨(some 7), none, true, .len (.t 6)⟩,
        ⟨(some 8), none, true, .mv (.c (.int .i64 0))⟩])
    (.block 0 (.loop stage_clonedl0)))
  stage_clonedc1))⟩
/- slices.Clone[[]byte,byte] -/

def slices_Clone_byte_byte : AFun := ⟨8, [.mv (.t 2)],
  .seq (.region [⟨(some 2), none, true, .mv (.c (.sl 1 [] true))⟩])
  (.seq (.seq (.region [⟨(some 3), none, true, .mv (.t 0)⟩,
        ⟨(some 4), none, false, .isNil false (.t 3)⟩])
    (.cond (.t 4)
      (.seq (.region [⟨(some 2), none, true, .mv (.c (.sl 1 [] true))⟩])
      (.ret))
      (.skip)))
  (.seq (.region [⟨(some 5), none, false, .buildSlice false 1 (.int .u8 0) 0 []⟩,
      ⟨(some 6), none, true, .mv (.t 0)⟩,
      ⟨(some 7), none, false, .append 1 1 false (.t 5) (.t 6)⟩,
      ⟨(some 2), none, true, .mv (.t 7)⟩])
  (.ret)))⟩
end Go.Ab.F
