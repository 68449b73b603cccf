/- The program's functions as the abstract reading has them, and their numbers. Written by program. No condition. -/
import Derived.Test.YtilndiilinoeiaaA4
namespace Go.Ab.I
def burrowlaw29_FenceReserves : FuncId := 3
def burrowmake_Daemon : FuncId := 4
def burrowcase_New : FuncId := 5
def fence_Reserve : FuncId := 6
def burrowref29_Reserve : FuncId := 7
def burrowref25_Same : FuncId := 8
def fence_Lift : FuncId := 9
def burrowref29_Lift : FuncId := 10
def fence_Edge : FuncId := 11
def burrowref29_Edge : FuncId := 12
def burrowlaw29_begun : FuncId := 13
def burrowcase_Codes_Rules : FuncId := 14
def burrowcase_Codes_Key : FuncId := 15
def burrowcase_Codes_Big : FuncId := 16
def burrowcase_Codes_Next : FuncId := 17
def burrowmake_Peer : FuncId := 18
def burrowmake_At : FuncId := 19
def burrowref14_Set : FuncId := 20
def burrowref14_InsertRoute : FuncId := 21
def burrowcase_Masked : FuncId := 22
def burrowcase_Host : FuncId := 23
def burrowref24_Install : FuncId := 24
def burrowmake_Session : FuncId := 25
def burrowcase_Codes_Bool : FuncId := 26
def own_Daemon : FuncId := 27
def fence_sessions : FuncId := 28
def burrowref29_changed : FuncId := 29
def burrowref25_SamePeer : FuncId := 30
def burrowref25_sameLists : FuncId := 31
def burrowcase_Codes_Bytes : FuncId := 32
def burrowcase_Codes_Left : FuncId := 33
def burrowref14_Cancel : FuncId := 34
def burrowref14_LessTimer : FuncId := 35
def burrowref09_Valid : FuncId := 36
def burrowref14_before : FuncId := 37
def burrowref24_Valid : FuncId := 38
def burrowref24_find : FuncId := 39
def burrowref14_FindSlot : FuncId := 40
def burrowref24_sound : FuncId := 41
def burrowref24_Copy : FuncId := 42
def burrowref22_Begin : FuncId := 43
def burrowref22_Answer : FuncId := 44
def burrowref24_machine_drop : FuncId := 45
def burrowref14_Take : FuncId := 46
def burrowref24_machine_set : FuncId := 47
def burrowref22_New : FuncId := 48
def burrowref14_AcceptWindow : FuncId := 49
def slices_Clone_api_Peer_api_Peer : FuncId := 50
def own_Bytes : FuncId := 51
def slices_Clone_api_Route_api_Route : FuncId := 52
def slices_Clone_api_Slot_api_Slot : FuncId := 53
def slices_Clone_api_Timer_api_Timer : FuncId := 54
def slices_Clone_int64_int64 : FuncId := 55
def slices_Clone_api_Bucket_api_Bucket : FuncId := 56
def fence_sessions_1 : FuncId := 57
def burrowref22_Get : FuncId := 58
def burrowref22_Put : FuncId := 59
def burrowref09_Sound : FuncId := 60
def burrowref09_width : FuncId := 61
def burrowref09_bit : FuncId := 62
def burrowref09_Less : FuncId := 63
def burrowref24_Check : FuncId := 64
def burrowref24_past : FuncId := 65
def burrowref22_locals : FuncId := 66
def burrowref22_clean : FuncId := 67
def burrowref14_DropSlot : FuncId := 68
def burrowref14_CheckWindow : FuncId := 69
def slices_Clone_byte_byte : FuncId := 70
def slices_Clone_byte_byte_71 : FuncId := 71
def burrowref24_ValidRules : FuncId := 72
def burrowref24_within : FuncId := 73
def burrowref24_peers : FuncId := 74
def burrowref24_each : FuncId := 75
def burrowref24_routes : FuncId := 76
def burrowref24_slots : FuncId := 77
def burrowref24_timers : FuncId := 78
def burrowref24_load : FuncId := 79
def burrowref24_fields : FuncId := 80
def burrowref24_hand : FuncId := 81
def burrowref24_ring : FuncId := 82
def burrowref14_ValidRoutes : FuncId := 83
def burrowref14_ValidSlots : FuncId := 84
def burrowref22_Locals : FuncId := 85
def burrowref14_ValidTimers : FuncId := 86
def burrowref14_Has : FuncId := 87
def burrowref13_FormatEndpoint : FuncId := 88
def burrowref13_Timed : FuncId := 89
def burrowref09_Check : FuncId := 90
def burrowref13_FormatAddr : FuncId := 91
def burrowref13_Decimal : FuncId := 92
def burrowref13_group : FuncId := 95
end Go.Ab.I
namespace Go.Ab.F
open Go.Ab
/- burrow/burrowlaw29.FenceReserves -/
def burrowlaw29_FenceReservesl0 : ACode :=
  .seq (.region [⟨(some 55), none, true, .bin .lss .no (.t 54) (.t 53)⟩])
  (.seq (.cond (.t 55)
      (.skip)
      (.exit 2))
  (.seq (.block 3 (.seq (.region [⟨(some 56), none, false, .indexA (.sl 1) (.t 52) (.t 54)⟩,
        ⟨(some 57), none, true, .load false 1 (.t 56)⟩,
        ⟨(some 14), none, true, .mv (.t 57)⟩])
    (.seq (.region [⟨(some 59), none, true, .load true 148 (.t 12)⟩,
        ⟨(some 60), none, true, .mv (.t 14)⟩,
        ⟨(some 61), none, false, .call (.c (.fn (.func I.fence_Reserve) [] [])) [(.t 59), (.t 60)]⟩,
        ⟨(some 58), none, true, .mv (.t 61)⟩,
        ⟨(some 62), none, true, .extract 0 (.t 58)⟩,
        ⟨(some 63), none, true, .extract 1 (.t 58)⟩,
        ⟨(some 15), none, false, .alloc (.st 148 [(.st 10 [(.int .u64 0), (.int .u64 0), (.int .i64 0), (.int .i64 0), (.int .i64 0), (.int .i64 0), (.int .i64 0), (.int .i64 0), (.int .i64 0), (.int .i64 0)]), (.ar 1 32 (zr 32 (.int .u8 0))), (.ar 1 32 (zr 32 (.int .u8 0))), (.int .i64 0), (.ar 1 32 (zr 32 (.int .u8 0))), (.int .i64 0), (.sl 464 [] true), (.sl 50 [] true), (.sl 34 [] true), (.sl 34 [] true), (.ar 1 32 (zr 32 (.int .u8 0))), (.int .i64 0), (.sl 1 [] true), (.sl 19 [] true), (.int .i64 0)])⟩,
        ⟨(some 16), none, false, .alloc (.st 148 [(.st 10 [(.int .u64 0), (.int .u64 0), (.int .i64 0), (.int .i64 0), (.int .i64 0), (.int .i64 0), (.int .i64 0), (.int .i64 0), (.int .i64 0), (.int .i64 0)]), (.ar 1 32 (zr 32 (.int .u8 0))), (.ar 1 32 (zr 32 (.int .u8 0))), (.int .i64 0), (.ar 1 32 (zr 32 (.int .u8 0))), (.int .i64 0), (.sl 464 [] true), (.sl 50 [] true), (.sl 34 [] true), (.sl 34 [] true), (.ar 1 32 (zr 32 (.int .u8 0))), (.int .i64 0), (.sl 1 [] true), (.sl 19 [] true), (.int .i64 0)])⟩,
        ⟨none, none, false, .store 148 (.t 15) (.t 62)⟩,
        ⟨none, none, false, .store 148 (.t 16) (.t 63)⟩])
    (.seq (.region [⟨(some 65), none, true, .load true 148 (.t 12)⟩,
        ⟨(some 66), none, true, .mv (.t 14)⟩,
        ⟨(some 67), none, false, .call (.c (.fn (.func I.burrowref29_Reserve) [] [])) [(.t 65), (.t 66)]⟩,
        ⟨(some 64), none, true, .mv (.t 67)⟩,
        ⟨(some 68), none, true, .extract 0 (.t 64)⟩,
        ⟨(some 69), none, true, .extract 1 (.t 64)⟩,
        ⟨(some 17), none, false, .alloc (.st 148 [(.st 10 [(.int .u64 0), (.int .u64 0), (.int .i64 0), (.int .i64 0), (.int .i64 0), (.int .i64 0), (.int .i64 0), (.int .i64 0), (.int .i64 0), (.int .i64 0)]), (.ar 1 32 (zr 32 (.int .u8 0))), (.ar 1 32 (zr 32 (.int .u8 0))), (.int .i64 0), (.ar 1 32 (zr 32 (.int .u8 0))), (.int .i64 0), (.sl 464 [] true), (.sl 50 [] true), (.sl 34 [] true), (.sl 34 [] true), (.ar 1 32 (zr 32 (.int .u8 0))), (.int .i64 0), (.sl 1 [] true), (.sl 19 [] true), (.int .i64 0)])⟩,
        ⟨(some 18), none, false, .alloc (.st 148 [(.st 10 [(.int .u64 0), (.int .u64 0), (.int .i64 0), (.int .i64 0), (.int .i64 0), (.int .i64 0), (.int .i64 0), (.int .i64 0), (.int .i64 0), (.int .i64 0)]), (.ar 1 32 (zr 32 (.int .u8 0))), (.ar 1 32 (zr 32 (.int .u8 0))), (.int .i64 0), (.ar 1 32 (zr 32 (.int .u8 0))), (.int .i64 0), (.sl 464 [] true), (.sl 50 [] true), (.sl 34 [] true), (.sl 34 [] true), (.ar 1 32 (zr 32 (.int .u8 0))), (.int .i64 0), (.sl 1 [] true), (.sl 19 [] true), (.int .i64 0)])⟩,
        ⟨none, none, false, .store 148 (.t 17) (.t 68)⟩,
        ⟨none, none, false, .store 148 (.t 18) (.t 69)⟩])
    (.seq (.region [⟨(some 70), none, true, .load true 148 (.t 15)⟩,
        ⟨(some 71), none, true, .load true 148 (.t 17)⟩,
        ⟨(some 72), none, false, .callq (.c (.fn (.func I.burrowref25_Same) [] [])) [(.t 70), (.t 71)]⟩,
        ⟨(some 73), none, true, .un .not (.t 72)⟩,
        ⟨(some 74), none, true, .mv (.t 73)⟩,
        ⟨(some 75), (some (74, false)), true, .load true 148 (.t 16)⟩,
        ⟨(some 76), (some (74, false)), true, .load true 148 (.t 18)⟩,
        ⟨(some 77), (some (74, false)), false, .callq (.c (.fn (.func I.burrowref25_Same) [] [])) [(.t 75), (.t 76)]⟩,
        ⟨(some 78), (some (74, false)), false, .un .not (.t 77)⟩,
        ⟨(some 79), none, true, .pick (.t 74) (.c (.bl true)) (.t 78)⟩,
        ⟨(some 80), none, true, .mv (.t 79)⟩,
        ⟨(some 81), (some (80, false)), true, .load true 148 (.t 15)⟩,
        ⟨(some 82), (some (80, false)), false, .callq (.c (.fn (.func I.fence_Lift) [] [])) [(.t 81)]⟩,
        ⟨(some 83), (some (80, false)), true, .load true 148 (.t 17)⟩,
        ⟨(some 84), (some (80, false)), false, .callq (.c (.fn (.func I.burrowref29_Lift) [] [])) [(.t 83)]⟩,
        ⟨(some 85), (some (80, false)), false, .callq (.c (.fn (.func I.burrowref25_Same) [] [])) [(.t 82), (.t 84)]⟩,
        ⟨(some 86), (some (80, false)), false, .un .not (.t 85)⟩,
        ⟨(some 87), none, true, .pick (.t 80) (.c (.bl true)) (.t 86)⟩])
    (.cond (.t 87)
      (.seq (.region [⟨(some 8), none, true, .mv (.c (.bl false))⟩])
      (.ret))
      (.skip)))))))
  (.region [⟨(some 88), none, true, .bin .add .no (.t 54) (.c (.int .i64 1))⟩,
    ⟨(some 54), none, true, .mv (.t 88)⟩])))
def burrowlaw29_FenceReservesc1 : ACode :=
  .region [⟨(some 89), none, true, .bin .add .no (.t 45) (.c (.int .i64 1))⟩,
    ⟨(some 45), none, true, .mv (.t 89)⟩]
def burrowlaw29_FenceReservesl2 : ACode :=
  .seq (.region [⟨(some 46), none, true, .bin .lss .no (.t 45) (.t 44)⟩])
  (.seq (.cond (.t 46)
      (.skip)
      (.exit 0))
  (.seq (.block 1 (.seq (.region [⟨(some 47), none, false, .indexA (.sl 148) (.t 43) (.t 45)⟩,
        ⟨(some 48), none, true, .load true 148 (.t 47)⟩,
        ⟨(some 12), none, false, .alloc (.st 148 [(.st 10 [(.int .u64 0), (.int .u64 0), (.int .i64 0), (.int .i64 0), (.int .i64 0), (.int .i64 0), (.int .i64 0), (.int .i64 0), (.int .i64 0), (.int .i64 0)]), (.ar 1 32 (zr 32 (.int .u8 0))), (.ar 1 32 (zr 32 (.int .u8 0))), (.int .i64 0), (.ar 1 32 (zr 32 (.int .u8 0))), (.int .i64 0), (.sl 464 [] true), (.sl 50 [] true), (.sl 34 [] true), (.sl 34 [] true), (.ar 1 32 (zr 32 (.int .u8 0))), (.int .i64 0), (.sl 1 [] true), (.sl 19 [] true), (.int .i64 0)])⟩,
        ⟨none, none, false, .store 148 (.t 12) (.t 48)⟩])
    (.seq (.region [⟨(some 49), none, true, .mv (.t 1)⟩,
        ⟨(some 50), none, true, .mv (.t 1)⟩,
        ⟨(some 51), none, false, .bin .rem .no (.t 50) (.c (.int .u64 100))⟩,
        ⟨(some 52), none, false, .buildSlice false 1 (.int .u64 0) 3 [(0, (.t 49)), (1, (.t 51)), (2, (.c (.int .u64 0)))]⟩,
        ⟨(some 53), none, true, .len (.t 52)⟩,
        ⟨(some 54), none, true, .mv (.c (.int .i64 0))⟩])
    (.block 2 (.loop burrowlaw29_FenceReservesl0)))))
  burrowlaw29_FenceReservesc1))
def burrowlaw29_FenceReservesc3 : ACode :=
  .seq (.region [⟨(some 90), none, true, .load true 76 (.t 6)⟩,
      ⟨(some 91), none, true, .load true 10 (.t 7)⟩,
      ⟨(some 92), none, true, .mv (.t 1)⟩,
      ⟨(some 93), none, false, .callq (.c (.fn (.func I.fence_Edge) [] [])) [(.t 90), (.t 91), (.t 92)]⟩,
      ⟨(some 94), none, true, .load true 76 (.t 6)⟩,
      ⟨(some 95), none, true, .load true 10 (.t 7)⟩,
      ⟨(some 96), none, true, .mv (.t 1)⟩,
      ⟨(some 97), none, false, .callq (.c (.fn (.func I.burrowref29_Edge) [] [])) [(.t 94), (.t 95), (.t 96)]⟩,
      ⟨(some 98), none, true, .bin .eql .no (.t 93) (.t 97)⟩,
      ⟨(some 99), none, true, .mv (.t 98)⟩,
      ⟨(some 100), (some (99, true)), true, .load true 76 (.t 6)⟩,
      ⟨(some 101), (some (99, true)), true, .load true 10 (.t 7)⟩,
      ⟨(some 102), (some (99, true)), true, .mv (.t 1)⟩,
      ⟨(some 103), (some (99, true)), false, .bin .rem .no (.t 102) (.c (.int .u64 100))⟩,
      ⟨(some 104), (some (99, true)), false, .callq (.c (.fn (.func I.fence_Edge) [] [])) [(.t 100), (.t 101), (.t 103)]⟩,
      ⟨(some 105), (some (99, true)), true, .load true 76 (.t 6)⟩,
      ⟨(some 106), (some (99, true)), true, .load true 10 (.t 7)⟩,
      ⟨(some 107), (some (99, true)), true, .mv (.t 1)⟩,
      ⟨(some 108), (some (99, true)), false, .bin .rem .no (.t 107) (.c (.int .u64 100))⟩,
      ⟨(some 109), (some (99, true)), false, .callq (.c (.fn (.func I.burrowref29_Edge) [] [])) [(.t 105), (.t 106), (.t 108)]⟩,
      ⟨(some 110), (some (99, true)), false, .bin .eql .no (.t 104) (.t 109)⟩,
      ⟨(some 111), none, true, .pick (.t 99) (.t 110) (.c (.bl false))⟩,
      ⟨(some 112), none, true, .mv (.t 111)⟩,
      ⟨(some 113), (some (112, true)), false, .callq (.c (.fn (.func I.burrowlaw29_begun) [] [])) []⟩,
      ⟨(some 114), none, true, .pick (.t 112) (.t 113) (.c (.bl false))⟩,
      ⟨(some 8), none, true, .mv (.t 114)⟩])
  (.ret)
def burrowlaw29_FenceReserves : AFun := ⟨115, [.mv (.t 8)],
  .seq (.region [⟨(some 6), none, false, .box (.t 2)⟩,
      ⟨(some 7), none, false, .box (.t 3)⟩,
      ⟨(some 8), none, true, .mv (.c (.bl false))⟩])
  (.seq (.region [⟨(some 19), none, true, .mv (.t 0)⟩,
      ⟨(some 20), none, false, .call (.c (.fn (.func I.burrowcase_New) [] [])) [(.t 19), (.c (.int .i64 160))]⟩,
      ⟨(some 21), none, false, .call (.c (.fn (.func I.burrowmake_Daemon) [] [])) [(.t 20)]⟩,
      ⟨(some 9), none, false, .alloc (.st 148 [(.st 10 [(.int .u64 0), (.int .u64 0), (.int .i64 0), (.int .i64 0), (.int .i64 0), (.int .i64 0), (.int .i64 0), (.int .i64 0), (.int .i64 0), (.int .i64 0)]), (.ar 1 32 (zr 32 (.int .u8 0))), (.ar 1 32 (zr 32 (.int .u8 0))), (.int .i64 0), (.ar 1 32 (zr 32 (.int .u8 0))), (.int .i64 0), (.sl 464 [] true), (.sl 50 [] true), (.sl 34 [] true), (.sl 34 [] true), (.ar 1 32 (zr 32 (.int .u8 0))), (.int .i64 0), (.sl 1 [] true), (.sl 19 [] true), (.int .i64 0)])⟩,
      ⟨none, none, false, .store 148 (.t 9) (.t 21)⟩])
  (.seq (.region [⟨(some 22), none, true, .load true 148 (.t 9)⟩,
      ⟨(some 10), none, false, .alloc (.st 148 [(.st 10 [(.int .u64 0), (.int .u64 0), (.int .i64 0), (.int .i64 0), (.int .i64 0), (.int .i64 0), (.int .i64 0), (.int .i64 0), (.int .i64 0), (.int .i64 0)]), (.ar 1 32 (zr 32 (.int .u8 0))), (.ar 1 32 (zr 32 (.int .u8 0))), (.int .i64 0), (.ar 1 32 (zr 32 (.int .u8 0))), (.int .i64 0), (.sl 464 [] true), (.sl 50 [] true), (.sl 34 [] true), (.sl 34 [] true), (.ar 1 32 (zr 32 (.int .u8 0))), (.int .i64 0), (.sl 1 [] true), (.sl 19 [] true), (.int .i64 0)])⟩,
      ⟨none, none, false, .store 148 (.t 10) (.t 22)⟩])
  (.seq (.region [⟨(some 23), none, true, .fieldA 6 108 (.t 9)⟩,
      ⟨(some 24), none, true, .load false 1 (.t 23)⟩,
      ⟨(some 25), none, false, .append 464 808 false (.c (.sl 0 [] true)) (.t 24)⟩,
      ⟨(some 26), none, true, .fieldA 6 108 (.t 10)⟩,
      ⟨none, none, false, .store 1 (.t 26) (.t 25)⟩])
  (.seq (.region [⟨(some 27), none, true, .fieldA 6 108 (.t 10)⟩,
      ⟨(some 28), none, true, .load false 1 (.t 27)⟩,
      ⟨(some 29), none, true, .load true 76 (.t 6)⟩,
      ⟨(some 30), none, false, .build (.st 77 [(.bl false), (.st 76 [(.int .u32 0), (.int .u32 0), (.ar 1 32 (zr 32 (.int .u8 0))), (.ar 1 32 (zr 32 (.int .u8 0))), (.int .u64 0), (.int .u64 0), (.st 6 [(.bl false), (.int .u64 0), (.ar 1 4 (zr 4 (.int .u64 0)))]), (.int .i64 0), (.bl false)])]) [(0, (.c (.bl true))), (1, (.t 29))]⟩,
      ⟨(some 31), none, false, .indexA (.sl 464) (.t 28) (.c (.int .i64 0))⟩,
      ⟨(some 32), none, true, .fieldA 13 232 (.t 31)⟩,
      ⟨(some 33), none, true, .fieldA 1 77 (.t 32)⟩,
      ⟨none, none, false, .store 77 (.t 33) (.t 30)⟩])
  (.seq (.region [⟨(some 34), none, true, .fieldA 6 108 (.t 10)⟩,
      ⟨(some 35), none, true, .load false 1 (.t 34)⟩,
      ⟨(some 36), none, true, .load true 76 (.t 6)⟩,
      ⟨(some 37), none, false, .indexA (.sl 464) (.t 35) (.c (.int .i64 1))⟩,
      ⟨(some 38), none, true, .fieldA 13 232 (.t 37)⟩,
      ⟨(some 39), none, true, .fieldA 2 154 (.t 38)⟩,
      ⟨(some 40), none, true, .fieldA 1 1 (.t 39)⟩,
      ⟨none, none, false, .store 76 (.t 40) (.t 36)⟩])
  (.seq (.seq (.region [⟨(some 41), none, true, .load true 148 (.t 9)⟩,
        ⟨(some 42), none, true, .load true 148 (.t 10)⟩,
        ⟨(some 43), none, false, .buildSlice false 148 (.st 148 [(.st 10 [(.int .u64 0), (.int .u64 0), (.int .i64 0), (.int .i64 0), (.int .i64 0), (.int .i64 0), (.int .i64 0), (.int .i64 0), (.int .i64 0), (.int .i64 0)]), (.ar 1 32 (zr 32 (.int .u8 0))), (.ar 1 32 (zr 32 (.int .u8 0))), (.int .i64 0), (.ar 1 32 (zr 32 (.int .u8 0))), (.int .i64 0), (.sl 464 [] true), (.sl 50 [] true), (.sl 34 [] true), (.sl 34 [] true), (.ar 1 32 (zr 32 (.int .u8 0))), (.int .i64 0), (.sl 1 [] true), (.sl 19 [] true), (.int .i64 0)]) 2 [(0, (.t 41)), (1, (.t 42))]⟩,
        ⟨(some 44), none, true, .len (.t 43)⟩,
        ⟨(some 45), none, true, .mv (.c (.int .i64 0))⟩])
    (.block 0 (.loop burrowlaw29_FenceReservesl2)))
  burrowlaw29_FenceReservesc3))))))⟩
/- burrow/burrowmake.Daemon -/
def burrowmake_Daemonl0 : ACode :=
  .seq (.seq (.region [⟨(some 38), none, true, .mv (.t 5)⟩,
        ⟨(some 39), none, true, .mv (.t 4)⟩,
        ⟨(some 40), none, true, .bin .lss .no (.t 38) (.t 39)⟩])
    (.cond (.t 40)
      (.skip)
      (.exit 0)))
  (.seq (.block 1 (.seq (.region [⟨(some 43), none, true, .mv (.t 5)⟩,
        ⟨(some 44), none, false, .call (.c (.fn (.func I.burrowmake_Peer) [] [])) [(.t 43)]⟩,
        ⟨(some 45), none, true, .mv (.t 0)⟩,
        ⟨(some 46), none, false, .call (.c (.fn (.func I.burrowcase_Codes_Next) [] [])) [(.t 45), (.c (.int .i64 8))]⟩,
        ⟨(some 47), none, true, .bin .gtr .no (.t 46) (.c (.int .i64 0))⟩,
        ⟨(some 48), none, false, .build (.st 464 [(.ar 1 32 (zr 32 (.int .u8 0))), (.ar 1 32 (zr 32 (.int .u8 0))), (.bl false), (.st 18 [(.st 17 [(.bl false), (.ar 1 16 (zr 16 (.int .u8 0)))]), (.int .i64 0)]), (.int .i64 0), (.ar 1 12 (zr 12 (.int .u8 0))), (.bl false), (.int .i64 0), (.st 100 [(.bl false), (.int .u32 0), (.ar 1 32 (zr 32 (.int .u8 0))), (.st 64 [(.ar 1 32 (zr 32 (.int .u8 0))), (.ar 1 32 (zr 32 (.int .u8 0)))]), (.int .i64 0), (.int .i64 0)]), (.bl false), (.ar 1 16 (zr 16 (.int .u8 0))), (.int .i64 0), (.ar 1 16 (zr 16 (.int .u8 0))), (.st 231 [(.st 77 [(.bl false), (.st 76 [(.int .u32 0), (.int .u32 0), (.ar 1 32 (zr 32 (.int .u8 0))), (.ar 1 32 (zr 32 (.int .u8 0))), (.int .u64 0), (.int .u64 0), (.st 6 [(.bl false), (.int .u64 0), (.ar 1 4 (zr 4 (.int .u64 0)))]), (.int .i64 0), (.bl false)])]), (.st 77 [(.bl false), (.st 76 [(.int .u32 0), (.int .u32 0), (.ar 1 32 (zr 32 (.int .u8 0))), (.ar 1 32 (zr 32 (.int .u8 0))), (.int .u64 0), (.int .u64 0), (.st 6 [(.bl false), (.int .u64 0), (.ar 1 4 (zr 4 (.int .u64 0)))]), (.int .i64 0), (.bl false)])]), (.st 77 [(.bl false), (.st 76 [(.int .u32 0), (.int .u32 0), (.ar 1 32 (zr 32 (.int .u8 0))), (.ar 1 32 (zr 32 (.int .u8 0))), (.int .u64 0), (.int .u64 0), (.st 6 [(.bl false), (.int .u64 0), (.ar 1 4 (zr 4 (.int .u64 0)))]), (.int .i64 0), (.bl false)])])]), (.sl 1 [] true)]) [(0, (.t 44)), (2, (.t 47))]⟩,
        ⟨(some 6), none, false, .alloc (.st 464 [(.ar 1 32 (zr 32 (.int .u8 0))), (.ar 1 32 (zr 32 (.int .u8 0))), (.bl false), (.st 18 [(.st 17 [(.bl false), (.ar 1 16 (zr 16 (.int .u8 0)))]), (.int .i64 0)]), (.int .i64 0), (.ar 1 12 (zr 12 (.int .u8 0))), (.bl false), (.int .i64 0), (.st 100 [(.bl false), (.int .u32 0), (.ar 1 32 (zr 32 (.int .u8 0))), (.st 64 [(.ar 1 32 (zr 32 (.int .u8 0))), (.ar 1 32 (zr 32 (.int .u8 0)))]), (.int .i64 0), (.int .i64 0)]), (.bl false), (.ar 1 16 (zr 16 (.int .u8 0))), (.int .i64 0), (.ar 1 16 (zr 16 (.int .u8 0))), (.st 231 [(.st 77 [(.bl false), (.st 76 [(.int .u32 0), (.int .u32 0), (.ar 1 32 (zr 32 (.int .u8 0))), (.ar 1 32 (zr 32 (.int .u8 0))), (.int .u64 0), (.int .u64 0), (.st 6 [(.bl false), (.int .u64 0), (.ar 1 4 (zr 4 (.int .u64 0)))]), (.int .i64 0), (.bl false)])]), (.st 77 [(.bl false), (.st 76 [(.int .u32 0), (.int .u32 0), (.ar 1 32 (zr 32 (.int .u8 0))), (.ar 1 32 (zr 32 (.int .u8 0))), (.int .u64 0), (.int .u64 0), (.st 6 [(.bl false), (.int .u64 0), (.ar 1 4 (zr 4 (.int .u64 0)))]), (.int .i64 0), (.bl false)])]), (.st 77 [(.bl false), (.st 76 [(.int .u32 0), (.int .u32 0), (.ar 1 32 (zr 32 (.int .u8 0))), (.ar 1 32 (zr 32 (.int .u8 0))), (.int .u64 0), (.int .u64 0), (.st 6 [(.bl false), (.int .u64 0), (.ar 1 4 (zr 4 (.int .u64 0)))]), (.int .i64 0), (.bl false)])])]), (.sl 1 [] true)])⟩,
        ⟨none, none, false, .store 464 (.t 6) (.t 48)⟩])
    (.seq (.seq (.region [⟨(some 49), none, true, .fieldA 2 64 (.t 6)⟩,
          ⟨(some 50), none, true, .load false 1 (.t 49)⟩])
      (.cond (.t 50)
        (.region [⟨(some 51), none, true, .mv (.t 5)⟩,
          ⟨(some 52), none, false, .call (.c (.fn (.func I.burrowmake_At) [] [])) [(.t 51)]⟩,
          ⟨(some 53), none, true, .fieldA 3 65 (.t 6)⟩,
          ⟨none, none, false, .store 18 (.t 53) (.t 52)⟩])
        (.skip)))
    (.seq (.seq (.region [⟨(some 54), none, true, .mv (.t 0)⟩,
          ⟨(some 55), none, false, .call (.c (.fn (.func I.burrowcase_Codes_Next) [] [])) [(.t 54), (.c (.int .i64 4))]⟩,
          ⟨(some 56), none, true, .bin .eql .no (.t 55) (.c (.int .i64 1))⟩])
      (.cond (.t 56)
        (.seq (.region [⟨(some 57), none, true, .mv (.t 0)⟩,
            ⟨(some 58), none, false, .call (.c (.fn (.func I.burrowcase_Codes_Next) [] [])) [(.t 57), (.c (.int .i64 30))]⟩,
            ⟨(some 59), none, true, .bin .add .no (.c (.int .i64 1)) (.t 58)⟩,
            ⟨(some 60), none, true, .bin .mul .no (.c (.int .i64 1000)) (.t 59)⟩,
            ⟨(some 61), none, true, .fieldA 4 83 (.t 6)⟩,
            ⟨none, none, false, .store 1 (.t 61) (.t 60)⟩])
        (.regionD [⟨(some 62), none, true, .fieldA 9 111 (.t 3)⟩,
          ⟨(some 63), none, true, .load false 1 (.t 62)⟩,
          ⟨(some 64), none, true, .fieldA 5 107 (.t 3)⟩,
          ⟨(some 65), none, true, .load false 1 (.t 64)⟩,
          ⟨(some 66), none, true, .bin .add .no (.t 65) (.c (.int .i64 1))⟩,
          ⟨(some 67), none, true, .mv (.t 0)⟩,
          ⟨(some 68), none, false, .call (.c (.fn (.func I.burrowcase_Codes_Next) [] [])) [(.t 67), (.c (.int .i64 200))]⟩,
          ⟨(some 69), none, true, .bin .mul .no (.t 68) (.c (.int .i64 10))⟩,
          ⟨(some 70), none, true, .bin .add .no (.t 66) (.t 69)⟩,
          ⟨(some 71), none, true, .fieldA 0 0 (.t 6)⟩,
          ⟨(some 72), none, true, .load true 32 (.t 71)⟩,
          ⟨(some 73), none, false, .build (.st 34 [(.int .i64 0), (.ar 1 32 (zr 32 (.int .u8 0))), (.int .i64 0)]) [(0, (.t 70)), (1, (.t 72)), (2, (.c (.int .i64 4)))]⟩,
          ⟨(some 74), none, false, .callq (.c (.fn (.func I.burrowref14_Set) [] [])) [(.t 63), (.t 73)]⟩,
          ⟨(some 75), none, true, .fieldA 9 111 (.t 3)⟩,
          ⟨none, none, false, .store 1 (.t 75) (.t 74)⟩] [0, 1, 2, 3, 4, 5, 9, 10, 6, 7, 8, 11, 12, 13, 14] [0, 1, 2, 3, 9, 10, 6]))
        (.skip)))
    (.seq (.region [⟨(some 76), none, true, .fieldA 6 108 (.t 3)⟩,
        ⟨(some 77), none, true, .load false 1 (.t 76)⟩,
        ⟨(some 78), none, true, .load true 464 (.t 6)⟩,
        ⟨(some 79), none, false, .buildSlice false 464 (.st 464 [(.ar 1 32 (zr 32 (.int .u8 0))), (.ar 1 32 (zr 32 (.int .u8 0))), (.bl false), (.st 18 [(.st 17 [(.bl false), (.ar 1 16 (zr 16 (.int .u8 0)))]), (.int .i64 0)]), (.int .i64 0), (.ar 1 12 (zr 12 (.int .u8 0))), (.bl false), (.int .i64 0), (.st 100 [(.bl false), (.int .u32 0), (.ar 1 32 (zr 32 (.int .u8 0))), (.st 64 [(.ar 1 32 (zr 32 (.int .u8 0))), (.ar 1 32 (zr 32 (.int .u8 0)))]), (.int .i64 0), (.int .i64 0)]), (.bl false), (.ar 1 16 (zr 16 (.int .u8 0))), (.int .i64 0), (.ar 1 16 (zr 16 (.int .u8 0))), (.st 231 [(.st 77 [(.bl false), (.st 76 [(.int .u32 0), (.int .u32 0), (.ar 1 32 (zr 32 (.int .u8 0))), (.ar 1 32 (zr 32 (.int .u8 0))), (.int .u64 0), (.int .u64 0), (.st 6 [(.bl false), (.int .u64 0), (.ar 1 4 (zr 4 (.int .u64 0)))]), (.int .i64 0), (.bl false)])]), (.st 77 [(.bl false), (.st 76 [(.int .u32 0), (.int .u32 0), (.ar 1 32 (zr 32 (.int .u8 0))), (.ar 1 32 (zr 32 (.int .u8 0))), (.int .u64 0), (.int .u64 0), (.st 6 [(.bl false), (.int .u64 0), (.ar 1 4 (zr 4 (.int .u64 0)))]), (.int .i64 0), (.bl false)])]), (.st 77 [(.bl false), (.st 76 [(.int .u32 0), (.int .u32 0), (.ar 1 32 (zr 32 (.int .u8 0))), (.ar 1 32 (zr 32 (.int .u8 0))), (.int .u64 0), (.int .u64 0), (.st 6 [(.bl false), (.int .u64 0), (.ar 1 4 (zr 4 (.int .u64 0)))]), (.int .i64 0), (.bl false)])])]), (.sl 1 [] true)]) 1 [(0, (.t 78))]⟩,
        ⟨(some 80), none, false, .append 464 808 false (.t 77) (.t 79)⟩,
        ⟨(some 81), none, true, .fieldA 6 108 (.t 3)⟩,
        ⟨none, none, false, .store 1 (.t 81) (.t 80)⟩])
    (.region [⟨(some 83), none, true, .fieldA 7 109 (.t 3)⟩,
      ⟨(some 84), none, true, .load false 1 (.t 83)⟩,
      ⟨(some 85), none, true, .mv (.t 5)⟩,
      ⟨(some 86), none, true, .bin .add .no (.t 85) (.c (.int .i64 1))⟩,
      ⟨(some 87), none, false, .callq (.c (.fn (.func I.burrowcase_Host) [] [])) [(.t 86), (.c (.int .i64 0))]⟩,
      ⟨(some 88), none, false, .callq (.c (.fn (.func I.burrowcase_Masked) [] [])) [(.t 87), (.c (.int .i64 16))]⟩,
      ⟨(some 89), none, true, .fieldA 0 0 (.t 6)⟩,
      ⟨(some 90), none, true, .load true 32 (.t 89)⟩,
      ⟨(some 91), none, false, .callq (.c (.fn (.func I.burrowref14_InsertRoute) [] [])) [(.t 84), (.t 88), (.t 90)]⟩,
      ⟨(some 82), none, true, .mv (.t 91)⟩,
      ⟨(some 92), none, true, .extract 0 (.t 82)⟩,
      ⟨(some 93), none, true, .extract 1 (.t 82)⟩,
      ⟨(some 94), none, true, .fieldA 7 109 (.t 3)⟩,
      ⟨none, none, false, .store 1 (.t 94) (.t 92)⟩]))))))
  (.region [⟨(some 41), none, true, .mv (.t 5)⟩,
    ⟨(some 42), none, true, .bin .add .no (.t 41) (.c (.int .i64 1))⟩,
    ⟨(some 5), none, true, .mv (.t 42)⟩]))
def burrowmake_Daemonl1 : ACode :=
  .seq (.seq (.region [⟨(some 102), none, true, .mv (.t 8)⟩,
        ⟨(some 103), none, true, .bin .gtr .no (.t 102) (.c (.int .i64 0))⟩])
    (.cond (.t 103)
      (.skip)
      (.exit 4)))
  (.seq (.block 5 (.regionD [⟨(some 107), none, true, .load true 148 (.t 3)⟩,
      ⟨(some 108), none, true, .mv (.t 7)⟩,
      ⟨(some 109), none, false, .callq (.c (.fn (.func I.burrowmake_Peer) [] [])) [(.t 108)]⟩,
      ⟨(some 110), none, true, .mv (.t 0)⟩,
      ⟨(some 111), none, true, .load true 148 (.t 3)⟩,
      ⟨(some 112), none, true, .mv (.t 7)⟩,
      ⟨(some 113), none, true, .bin .mul .no (.c (.int .i64 10)) (.t 112)⟩,
      ⟨(some 114), none, true, .mv (.t 8)⟩,
      ⟨(some 115), none, true, .bin .add .no (.t 113) (.t 114)⟩,
      ⟨(some 116), none, true, .convI .u32 (.t 115)⟩,
      ⟨(some 117), none, false, .call (.c (.fn (.func I.burrowmake_Session) [] [])) [(.t 110), (.t 111), (.t 116)]⟩,
      ⟨(some 118), none, true, .mv (.t 0)⟩,
      ⟨(some 119), none, false, .call (.c (.fn (.func I.burrowcase_Codes_Bool) [] [])) [(.t 118)]⟩,
      ⟨(some 120), none, false, .callq (.c (.fn (.func I.burrowref24_Install) [] [])) [(.t 107), (.t 109), (.t 117), (.t 119)]⟩,
      ⟨(some 106), none, true, .mv (.t 120)⟩,
      ⟨(some 121), none, true, .extract 0 (.t 106)⟩,
      ⟨(some 122), none, true, .extract 1 (.t 106)⟩,
      ⟨none, none, false, .store 148 (.t 3) (.t 121)⟩] [0, 1, 2, 3, 4, 5, 6, 7, 8, 9, 11, 10, 12, 13, 14, 15, 16, 17] [0, 10, 12]))
  (.region [⟨(some 104), none, true, .mv (.t 8)⟩,
    ⟨(some 105), none, true, .bin .sub .no (.t 104) (.c (.int .i64 1))⟩,
    ⟨(some 8), none, true, .mv (.t 105)⟩]))
def burrowmake_Daemonc2 : ACode :=
  .region [⟨(some 98), none, true, .mv (.t 7)⟩,
    ⟨(some 99), none, true, .bin .add .no (.t 98) (.c (.int .i64 1))⟩,
    ⟨(some 7), none, true, .mv (.t 99)⟩]
def burrowmake_Daemonl3 : ACode :=
  .seq (.seq (.region [⟨(some 95), none, true, .mv (.t 7)⟩,
        ⟨(some 96), none, true, .mv (.t 4)⟩,
        ⟨(some 97), none, true, .bin .lss .no (.t 95) (.t 96)⟩])
    (.cond (.t 97)
      (.skip)
      (.exit 2)))
  (.seq (.block 3 (.seq (.region [⟨(some 100), none, true, .mv (.t 0)⟩,
        ⟨(some 101), none, false, .call (.c (.fn (.func I.burrowcase_Codes_Next) [] [])) [(.t 100), (.c (.int .i64 4))]⟩,
        ⟨(some 8), none, true, .mv (.t 101)⟩])
    (.block 4 (.loop burrowmake_Daemonl1))))
  burrowmake_Daemonc2)
def burrowmake_Daemonc4 : ACode :=
  .seq (.region [⟨(some 123), none, true, .load true 148 (.t 3)⟩,
      ⟨none, none, false, .store 148 (.t 2) (.t 123)⟩])
  (.ret)
def burrowmake_Daemonc5 : ACode :=
  .seq (.seq (.region [⟨(some 7), none, true, .mv (.c (.int .i64 0))⟩])
    (.block 2 (.loop burrowmake_Daemonl3)))
  burrowmake_Daemonc4
def burrowmake_Daemon : AFun := ⟨124, [.load true 148 (.t 2)],
  .seq (.region [⟨(some 2), none, false, .alloc (.st 148 [(.st 10 [(.int .u64 0), (.int .u64 0), (.int .i64 0), (.int .i64 0), (.int .i64 0), (.int .i64 0), (.int .i64 0), (.int .i64 0), (.int .i64 0), (.int .i64 0)]), (.ar 1 32 (zr 32 (.int .u8 0))), (.ar 1 32 (zr 32 (.int .u8 0))), (.int .i64 0), (.ar 1 32 (zr 32 (.int .u8 0))), (.int .i64 0), (.sl 464 [] true), (.sl 50 [] true), (.sl 34 [] true), (.sl 34 [] true), (.ar 1 32 (zr 32 (.int .u8 0))), (.int .i64 0), (.sl 1 [] true), (.sl 19 [] true), (.int .i64 0)])⟩])
  (.seq (.region [⟨(some 9), none, true, .mv (.t 0)⟩,
      ⟨(some 10), none, false, .call (.c (.fn (.func I.burrowcase_Codes_Rules) [] [])) [(.t 9)]⟩,
      ⟨(some 11), none, true, .mv (.t 0)⟩,
      ⟨(some 12), none, false, .call (.c (.fn (.func I.burrowcase_Codes_Key) [] [])) [(.t 11)]⟩,
      ⟨(some 13), none, true, .mv (.t 0)⟩,
      ⟨(some 14), none, false, .call (.c (.fn (.func I.burrowcase_Codes_Key) [] [])) [(.t 13)]⟩,
      ⟨(some 15), none, true, .mv (.t 0)⟩,
      ⟨(some 16), none, false, .call (.c (.fn (.func I.burrowcase_Codes_Big) [] [])) [(.t 15), (.c (.int .i64 65536))]⟩,
      ⟨(some 17), none, true, .mv (.t 0)⟩,
      ⟨(some 18), none, false, .call (.c (.fn (.func I.burrowcase_Codes_Key) [] [])) [(.t 17)]⟩,
      ⟨(some 19), none, true, .mv (.t 0)⟩,
      ⟨(some 20), none, false, .call (.c (.fn (.func I.burrowcase_Codes_Big) [] [])) [(.t 19), (.c (.int .i64 16777216))]⟩,
      ⟨(some 21), none, false, .build (.st 148 [(.st 10 [(.int .u64 0), (.int .u64 0), (.int .i64 0), (.int .i64 0), (.int .i64 0), (.int .i64 0), (.int .i64 0), (.int .i64 0), (.int .i64 0), (.int .i64 0)]), (.ar 1 32 (zr 32 (.int .u8 0))), (.ar 1 32 (zr 32 (.int .u8 0))), (.int .i64 0), (.ar 1 32 (zr 32 (.int .u8 0))), (.int .i64 0), (.sl 464 [] true), (.sl 50 [] true), (.sl 34 [] true), (.sl 34 [] true), (.ar 1 32 (zr 32 (.int .u8 0))), (.int .i64 0), (.sl 1 [] true), (.sl 19 [] true), (.int .i64 0)]) [(0, (.t 10)), (1, (.t 12)), (2, (.t 14)), (3, (.t 16)), (4, (.t 18)), (5, (.t 20))]⟩,
      ⟨(some 3), none, false, .alloc (.st 148 [(.st 10 [(.int .u64 0), (.int .u64 0), (.int .i64 0), (.int .i64 0), (.int .i64 0), (.int .i64 0), (.int .i64 0), (.int .i64 0), (.int .i64 0), (.int .i64 0)]), (.ar 1 32 (zr 32 (.int .u8 0))), (.ar 1 32 (zr 32 (.int .u8 0))), (.int .i64 0), (.ar 1 32 (zr 32 (.int .u8 0))), (.int .i64 0), (.sl 464 [] true), (.sl 50 [] true), (.sl 34 [] true), (.sl 34 [] true), (.ar 1 32 (zr 32 (.int .u8 0))), (.int .i64 0), (.sl 1 [] true), (.sl 19 [] true), (.int .i64 0)])⟩,
      ⟨none, none, false, .store 148 (.t 3) (.t 21)⟩])
  (.seq (.regionD [⟨(some 22), none, true, .mv (.t 0)⟩,
      ⟨(some 23), none, false, .call (.c (.fn (.func I.burrowcase_Codes_Key) [] [])) [(.t 22)]⟩,
      ⟨(some 24), none, true, .fieldA 5 107 (.t 3)⟩,
      ⟨(some 25), none, true, .load false 1 (.t 24)⟩,
      ⟨(some 26), none, true, .mv (.t 0)⟩,
      ⟨(some 27), none, false, .call (.c (.fn (.func I.burrowcase_Codes_Next) [] [])) [(.t 26), (.c (.int .i64 2))]⟩,
      ⟨(some 28), none, true, .fieldA 5 107 (.t 3)⟩,
      ⟨(some 29), none, true, .load false 1 (.t 28)⟩,
      ⟨(some 30), none, true, .mm false [(.t 29), (.c (.int .i64 20000))]⟩,
      ⟨(some 31), none, true, .bin .mul .no (.t 27) (.t 30)⟩,
      ⟨(some 32), none, true, .bin .sub .no (.t 25) (.t 31)⟩,
      ⟨(some 33), none, true, .fieldA 10 112 (.t 3)⟩,
      ⟨none, none, false, .store 32 (.t 33) (.t 23)⟩,
      ⟨(some 34), none, true, .fieldA 11 144 (.t 3)⟩,
      ⟨none, none, false, .store 1 (.t 34) (.t 32)⟩] [0, 2, 3, 4, 6, 7, 8, 1, 11, 5, 9, 10, 12, 13, 14] [2, 3, 6, 7, 11, 1, 5])
  (.seq (.region [⟨(some 35), none, true, .mv (.t 0)⟩,
      ⟨(some 36), none, false, .call (.c (.fn (.func I.burrowcase_Codes_Next) [] [])) [(.t 35), (.c (.int .i64 2))]⟩,
      ⟨(some 37), none, true, .bin .add .no (.c (.int .i64 2)) (.t 36)⟩,
      ⟨(some 4), none, true, .mv (.t 37)⟩])
  (.seq (.seq (.region [⟨(some 5), none, true, .mv (.c (.int .i64 0))⟩])
    (.block 0 (.loop burrowmake_Daemonl0)))
  burrowmake_Daemonc5))))⟩
/- burrow/burrowcase.New -/

def burrowcase_New : AFun := ⟨13, [.mv (.t 4)],
  .seq (.region [⟨(some 4), none, true, .mv (.c .np)⟩])
  (.seq (.region [⟨(some 5), none, true, .mv (.t 0)⟩,
      ⟨(some 6), none, true, .mv (.t 0)⟩,
      ⟨(some 7), none, true, .len (.t 6)⟩,
      ⟨(some 8), none, true, .mv (.t 1)⟩,
      ⟨(some 9), none, true, .mm false [(.t 7), (.t 8)]⟩,
      ⟨(some 10), none, false, .slice (.sl 1) (.t 5) none (some (.t 9)) none⟩,
      ⟨(some 11), none, false, .build (.st 2 [(.sl 1 [] true), (.int .i64 0)]) [(0, (.t 10))]⟩,
      ⟨(some 12), none, false, .box (.t 11)⟩,
      ⟨(some 4), none, true, .mv (.t 12)⟩])
  (.ret))⟩
/- burrow/fence.Reserve -/
def fence_Reserver0 : ACode :=
  .block 1 (.region [⟨(some 16), none, true, .mv (.t 8)⟩,
    ⟨(some 17), none, true, .mv (.t 8)⟩,
    ⟨(some 18), none, true, .nilCheck (.t 17)⟩,
    ⟨(some 19), none, true, .load true 76 (.t 18)⟩,
    ⟨(some 20), none, true, .fieldA 0 0 (.t 2)⟩,
    ⟨(some 21), none, true, .load true 10 (.t 20)⟩,
    ⟨(some 22), none, true, .load false 1 (.t 3)⟩,
    ⟨(some 23), none, false, .callq (.c (.fn (.func I.fence_Edge) [] [])) [(.t 19), (.t 21), (.t 22)]⟩,
    ⟨(some 24), none, true, .nilCheck (.t 16)⟩,
    ⟨(some 25), none, true, .fieldA 5 67 (.t 24)⟩,
    ⟨none, none, false, .store 1 (.t 25) (.t 23)⟩])
def fence_Reserver1 : ACode :=
  .block 3 (.regionD [⟨(some 28), none, true, .mv (.t 9)⟩,
    ⟨(some 29), none, true, .mv (.t 9)⟩,
    ⟨(some 30), none, true, .mv (.t 9)⟩,
    ⟨(some 31), none, true, .nilCheck (.t 30)⟩,
    ⟨(some 32), none, true, .load true 76 (.t 31)⟩,
    ⟨(some 33), none, true, .fieldA 0 0 (.t 2)⟩,
    ⟨(some 34), none, true, .load true 10 (.t 33)⟩,
    ⟨(some 35), none, true, .load false 1 (.t 3)⟩,
    ⟨(some 36), none, false, .callq (.c (.fn (.func I.fence_Edge) [] [])) [(.t 32), (.t 34), (.t 35)]⟩,
    ⟨(some 37), none, true, .fieldA 0 0 (.t 2)⟩,
    ⟨(some 38), none, true, .fieldA 1 1 (.t 37)⟩,
    ⟨(some 39), none, true, .load false 1 (.t 38)⟩,
    ⟨(some 40), none, true, .nilCheck (.t 28)⟩,
    ⟨(some 41), none, true, .fieldA 4 66 (.t 40)⟩,
    ⟨none, none, false, .store 1 (.t 41) (.t 36)⟩,
    ⟨(some 42), none, true, .nilCheck (.t 29)⟩,
    ⟨(some 43), none, true, .fieldA 5 67 (.t 42)⟩,
    ⟨none, none, false, .store 1 (.t 43) (.t 39)⟩] [0, 1, 2, 3, 4, 5, 6, 7, 8, 9, 10, 11, 12, 13, 14, 15, 16, 17] [9, 10, 11, 14])
def fence_Reservec2 : ACode :=
  .seq (.regionD [⟨(some 44), none, true, .load true 148 (.t 6)⟩,
      ⟨(some 45), none, true, .load true 148 (.t 7)⟩,
      ⟨none, none, false, .store 148 (.t 4) (.t 44)⟩,
      ⟨none, none, false, .store 148 (.t 5) (.t 45)⟩] [0, 1, 2, 3] [1, 2])
  (.ret)
def fence_Reservec3 : ACode :=
  .seq (.seq (.region [⟨(some 26), none, false, .call (.c (.fn (.func I.fence_sessions) [] [])) [(.t 7)]⟩])
    (.block 2 (.rangeF (.t 26) [27] (.region [⟨(some 9), none, true, .mv (.t 27)⟩]) fence_Reserver1)))
  fence_Reservec2
def fence_Reserve : AFun := ⟨46, [.load true 148 (.t 4), .load true 148 (.t 5)],
  .seq (.region [⟨(some 2), none, false, .box (.t 0)⟩,
      ⟨(some 3), none, false, .box (.t 1)⟩,
      ⟨(some 4), none, false, .alloc (.st 148 [(.st 10 [(.int .u64 0), (.int .u64 0), (.int .i64 0), (.int .i64 0), (.int .i64 0), (.int .i64 0), (.int .i64 0), (.int .i64 0), (.int .i64 0), (.int .i64 0)]), (.ar 1 32 (zr 32 (.int .u8 0))), (.ar 1 32 (zr 32 (.int .u8 0))), (.int .i64 0), (.ar 1 32 (zr 32 (.int .u8 0))), (.int .i64 0), (.sl 464 [] true), (.sl 50 [] true), (.sl 34 [] true), (.sl 34 [] true), (.ar 1 32 (zr 32 (.int .u8 0))), (.int .i64 0), (.sl 1 [] true), (.sl 19 [] true), (.int .i64 0)])⟩,
      ⟨(some 5), none, false, .alloc (.st 148 [(.st 10 [(.int .u64 0), (.int .u64 0), (.int .i64 0), (.int .i64 0), (.int .i64 0), (.int .i64 0), (.int .i64 0), (.int .i64 0), (.int .i64 0), (.int .i64 0)]), (.ar 1 32 (zr 32 (.int .u8 0))), (.ar 1 32 (zr 32 (.int .u8 0))), (.int .i64 0), (.ar 1 32 (zr 32 (.int .u8 0))), (.int .i64 0), (.sl 464 [] true), (.sl 50 [] true), (.sl 34 [] true), (.sl 34 [] true), (.ar 1 32 (zr 32 (.int .u8 0))), (.int .i64 0), (.sl 1 [] true), (.sl 19 [] true), (.int .i64 0)])⟩])
  (.seq (.regionD [⟨(some 10), none, true, .load true 148 (.t 2)⟩,
      ⟨(some 11), none, false, .call (.c (.fn (.func I.own_Daemon) [] [])) [(.t 10)]⟩,
      ⟨(some 12), none, true, .load true 148 (.t 2)⟩,
      ⟨(some 13), none, false, .call (.c (.fn (.func I.own_Daemon) [] [])) [(.t 12)]⟩,
      ⟨(some 6), none, false, .alloc (.st 148 [(.st 10 [(.int .u64 0), (.int .u64 0), (.int .i64 0), (.int .i64 0), (.int .i64 0), (.int .i64 0), (.int .i64 0), (.int .i64 0), (.int .i64 0), (.int .i64 0)]), (.ar 1 32 (zr 32 (.int .u8 0))), (.ar 1 32 (zr 32 (.int .u8 0))), (.int .i64 0), (.ar 1 32 (zr 32 (.int .u8 0))), (.int .i64 0), (.sl 464 [] true), (.sl 50 [] true), (.sl 34 [] true), (.sl 34 [] true), (.ar 1 32 (zr 32 (.int .u8 0))), (.int .i64 0), (.sl 1 [] true), (.sl 19 [] true), (.int .i64 0)])⟩,
      ⟨(some 7), none, false, .alloc (.st 148 [(.st 10 [(.int .u64 0), (.int .u64 0), (.int .i64 0), (.int .i64 0), (.int .i64 0), (.int .i64 0), (.int .i64 0), (.int .i64 0), (.int .i64 0), (.int .i64 0)]), (.ar 1 32 (zr 32 (.int .u8 0))), (.ar 1 32 (zr 32 (.int .u8 0))), (.int .i64 0), (.ar 1 32 (zr 32 (.int .u8 0))), (.int .i64 0), (.sl 464 [] true), (.sl 50 [] true), (.sl 34 [] true), (.sl 34 [] true), (.ar 1 32 (zr 32 (.int .u8 0))), (.int .i64 0), (.sl 1 [] true), (.sl 19 [] true), (.int .i64 0)])⟩,
      ⟨none, none, false, .store 148 (.t 6) (.t 11)⟩,
      ⟨none, none, false, .store 148 (.t 7) (.t 13)⟩] [0, 2, 1, 3, 4, 5, 6, 7] [0, 2, 1, 4, 5])
  (.seq (.seq (.region [⟨(some 14), none, false, .call (.c (.fn (.func I.fence_sessions) [] [])) [(.t 6)]⟩])
    (.block 0 (.rangeF (.t 14) [15] (.region [⟨(some 8), none, true, .mv (.t 15)⟩]) fence_Reserver0)))
  fence_Reservec3))⟩
/- burrow/burrowref29.Reserve -/

def burrowref29_Reserve : AFun := ⟨12, [.load true 148 (.t 4), .load true 148 (.t 5)],
  .seq (.region [⟨(some 2), none, false, .box (.t 0)⟩,
      ⟨(some 4), none, false, .alloc (.st 148 [(.st 10 [(.int .u64 0), (.int .u64 0), (.int .i64 0), (.int .i64 0), (.int .i64 0), (.int .i64 0), (.int .i64 0), (.int .i64 0), (.int .i64 0), (.int .i64 0)]), (.ar 1 32 (zr 32 (.int .u8 0))), (.ar 1 32 (zr 32 (.int .u8 0))), (.int .i64 0), (.ar 1 32 (zr 32 (.int .u8 0))), (.int .i64 0), (.sl 464 [] true), (.sl 50 [] true), (.sl 34 [] true), (.sl 34 [] true), (.ar 1 32 (zr 32 (.int .u8 0))), (.int .i64 0), (.sl 1 [] true), (.sl 19 [] true), (.int .i64 0)])⟩,
      ⟨(some 5), none, false, .alloc (.st 148 [(.st 10 [(.int .u64 0), (.int .u64 0), (.int .i64 0), (.int .i64 0), (.int .i64 0), (.int .i64 0), (.int .i64 0), (.int .i64 0), (.int .i64 0), (.int .i64 0)]), (.ar 1 32 (zr 32 (.int .u8 0))), (.ar 1 32 (zr 32 (.int .u8 0))), (.int .i64 0), (.ar 1 32 (zr 32 (.int .u8 0))), (.int .i64 0), (.sl 464 [] true), (.sl 50 [] true), (.sl 34 [] true), (.sl 34 [] true), (.ar 1 32 (zr 32 (.int .u8 0))), (.int .i64 0), (.sl 1 [] true), (.sl 19 [] true), (.int .i64 0)])⟩])
  (.seq (.region [⟨(some 6), none, true, .load true 148 (.t 2)⟩,
      ⟨(some 7), none, true, .mv (.t 1)⟩,
      ⟨(some 8), none, false, .callq (.c (.fn (.func I.burrowref29_changed) [] [])) [(.t 6), (.c (.int .i64 1)), (.t 7)]⟩,
      ⟨(some 9), none, true, .load true 148 (.t 2)⟩,
      ⟨(some 10), none, true, .mv (.t 1)⟩,
      ⟨(some 11), none, false, .callq (.c (.fn (.func I.burrowref29_changed) [] [])) [(.t 9), (.c (.int .i64 2)), (.t 10)]⟩,
      ⟨none, none, false, .store 148 (.t 4) (.t 8)⟩,
      ⟨none, none, false, .store 148 (.t 5) (.t 11)⟩])
  (.ret))⟩
/- burrow/burrowref25.Same -/
def burrowref25_Samel0 : ACode :=
  .seq (.region [⟨(some 80), none, true, .bin .lss .no (.t 79) (.t 78)⟩])
  (.seq (.cond (.t 80)
      (.skip)
      (.exit 0))
  (.seq (.block 1 (.seq (.region [⟨(some 81), none, true, .mv (.t 79)⟩,
        ⟨(some 5), none, true, .mv (.t 81)⟩])
    (.seq (.region [⟨(some 82), none, true, .fieldA 6 108 (.t 2)⟩,
        ⟨(some 83), none, true, .load false 1 (.t 82)⟩,
        ⟨(some 84), none, true, .mv (.t 5)⟩,
        ⟨(some 85), none, false, .indexA (.sl 464) (.t 83) (.t 84)⟩,
        ⟨(some 86), none, true, .load true 464 (.t 85)⟩,
        ⟨(some 87), none, true, .fieldA 6 108 (.t 3)⟩,
        ⟨(some 88), none, true, .load false 1 (.t 87)⟩,
        ⟨(some 89), none, true, .mv (.t 5)⟩,
        ⟨(some 90), none, false, .indexA (.sl 464) (.t 88) (.t 89)⟩,
        ⟨(some 91), none, true, .load true 464 (.t 90)⟩,
        ⟨(some 92), none, false, .callq (.c (.fn (.func I.burrowref25_SamePeer) [] [])) [(.t 86), (.t 91)]⟩,
        ⟨(some 93), none, true, .un .not (.t 92)⟩])
    (.cond (.t 93)
      (.seq (.region [⟨(some 4), none, true, .mv (.c (.bl false))⟩])
      (.ret))
      (.skip)))))
  (.region [⟨(some 94), none, true, .bin .add .no (.t 79) (.c (.int .i64 1))⟩,
    ⟨(some 79), none, true, .mv (.t 94)⟩])))
def burrowref25_Samec1 : ACode :=
  .seq (.region [⟨(some 95), none, true, .load true 148 (.t 2)⟩,
      ⟨(some 96), none, true, .load true 148 (.t 3)⟩,
      ⟨(some 97), none, false, .call (.c (.fn (.func I.burrowref25_sameLists) [] [])) [(.t 95), (.t 96)]⟩,
      ⟨(some 4), none, true, .mv (.t 97)⟩])
  (.ret)
def burrowref25_Same : AFun := ⟨98, [.mv (.t 4)],
  .seq (.region [⟨(some 2), none, false, .box (.t 0)⟩,
      ⟨(some 3), none, false, .box (.t 1)⟩,
      ⟨(some 4), none, true, .mv (.c (.bl false))⟩])
  (.seq (.seq (.region [⟨(some 6), none, true, .fieldA 0 0 (.t 2)⟩,
        ⟨(some 7), none, true, .load true 10 (.t 6)⟩,
        ⟨(some 8), none, true, .fieldA 0 0 (.t 3)⟩,
        ⟨(some 9), none, true, .load true 10 (.t 8)⟩,
        ⟨(some 10), none, true, .bin .neq (.sh (.st [(.i .u64), (.i .u64), (.i .i64), (.i .i64), (.i .i64), (.i .i64), (.i .i64), (.i .i64), (.i .i64), (.i .i64)])) (.t 7) (.t 9)⟩,
        ⟨(some 11), none, true, .mv (.t 10)⟩,
        ⟨(some 12), (some (11, false)), true, .fieldA 1 10 (.t 2)⟩,
        ⟨(some 13), (some (11, false)), true, .load true 32 (.t 12)⟩,
        ⟨(some 14), (some (11, false)), true, .fieldA 1 10 (.t 3)⟩,
        ⟨(some 15), (some (11, false)), true, .load true 32 (.t 14)⟩,
        ⟨(some 16), (some (11, false)), true, .bin .neq (.sh (.ar 32 (.i .u8))) (.t 13) (.t 15)⟩,
        ⟨(some 17), none, true, .pick (.t 11) (.c (.bl true)) (.t 16)⟩,
        ⟨(some 18), none, true, .mv (.t 17)⟩,
        ⟨(some 19), (some (18, false)), true, .fieldA 2 42 (.t 2)⟩,
        ⟨(some 20), (some (18, false)), true, .load true 32 (.t 19)⟩,
        ⟨(some 21), (some (18, false)), true, .fieldA 2 42 (.t 3)⟩,
        ⟨(some 22), (some (18, false)), true, .load true 32 (.t 21)⟩,
        ⟨(some 23), (some (18, false)), true, .bin .neq (.sh (.ar 32 (.i .u8))) (.t 20) (.t 22)⟩,
        ⟨(some 24), none, true, .pick (.t 18) (.c (.bl true)) (.t 23)⟩,
        ⟨(some 25), none, true, .mv (.t 24)⟩,
        ⟨(some 26), (some (25, false)), true, .fieldA 3 74 (.t 2)⟩,
        ⟨(some 27), (some (25, false)), true, .load false 1 (.t 26)⟩,
        ⟨(some 28), (some (25, false)), true, .fieldA 3 74 (.t 3)⟩,
        ⟨(some 29), (some (25, false)), true, .load false 1 (.t 28)⟩,
        ⟨(some 30), (some (25, false)), true, .bin .neq .no (.t 27) (.t 29)⟩,
        ⟨(some 31), none, true, .pick (.t 25) (.c (.bl true)) (.t 30)⟩,
        ⟨(some 32), none, true, .mv (.t 31)⟩,
        ⟨(some 33), (some (32, false)), true, .fieldA 4 75 (.t 2)⟩,
        ⟨(some 34), (some (32, false)), true, .load true 32 (.t 33)⟩,
        ⟨(some 35), (some (32, false)), true, .fieldA 4 75 (.t 3)⟩,
        ⟨(some 36), (some (32, false)), true, .load true 32 (.t 35)⟩,
        ⟨(some 37), (some (32, false)), true, .bin .neq (.sh (.ar 32 (.i .u8))) (.t 34) (.t 36)⟩,
        ⟨(some 38), none, true, .pick (.t 32) (.c (.bl true)) (.t 37)⟩,
        ⟨(some 39), none, true, .mv (.t 38)⟩,
        ⟨(some 40), (some (39, false)), true, .fieldA 5 107 (.t 2)⟩,
        ⟨(some 41), (some (39, false)), true, .load false 1 (.t 40)⟩,
        ⟨(some 42), (some (39, false)), true, .fieldA 5 107 (.t 3)⟩,
        ⟨(some 43), (some (39, false)), true, .load false 1 (.t 42)⟩,
        ⟨(some 44), (some (39, false)), true, .bin .neq .no (.t 41) (.t 43)⟩,
        ⟨(some 45), none, true, .pick (.t 39) (.c (.bl true)) (.t 44)⟩,
        ⟨(some 46), none, true, .mv (.t 45)⟩,
        ⟨(some 47), (some (46, false)), true, .fieldA 10 112 (.t 2)⟩,
        ⟨(some 48), (some (46, false)), true, .load true 32 (.t 47)⟩,
        ⟨(some 49), (some (46, false)), true, .fieldA 10 112 (.t 3)⟩,
        ⟨(some 50), (some (46, false)), true, .load true 32 (.t 49)⟩,
        ⟨(some 51), (some (46, false)), true, .bin .neq (.sh (.ar 32 (.i .u8))) (.t 48) (.t 50)⟩,
        ⟨(some 52), none, true, .pick (.t 46) (.c (.bl true)) (.t 51)⟩,
        ⟨(some 53), none, true, .mv (.t 52)⟩,
        ⟨(some 54), (some (53, false)), true, .fieldA 11 144 (.t 2)⟩,
        ⟨(some 55), (some (53, false)), true, .load false 1 (.t 54)⟩,
        ⟨(some 56), (some (53, false)), true, .fieldA 11 144 (.t 3)⟩,
        ⟨(some 57), (some (53, false)), true, .load false 1 (.t 56)⟩,
        ⟨(some 58), (some (53, false)), true, .bin .neq .no (.t 55) (.t 57)⟩,
        ⟨(some 59), none, true, .pick (.t 53) (.c (.bl true)) (.t 58)⟩,
        ⟨(some 60), none, true, .mv (.t 59)⟩,
        ⟨(some 61), (some (60, false)), true, .fieldA 14 147 (.t 2)⟩,
        ⟨(some 62), (some (60, false)), true, .load false 1 (.t 61)⟩,
        ⟨(some 63), (some (60, false)), true, .fieldA 14 147 (.t 3)⟩,
        ⟨(some 64), (some (60, false)), true, .load false 1 (.t 63)⟩,
        ⟨(some 65), (some (60, false)), true, .bin .neq .no (.t 62) (.t 64)⟩,
        ⟨(some 66), none, true, .pick (.t 60) (.c (.bl true)) (.t 65)⟩,
        ⟨(some 67), none, true, .mv (.t 66)⟩,
        ⟨(some 68), (some (67, false)), true, .fieldA 6 108 (.t 2)⟩,
        ⟨(some 69), (some (67, false)), true, .load false 1 (.t 68)⟩,
        ⟨(some 70), (some (67, false)), true, .len (.t 69)⟩,
        ⟨(some 71), (some (67, false)), true, .fieldA 6 108 (.t 3)⟩,
        ⟨(some 72), (some (67, false)), true, .load false 1 (.t 71)⟩,
        ⟨(some 73), (some (67, false)), true, .len (.t 72)⟩,
        ⟨(some 74), (some (67, false)), true, .bin .neq .no (.t 70) (.t 73)⟩,
        ⟨(some 75), none, true, .pick (.t 67) (.c (.bl true)) (.t 74)⟩])
    (.cond (.t 75)
      (.seq (.region [⟨(some 4), none, true, .mv (.c (.bl false))⟩])
      (.ret))
      (.skip)))
  (.seq (.seq (.region [⟨(some 76), none, true, .fieldA 6 108 (.t 2)⟩,
        ⟨(some 77), none, true, .load false 1 (.t 76)⟩,
        ⟨(some 78), none, true, .len (.t 77)⟩,
        ⟨(some 79), none, true, .mv (.c (.int .i64 0))⟩])
    (.block 0 (.loop burrowref25_Samel0)))
  burrowref25_Samec1))⟩
/- burrow/fence.Lift -/
def fence_Liftr0 : ACode :=
  .block 1 (.region [⟨(some 8), none, true, .mv (.t 3)⟩,
    ⟨(some 9), none, true, .fieldA 0 0 (.t 1)⟩,
    ⟨(some 10), none, true, .fieldA 1 1 (.t 9)⟩,
    ⟨(some 11), none, true, .load false 1 (.t 10)⟩,
    ⟨(some 12), none, true, .nilCheck (.t 8)⟩,
    ⟨(some 13), none, true, .fieldA 5 67 (.t 12)⟩,
    ⟨none, none, false, .store 1 (.t 13) (.t 11)⟩])
def fence_Liftc1 : ACode :=
  .seq (.region [⟨(some 14), none, true, .load true 148 (.t 1)⟩,
      ⟨none, none, false, .store 148 (.t 2) (.t 14)⟩])
  (.ret)
def fence_Lift : AFun := ⟨15, [.load true 148 (.t 2)],
  .seq (.region [⟨(some 1), none, false, .box (.t 0)⟩,
      ⟨(some 2), none, false, .alloc (.st 148 [(.st 10 [(.int .u64 0), (.int .u64 0), (.int .i64 0), (.int .i64 0), (.int .i64 0), (.int .i64 0), (.int .i64 0), (.int .i64 0), (.int .i64 0), (.int .i64 0)]), (.ar 1 32 (zr 32 (.int .u8 0))), (.ar 1 32 (zr 32 (.int .u8 0))), (.int .i64 0), (.ar 1 32 (zr 32 (.int .u8 0))), (.int .i64 0), (.sl 464 [] true), (.sl 50 [] true), (.sl 34 [] true), (.sl 34 [] true), (.ar 1 32 (zr 32 (.int .u8 0))), (.int .i64 0), (.sl 1 [] true), (.sl 19 [] true), (.int .i64 0)])⟩])
  (.seq (.region [⟨(some 4), none, true, .load true 148 (.t 1)⟩,
      ⟨(some 5), none, false, .call (.c (.fn (.func I.own_Daemon) [] [])) [(.t 4)]⟩,
      ⟨none, none, false, .store 148 (.t 1) (.t 5)⟩])
  (.seq (.seq (.region [⟨(some 6), none, false, .call (.c (.fn (.func I.fence_sessions) [] [])) [(.t 1)]⟩])
    (.block 0 (.rangeF (.t 6) [7] (.region [⟨(some 3), none, true, .mv (.t 7)⟩]) fence_Liftr0)))
  fence_Liftc1))⟩
/- burrow/burrowref29.Lift -/

def burrowref29_Lift : AFun := ⟨5, [.load true 148 (.t 2)],
  .seq (.region [⟨(some 1), none, false, .box (.t 0)⟩,
      ⟨(some 2), none, false, .alloc (.st 148 [(.st 10 [(.int .u64 0), (.int .u64 0), (.int .i64 0), (.int .i64 0), (.int .i64 0), (.int .i64 0), (.int .i64 0), (.int .i64 0), (.int .i64 0), (.int .i64 0)]), (.ar 1 32 (zr 32 (.int .u8 0))), (.ar 1 32 (zr 32 (.int .u8 0))), (.int .i64 0), (.ar 1 32 (zr 32 (.int .u8 0))), (.int .i64 0), (.sl 464 [] true), (.sl 50 [] true), (.sl 34 [] true), (.sl 34 [] true), (.ar 1 32 (zr 32 (.int .u8 0))), (.int .i64 0), (.sl 1 [] true), (.sl 19 [] true), (.int .i64 0)])⟩])
  (.seq (.region [⟨(some 3), none, true, .load true 148 (.t 1)⟩,
      ⟨(some 4), none, false, .call (.c (.fn (.func I.burrowref29_changed) [] [])) [(.t 3), (.c (.int .i64 3)), (.c (.int .u64 0))]⟩,
      ⟨none, none, false, .store 148 (.t 2) (.t 4)⟩])
  (.ret))⟩
/- burrow/fence.Edge -/

def fence_Edge : AFun := ⟨25, [.mv (.t 6)],
  .seq (.region [⟨(some 3), none, false, .box (.t 0)⟩,
      ⟨(some 4), none, false, .box (.t 1)⟩,
      ⟨(some 6), none, true, .mv (.c (.int .u64 0))⟩])
  (.seq (.region [⟨(some 7), none, true, .mv (.c (.int .u64 18446744073709551615))⟩])
  (.seq (.seq (.region [⟨(some 8), none, true, .mv (.t 2)⟩,
        ⟨(some 9), none, true, .mv (.t 7)⟩,
        ⟨(some 10), none, true, .fieldA 4 66 (.t 3)⟩,
        ⟨(some 11), none, true, .load false 1 (.t 10)⟩,
        ⟨(some 12), none, true, .bin .sub .no (.t 9) (.t 11)⟩,
        ⟨(some 13), none, true, .bin .leq .no (.t 8) (.t 12)⟩])
    (.cond (.t 13)
      (.region [⟨(some 14), none, true, .fieldA 4 66 (.t 3)⟩,
        ⟨(some 15), none, true, .load false 1 (.t 14)⟩,
        ⟨(some 16), none, true, .mv (.t 2)⟩,
        ⟨(some 17), none, true, .bin .add .no (.t 15) (.t 16)⟩,
        ⟨(some 7), none, true, .mv (.t 17)⟩])
      (.skip)))
  (.seq (.region [⟨(some 18), none, true, .fieldA 4 66 (.t 3)⟩,
      ⟨(some 19), none, true, .load false 1 (.t 18)⟩,
      ⟨(some 20), none, true, .mv (.t 7)⟩,
      ⟨(some 21), none, true, .fieldA 1 1 (.t 4)⟩,
      ⟨(some 22), none, true, .load false 1 (.t 21)⟩,
      ⟨(some 23), none, true, .mm false [(.t 20), (.t 22)]⟩,
      ⟨(some 24), none, true, .mm true [(.t 19), (.t 23)]⟩,
      ⟨(some 6), none, true, .mv (.t 24)⟩])
  (.ret))))⟩
/- burrow/burrowref29.Edge -/

def burrowref29_Edge : AFun := ⟨23, [.mv (.t 6)],
  .seq (.region [⟨(some 3), none, false, .box (.t 0)⟩,
      ⟨(some 4), none, false, .box (.t 1)⟩,
      ⟨(some 6), none, true, .mv (.c (.int .u64 0))⟩])
  (.seq (.region [⟨(some 8), none, true, .fieldA 4 66 (.t 3)⟩,
      ⟨(some 9), none, true, .load false 1 (.t 8)⟩,
      ⟨(some 10), none, true, .mv (.t 2)⟩,
      ⟨(some 11), none, true, .bin .add .no (.t 9) (.t 10)⟩,
      ⟨(some 7), none, true, .mv (.t 11)⟩])
  (.seq (.seq (.region [⟨(some 12), none, true, .mv (.t 7)⟩,
        ⟨(some 13), none, true, .fieldA 4 66 (.t 3)⟩,
        ⟨(some 14), none, true, .load false 1 (.t 13)⟩,
        ⟨(some 15), none, true, .bin .lss .no (.t 12) (.t 14)⟩])
    (.cond (.t 15)
      (.region [⟨(some 7), none, true, .mv (.c (.int .u64 18446744073709551615))⟩])
      (.skip)))
  (.seq (.region [⟨(some 16), none, true, .fieldA 4 66 (.t 3)⟩,
      ⟨(some 17), none, true, .load false 1 (.t 16)⟩,
      ⟨(some 18), none, true, .mv (.t 7)⟩,
      ⟨(some 19), none, true, .fieldA 1 1 (.t 4)⟩,
      ⟨(some 20), none, true, .load false 1 (.t 19)⟩,
      ⟨(some 21), none, true, .mm false [(.t 18), (.t 20)]⟩,
      ⟨(some 22), none, true, .mm true [(.t 17), (.t 21)]⟩,
      ⟨(some 6), none, true, .mv (.t 22)⟩])
  (.ret))))⟩
/- burrow/burrowlaw29.begun -/

def burrowlaw29_begun : AFun := ⟨5, [.mv (.t 0)],
  .seq (.region [⟨(some 0), none, true, .mv (.c (.bl false))⟩])
  (.seq (.region [⟨(some 1), none, false, .build (.st 76 [(.int .u32 0), (.int .u32 0), (.ar 1 32 (zr 32 (.int .u8 0))), (.ar 1 32 (zr 32 (.int .u8 0))), (.int .u64 0), (.int .u64 0), (.st 6 [(.bl false), (.int .u64 0), (.ar 1 4 (zr 4 (.int .u64 0)))]), (.int .i64 0), (.bl false)]) [(4, (.c (.int .u64 10)))]⟩,
      ⟨(some 2), none, false, .build (.st 10 [(.int .u64 0), (.int .u64 0), (.int .i64 0), (.int .i64 0), (.int .i64 0), (.int .i64 0), (.int .i64 0), (.int .i64 0), (.int .i64 0), (.int .i64 0)]) [(1, (.c (.int .u64 50)))]⟩,
      ⟨(some 3), none, false, .call (.c (.fn (.func I.fence_Edge) [] [])) [(.t 1), (.t 2), (.c (.int .u64 100))]⟩,
      ⟨(some 4), none, true, .bin .eql .no (.t 3) (.c (.int .u64 50))⟩,
      ⟨(some 0), none, true, .mv (.t 4)⟩])
  (.ret))⟩
/- (*burrow/burrowcase.Codes).Rules -/

def burrowcase_Codes_Rules : AFun := ⟨54, [.load true 10 (.t 2)],
  .seq (.region [⟨(some 2), none, false, .alloc (.st 10 [(.int .u64 0), (.int .u64 0), (.int .i64 0), (.int .i64 0), (.int .i64 0), (.int .i64 0), (.int .i64 0), (.int .i64 0), (.int .i64 0), (.int .i64 0)])⟩])
  (.seq (.region [⟨(some 4), none, true, .mv (.t 0)⟩,
      ⟨(some 5), none, false, .call (.c (.fn (.func I.burrowcase_Codes_Next) [] [])) [(.t 4), (.c (.int .i64 40))]⟩,
      ⟨(some 6), none, true, .convI .u64 (.t 5)⟩,
      ⟨(some 7), none, true, .bin .add .no (.c (.int .u64 1)) (.t 6)⟩,
      ⟨(some 8), none, true, .mv (.t 0)⟩,
      ⟨(some 9), none, false, .call (.c (.fn (.func I.burrowcase_Codes_Next) [] [])) [(.t 8), (.c (.int .i64 20))]⟩,
      ⟨(some 10), none, true, .bin .mul .no (.t 9) (.c (.int .i64 1000))⟩,
      ⟨(some 11), none, true, .bin .add .no (.c (.int .i64 20000)) (.t 10)⟩,
      ⟨(some 12), none, true, .mv (.t 0)⟩,
      ⟨(some 13), none, false, .call (.c (.fn (.func I.burrowcase_Codes_Next) [] [])) [(.t 12), (.c (.int .i64 5))]⟩,
      ⟨(some 14), none, true, .bin .mul .no (.t 13) (.c (.int .i64 500))⟩,
      ⟨(some 15), none, true, .bin .add .no (.c (.int .i64 1000)) (.t 14)⟩,
      ⟨(some 16), none, true, .mv (.t 0)⟩,
      ⟨(some 17), none, false, .call (.c (.fn (.func I.burrowcase_Codes_Next) [] [])) [(.t 16), (.c (.int .i64 5))]⟩,
      ⟨(some 18), none, true, .bin .mul .no (.t 17) (.c (.int .i64 1000))⟩,
      ⟨(some 19), none, true, .bin .add .no (.c (.int .i64 2000)) (.t 18)⟩,
      ⟨(some 20), none, true, .mv (.t 0)⟩,
      ⟨(some 21), none, false, .call (.c (.fn (.func I.burrowcase_Codes_Next) [] [])) [(.t 20), (.c (.int .i64 6))]⟩,
      ⟨(some 22), none, true, .bin .add .no (.c (.int .i64 1)) (.t 21)⟩,
      ⟨(some 23), none, true, .mv (.t 0)⟩,
      ⟨(some 24), none, false, .call (.c (.fn (.func I.burrowcase_Codes_Next) [] [])) [(.t 23), (.c (.int .i64 8))]⟩,
      ⟨(some 25), none, true, .bin .add .no (.c (.int .i64 1)) (.t 24)⟩,
      ⟨(some 26), none, false, .build (.st 10 [(.int .u64 0), (.int .u64 0), (.int .i64 0), (.int .i64 0), (.int .i64 0), (.int .i64 0), (.int .i64 0), (.int .i64 0), (.int .i64 0), (.int .i64 0)]) [(0, (.t 7)), (2, (.t 11)), (5, (.t 15)), (6, (.t 19)), (7, (.c (.int .i64 30000))), (8, (.t 22)), (9, (.t 25))]⟩,
      ⟨(some 3), none, false, .alloc (.st 10 [(.int .u64 0), (.int .u64 0), (.int .i64 0), (.int .i64 0), (.int .i64 0), (.int .i64 0), (.int .i64 0), (.int .i64 0), (.int .i64 0), (.int .i64 0)])⟩,
      ⟨none, none, false, .store 10 (.t 3) (.t 26)⟩])
  (.seq (.regionD [⟨(some 27), none, true, .fieldA 0 0 (.t 3)⟩,
      ⟨(some 28), none, true, .load false 1 (.t 27)⟩,
      ⟨(some 29), none, true, .mv (.t 0)⟩,
      ⟨(some 30), none, false, .call (.c (.fn (.func I.burrowcase_Codes_Next) [] [])) [(.t 29), (.c (.int .i64 60))]⟩,
      ⟨(some 31), none, true, .convI .u64 (.t 30)⟩,
      ⟨(some 32), none, true, .bin .add .no (.t 28) (.t 31)⟩,
      ⟨(some 33), none, true, .fieldA 1 1 (.t 3)⟩,
      ⟨none, none, false, .store 1 (.t 33) (.t 32)⟩] [0, 1, 2, 3, 4, 5, 6, 7] [0, 1, 3])
  (.seq (.regionD [⟨(some 34), none, true, .fieldA 2 2 (.t 3)⟩,
      ⟨(some 35), none, true, .load false 1 (.t 34)⟩,
      ⟨(some 36), none, true, .mv (.t 0)⟩,
      ⟨(some 37), none, false, .call (.c (.fn (.func I.burrowcase_Codes_Next) [] [])) [(.t 36), (.c (.int .i64 40))]⟩,
      ⟨(some 38), none, true, .bin .mul .no (.t 37) (.c (.int .i64 1000))⟩,
      ⟨(some 39), none, true, .bin .add .no (.t 35) (.t 38)⟩,
      ⟨(some 40), none, true, .fieldA 3 3 (.t 3)⟩,
      ⟨none, none, false, .store 1 (.t 40) (.t 39)⟩] [0, 1, 2, 3, 4, 5, 6, 7] [0, 1, 3])
  (.seq (.regionD [⟨(some 41), none, true, .fieldA 5 5 (.t 3)⟩,
      ⟨(some 42), none, true, .load false 1 (.t 41)⟩,
      ⟨(some 43), none, true, .mv (.t 0)⟩,
      ⟨(some 44), none, false, .call (.c (.fn (.func I.burrowcase_Codes_Next) [] [])) [(.t 43), (.c (.int .i64 5))]⟩,
      ⟨(some 45), none, true, .bin .add .no (.c (.int .i64 1)) (.t 44)⟩,
      ⟨(some 46), none, true, .bin .mul .no (.t 42) (.t 45)⟩,
      ⟨(some 47), none, true, .fieldA 4 4 (.t 3)⟩,
      ⟨none, none, false, .store 1 (.t 47) (.t 46)⟩] [0, 1, 2, 3, 4, 5, 6, 7] [0, 1, 3])
  (.seq (.seq (.region [⟨(some 48), none, true, .mv (.t 0)⟩,
        ⟨(some 49), none, false, .call (.c (.fn (.func I.burrowcase_Codes_Next) [] [])) [(.t 48), (.c (.int .i64 4))]⟩,
        ⟨(some 50), none, true, .bin .eql .no (.t 49) (.c (.int .i64 0))⟩])
    (.cond (.t 50)
      (.region [⟨(some 51), none, true, .fieldA 0 0 (.t 3)⟩,
        ⟨none, none, false, .store 1 (.t 51) (.c (.int .u64 1152921504606846976))⟩,
        ⟨(some 52), none, true, .fieldA 1 1 (.t 3)⟩,
        ⟨none, none, false, .store 1 (.t 52) (.c (.int .u64 18446744073709543423))⟩])
      (.skip)))
  (.seq (.region [⟨(some 53), none, true, .load true 10 (.t 3)⟩,
      ⟨none, none, false, .store 10 (.t 2) (.t 53)⟩])
  (.ret)))))))⟩
/- (*burrow/burrowcase.Codes).Key -/

def burrowcase_Codes_Key : AFun := ⟨9, [.load true 32 (.t 2)],
  .seq (.region [⟨(some 2), none, false, .alloc (.ar 1 32 (zr 32 (.int .u8 0)))⟩])
  (.seq (.region [⟨(some 3), none, false, .alloc (.ar 1 32 (zr 32 (.int .u8 0)))⟩])
  (.seq (.regionD [⟨(some 4), none, false, .slice (.ar 32 1) (.t 3) none none none⟩,
      ⟨(some 5), none, true, .mv (.t 0)⟩,
      ⟨(some 6), none, false, .call (.c (.fn (.func I.burrowcase_Codes_Bytes) [] [])) [(.t 5), (.c (.int .i64 32))]⟩,
      ⟨(some 7), none, false, .copy 1 (.t 4) (.t 6)⟩] [0, 1, 2, 3] [0, 2])
  (.seq (.region [⟨(some 8), none, true, .load true 32 (.t 3)⟩,
      ⟨none, none, false, .store 32 (.t 2) (.t 8)⟩])
  (.ret))))⟩
/- (*burrow/burrowcase.Codes).Big -/

def burrowcase_Codes_Big : AFun := ⟨19, [.mv (.t 4)],
  .seq (.region [⟨(some 4), none, true, .mv (.c (.int .i64 0))⟩])
  (.seq (.seq (.region [⟨(some 5), none, true, .mv (.t 1)⟩,
        ⟨(some 6), none, true, .bin .lss .no (.t 5) (.c (.int .i64 1))⟩])
    (.cond (.t 6)
      (.seq (.region [⟨(some 4), none, true, .mv (.c (.int .i64 0))⟩])
      (.ret))
      (.skip)))
  (.seq (.region [⟨(some 7), none, true, .mv (.t 0)⟩,
      ⟨(some 8), none, false, .call (.c (.fn (.func I.burrowcase_Codes_Next) [] [])) [(.t 7), (.c (.int .i64 256))]⟩,
      ⟨(some 9), none, false, .bin .shl .no (.t 8) (.c (.int .u64 16))⟩,
      ⟨(some 10), none, true, .mv (.t 0)⟩,
      ⟨(some 11), none, false, .call (.c (.fn (.func I.burrowcase_Codes_Next) [] [])) [(.t 10), (.c (.int .i64 256))]⟩,
      ⟨(some 12), none, false, .bin .shl .no (.t 11) (.c (.int .u64 8))⟩,
      ⟨(some 13), none, true, .bin .or .no (.t 9) (.t 12)⟩,
      ⟨(some 14), none, true, .mv (.t 0)⟩,
      ⟨(some 15), none, false, .call (.c (.fn (.func I.burrowcase_Codes_Next) [] [])) [(.t 14), (.c (.int .i64 256))]⟩,
      ⟨(some 16), none, true, .bin .or .no (.t 13) (.t 15)⟩,
      ⟨(some 17), none, true, .mv (.t 1)⟩,
      ⟨(some 18), none, false, .bin .rem .no (.t 16) (.t 17)⟩,
      ⟨(some 4), none, true, .mv (.t 18)⟩])
  (.ret)))⟩
/- (*burrow/burrowcase.Codes).Next -/

def burrowcase_Codes_Next : AFun := ⟨33, [.mv (.t 4)],
  .seq (.region [⟨(some 4), none, true, .mv (.c (.int .i64 0))⟩])
  (.seq (.seq (.region [⟨(some 5), none, true, .mv (.t 0)⟩,
        ⟨(some 6), none, false, .call (.c (.fn (.func I.burrowcase_Codes_Left) [] [])) [(.t 5)]⟩,
        ⟨(some 7), none, true, .un .not (.t 6)⟩,
        ⟨(some 8), none, true, .mv (.t 7)⟩,
        ⟨(some 9), (some (8, false)), true, .mv (.t 1)⟩,
        ⟨(some 10), (some (8, false)), true, .bin .lss .no (.t 9) (.c (.int .i64 1))⟩,
        ⟨(some 11), none, true, .pick (.t 8) (.c (.bl true)) (.t 10)⟩])
    (.cond (.t 11)
      (.seq (.region [⟨(some 4), none, true, .mv (.c (.int .i64 0))⟩])
      (.ret))
      (.skip)))
  (.seq (.region [⟨(some 12), none, true, .mv (.t 0)⟩,
      ⟨(some 13), none, true, .nilCheck (.t 12)⟩,
      ⟨(some 14), none, true, .fieldA 1 1 (.t 13)⟩,
      ⟨(some 15), none, true, .load false 1 (.t 14)⟩,
      ⟨(some 16), none, true, .bin .add .no (.t 15) (.c (.int .i64 1))⟩,
      ⟨(some 17), none, true, .nilCheck (.t 12)⟩,
      ⟨(some 18), none, true, .fieldA 1 1 (.t 17)⟩,
      ⟨none, none, false, .store 1 (.t 18) (.t 16)⟩])
  (.seq (.region [⟨(some 19), none, true, .mv (.t 0)⟩,
      ⟨(some 20), none, true, .nilCheck (.t 19)⟩,
      ⟨(some 21), none, true, .fieldA 0 0 (.t 20)⟩,
      ⟨(some 22), none, true, .load false 1 (.t 21)⟩,
      ⟨(some 23), none, true, .mv (.t 0)⟩,
      ⟨(some 24), none, true, .nilCheck (.t 23)⟩,
      ⟨(some 25), none, true, .fieldA 1 1 (.t 24)⟩,
      ⟨(some 26), none, true, .load false 1 (.t 25)⟩,
      ⟨(some 27), none, true, .bin .sub .no (.t 26) (.c (.int .i64 1))⟩,
      ⟨(some 28), none, false, .indexA (.sl 1) (.t 22) (.t 27)⟩,
      ⟨(some 29), none, true, .load false 1 (.t 28)⟩,
      ⟨(some 30), none, true, .convI .i64 (.t 29)⟩,
      ⟨(some 31), none, true, .mv (.t 1)⟩,
      ⟨(some 32), none, false, .bin .rem .no (.t 30) (.t 31)⟩,
      ⟨(some 4), none, true, .mv (.t 32)⟩])
  (.ret))))⟩
/- burrow/burrowmake.Peer -/

def burrowmake_Peer : AFun := ⟨8, [.load true 32 (.t 2)],
  .seq (.region [⟨(some 2), none, false, .alloc (.ar 1 32 (zr 32 (.int .u8 0)))⟩])
  (.seq (.region [⟨(some 3), none, true, .mv (.t 0)⟩,
      ⟨(some 4), none, true, .bin .add .no (.t 3) (.c (.int .i64 1))⟩,
      ⟨(some 5), none, true, .bin .mul .no (.c (.int .i64 40)) (.t 4)⟩,
      ⟨(some 6), none, true, .convI .u8 (.t 5)⟩,
      ⟨(some 7), none, false, .build (.ar 1 32 (zr 32 (.int .u8 0))) [(0, (.t 6)), (1, (.c (.int .u8 9))), (2, (.c (.int .u8 7)))]⟩,
      ⟨none, none, false, .store 32 (.t 2) (.t 7)⟩])
  (.ret))⟩
/- burrow/burrowmake.At -/

def burrowmake_At : AFun := ⟨11, [.load true 18 (.t 2)],
  .seq (.region [⟨(some 2), none, false, .alloc (.st 18 [(.st 17 [(.bl false), (.ar 1 16 (zr 16 (.int .u8 0)))]), (.int .i64 0)])⟩])
  (.seq (.region [⟨(some 3), none, true, .mv (.t 0)⟩,
      ⟨(some 4), none, true, .bin .add .no (.t 3) (.c (.int .i64 1))⟩,
      ⟨(some 5), none, true, .convI .u8 (.t 4)⟩,
      ⟨(some 6), none, false, .build (.ar 1 16 (zr 16 (.int .u8 0))) [(0, (.c (.int .u8 192))), (1, (.c (.int .u8 0))), (2, (.c (.int .u8 2))), (3, (.t 5))]⟩,
      ⟨(some 7), none, false, .build (.st 17 [(.bl false), (.ar 1 16 (zr 16 (.int .u8 0)))]) [(1, (.t 6))]⟩,
      ⟨(some 8), none, true, .mv (.t 0)⟩,
      ⟨(some 9), none, true, .bin .add .no (.c (.int .i64 1000)) (.t 8)⟩,
      ⟨(some 10), none, false, .build (.st 18 [(.st 17 [(.bl false), (.ar 1 16 (zr 16 (.int .u8 0)))]), (.int .i64 0)]) [(0, (.t 7)), (1, (.t 9))]⟩,
      ⟨none, none, false, .store 18 (.t 2) (.t 10)⟩])
  (.ret))⟩
/- burrow/burrowref14.Set -/
def burrowref14_Setl0 : ACode :=
  .seq (.seq (.region [⟨(some 13), none, true, .mv (.t 6)⟩,
        ⟨(some 14), none, true, .mv (.t 5)⟩,
        ⟨(some 15), none, true, .len (.t 14)⟩,
        ⟨(some 16), none, true, .bin .lss .no (.t 13) (.t 15)⟩,
        ⟨(some 17), none, true, .mv (.t 16)⟩,
        ⟨(some 18), (some (17, true)), true, .load true 34 (.t 3)⟩,
        ⟨(some 19), (some (17, true)), true, .mv (.t 5)⟩,
        ⟨(some 20), (some (17, true)), true, .mv (.t 6)⟩,
        ⟨(some 21), (some (17, true)), false, .indexA (.sl 34) (.t 19) (.t 20)⟩,
        ⟨(some 22), (some (17, true)), false, .load true 34 (.t 21)⟩,
        ⟨(some 23), (some (17, true)), false, .callq (.c (.fn (.func I.burrowref14_LessTimer) [] [])) [(.t 18), (.t 22)]⟩,
        ⟨(some 24), (some (17, true)), false, .un .not (.t 23)⟩,
        ⟨(some 25), none, true, .pick (.t 17) (.t 24) (.c (.bl false))⟩])
    (.cond (.t 25)
      (.skip)
      (.exit 0)))
  (.block 1 (.region [⟨(some 26), none, true, .mv (.t 6)⟩,
    ⟨(some 27), none, true, .bin .add .no (.t 26) (.c (.int .i64 1))⟩,
    ⟨(some 6), none, true, .mv (.t 27)⟩]))
def burrowref14_Setc1 : ACode :=
  .seq (.regionD [⟨(some 28), none, true, .mv (.t 5)⟩,
      ⟨(some 29), none, true, .mv (.t 6)⟩,
      ⟨(some 30), none, true, .mv (.t 6)⟩,
      ⟨(some 31), none, false, .slice (.sl 34) (.t 28) none (some (.t 29)) (some (.t 30))⟩,
      ⟨(some 32), none, true, .load true 34 (.t 3)⟩,
      ⟨(some 33), none, false, .buildSlice true 34 (.st 34 [(.int .i64 0), (.ar 1 32 (zr 32 (.int .u8 0))), (.int .i64 0)]) 1 [(0, (.t 32))]⟩,
      ⟨(some 34), none, true, .mv (.t 5)⟩,
      ⟨(some 35), none, true, .mv (.t 6)⟩,
      ⟨(some 36), none, false, .slice (.sl 34) (.t 34) (some (.t 35)) none none⟩,
      ⟨(some 37), none, false, .append 34 48 false (.t 33) (.t 36)⟩,
      ⟨(some 38), none, false, .append 34 48 false (.t 31) (.t 37)⟩,
      ⟨(some 4), none, true, .mv (.t 38)⟩] [0, 1, 2, 3, 4, 6, 7, 8, 5, 9, 10, 11] [3, 8, 5, 9])
  (.ret)
def burrowref14_Set : AFun := ⟨39, [.mv (.t 4)],
  .seq (.region [⟨(some 3), none, false, .box (.t 1)⟩,
      ⟨(some 4), none, true, .mv (.c (.sl 34 [] true))⟩])
  (.seq (.region [⟨(some 7), none, true, .mv (.t 0)⟩,
      ⟨(some 8), none, true, .fieldA 1 1 (.t 3)⟩,
      ⟨(some 9), none, true, .load true 32 (.t 8)⟩,
      ⟨(some 10), none, true, .fieldA 2 33 (.t 3)⟩,
      ⟨(some 11), none, true, .load false 1 (.t 10)⟩,
      ⟨(some 12), none, false, .call (.c (.fn (.func I.burrowref14_Cancel) [] [])) [(.t 7), (.t 9), (.t 11)]⟩,
      ⟨(some 5), none, true, .mv (.t 12)⟩])
  (.seq (.region [⟨(some 6), none, true, .mv (.c (.int .i64 0))⟩])
  (.seq (.block 0 (.loop burrowref14_Setl0))
  burrowref14_Setc1)))⟩
/- burrow/burrowref14.InsertRoute -/
def burrowref14_InsertRoutel0 : ACode :=
  .seq (.region [⟨(some 19), none, true, .bin .lss .no (.t 18) (.t 17)⟩])
  (.seq (.cond (.t 19)
      (.skip)
      (.exit 0))
  (.seq (.block 1 (.seq (.region [⟨(some 20), none, true, .mv (.t 18)⟩,
        ⟨(some 9), none, true, .mv (.t 20)⟩])
    (.seq (.region [⟨(some 21), none, true, .mv (.t 8)⟩,
        ⟨(some 22), none, true, .mv (.t 9)⟩,
        ⟨(some 23), none, false, .indexA (.sl 50) (.t 21) (.t 22)⟩,
        ⟨(some 24), none, true, .fieldA 0 0 (.t 23)⟩,
        ⟨(some 25), none, true, .load true 18 (.t 24)⟩,
        ⟨(some 26), none, true, .load true 18 (.t 4)⟩,
        ⟨(some 27), none, true, .bin .eql (.sh (.st [(.st [.b, (.ar 16 (.i .u8))]), (.i .i64)])) (.t 25) (.t 26)⟩])
    (.cond (.t 27)
      (.seq (.region [⟨(some 28), none, true, .mv (.t 8)⟩,
          ⟨(some 29), none, true, .mv (.t 9)⟩,
          ⟨(some 30), none, true, .load true 32 (.t 5)⟩,
          ⟨(some 31), none, false, .indexA (.sl 50) (.t 28) (.t 29)⟩,
          ⟨(some 32), none, true, .fieldA 1 18 (.t 31)⟩,
          ⟨none, none, false, .store 32 (.t 32) (.t 30)⟩])
      (.seq (.region [⟨(some 33), none, true, .mv (.t 8)⟩,
          ⟨(some 6), none, true, .mv (.t 33)⟩,
          ⟨(some 7), none, true, .mv (.c (.int .i64 0))⟩])
      (.ret)))
      (.skip)))))
  (.region [⟨(some 34), none, true, .bin .add .no (.t 18) (.c (.int .i64 1))⟩,
    ⟨(some 18), none, true, .mv (.t 34)⟩])))
def burrowref14_InsertRoutel1 : ACode :=
  .seq (.seq (.region [⟨(some 38), none, true, .mv (.t 10)⟩,
        ⟨(some 39), none, true, .mv (.t 8)⟩,
        ⟨(some 40), none, true, .len (.t 39)⟩,
        ⟨(some 41), none, true, .bin .lss .no (.t 38) (.t 40)⟩,
        ⟨(some 42), none, true, .mv (.t 41)⟩,
        ⟨(some 43), (some (42, true)), true, .load true 18 (.t 4)⟩,
        ⟨(some 44), (some (42, true)), true, .mv (.t 8)⟩,
        ⟨(some 45), (some (42, true)), true, .mv (.t 10)⟩,
        ⟨(some 46), (some (42, true)), false, .indexA (.sl 50) (.t 44) (.t 45)⟩,
        ⟨(some 47), (some (42, true)), false, .fieldA 0 0 (.t 46)⟩,
        ⟨(some 48), (some (42, true)), false, .load true 18 (.t 47)⟩,
        ⟨(some 49), (some (42, true)), false, .callq (.c (.fn (.func I.burrowref14_before) [] [])) [(.t 43), (.t 48)]⟩,
        ⟨(some 50), (some (42, true)), false, .un .not (.t 49)⟩,
        ⟨(some 51), none, true, .pick (.t 42) (.t 50) (.c (.bl false))⟩])
    (.cond (.t 51)
      (.skip)
      (.exit 2)))
  (.block 3 (.region [⟨(some 52), none, true, .mv (.t 10)⟩,
    ⟨(some 53), none, true, .bin .add .no (.t 52) (.c (.int .i64 1))⟩,
    ⟨(some 10), none, true, .mv (.t 53)⟩]))
def burrowref14_InsertRoutec2 : ACode :=
  .seq (.regionD [⟨(some 54), none, true, .mv (.t 8)⟩,
      ⟨(some 55), none, true, .mv (.t 10)⟩,
      ⟨(some 56), none, true, .mv (.t 10)⟩,
      ⟨(some 57), none, false, .slice (.sl 50) (.t 54) none (some (.t 55)) (some (.t 56))⟩,
      ⟨(some 58), none, true, .load true 18 (.t 4)⟩,
      ⟨(some 59), none, true, .load true 32 (.t 5)⟩,
      ⟨(some 60), none, false, .build (.st 50 [(.st 18 [(.st 17 [(.bl false), (.ar 1 16 (zr 16 (.int .u8 0)))]), (.int .i64 0)]), (.ar 1 32 (zr 32 (.int .u8 0)))]) [(0, (.t 58)), (1, (.t 59))]⟩,
      ⟨(some 61), none, false, .buildSlice true 50 (.st 50 [(.st 18 [(.st 17 [(.bl false), (.ar 1 16 (zr 16 (.int .u8 0)))]), (.int .i64 0)]), (.ar 1 32 (zr 32 (.int .u8 0)))]) 1 [(0, (.t 60))]⟩,
      ⟨(some 62), none, true, .mv (.t 8)⟩,
      ⟨(some 63), none, true, .mv (.t 10)⟩,
      ⟨(some 64), none, false, .slice (.sl 50) (.t 62) (some (.t 63)) none none⟩,
      ⟨(some 65), none, false, .append 50 64 false (.t 61) (.t 64)⟩,
      ⟨(some 66), none, false, .append 50 64 false (.t 57) (.t 65)⟩,
      ⟨(some 6), none, true, .mv (.t 66)⟩,
      ⟨(some 7), none, true, .mv (.c (.int .i64 0))⟩] [0, 1, 2, 3, 4, 5, 6, 8, 9, 10, 7, 11, 12, 13, 14] [3, 10, 7, 11])
  (.ret)
def burrowref14_InsertRoutec3 : ACode :=
  .seq (.seq (.region [⟨(some 35), none, true, .mv (.t 0)⟩,
        ⟨(some 36), none, true, .len (.t 35)⟩,
        ⟨(some 37), none, true, .bin .geq .no (.t 36) (.c (.int .i64 16))⟩])
    (.cond (.t 37)
      (.seq (.region [⟨(some 6), none, true, .mv (.c (.sl 50 [] true))⟩,
          ⟨(some 7), none, true, .mv (.c (.int .i64 12))⟩])
      (.ret))
      (.skip)))
  (.seq (.region [⟨(some 10), none, true, .mv (.c (.int .i64 0))⟩])
  (.seq (.block 2 (.loop burrowref14_InsertRoutel1))
  burrowref14_InsertRoutec2))
def burrowref14_InsertRoute : AFun := ⟨67, [.mv (.t 6), .mv (.t 7)],
  .seq (.region [⟨(some 4), none, false, .box (.t 1)⟩,
      ⟨(some 5), none, false, .box (.t 2)⟩,
      ⟨(some 6), none, true, .mv (.c (.sl 50 [] true))⟩,
      ⟨(some 7), none, true, .mv (.c (.int .i64 0))⟩])
  (.seq (.seq (.region [⟨(some 11), none, true, .load true 18 (.t 4)⟩,
        ⟨(some 12), none, false, .call (.c (.fn (.func I.burrowref09_Valid) [] [])) [(.t 11)]⟩,
        ⟨(some 13), none, true, .un .not (.t 12)⟩])
    (.cond (.t 13)
      (.seq (.region [⟨(some 6), none, true, .mv (.c (.sl 50 [] true))⟩,
          ⟨(some 7), none, true, .mv (.c (.int .i64 1))⟩])
      (.ret))
      (.skip)))
  (.seq (.region [⟨(some 14), none, true, .mv (.t 0)⟩,
      ⟨(some 15), none, false, .append 50 64 false (.c (.sl 0 [] true)) (.t 14)⟩,
      ⟨(some 8), none, true, .mv (.t 15)⟩])
  (.seq (.seq (.region [⟨(some 16), none, true, .mv (.t 8)⟩,
        ⟨(some 17), none, true, .len (.t 16)⟩,
        ⟨(some 18), none, true, .mv (.c (.int .i64 0))⟩])
    (.block 0 (.loop burrowref14_InsertRoutel0)))
  burrowref14_InsertRoutec3)))⟩
/- burrow/burrowcase.Masked -/
def burrowcase_Maskedl0 : ACode :=
  .seq (.seq (.region [⟨(some 7), none, true, .mv (.t 5)⟩,
        ⟨(some 8), none, true, .bin .lss .no (.t 7) (.c (.int .i64 128))⟩])
    (.cond (.t 8)
      (.skip)
      (.exit 0)))
  (.seq (.block 1 (.region [⟨(some 11), none, true, .mv (.t 5)⟩,
      ⟨(some 12), none, false, .bin .quo .no (.t 11) (.c (.int .i64 8))⟩,
      ⟨(some 13), none, true, .fieldA 1 1 (.t 2)⟩,
      ⟨(some 14), none, false, .indexA (.ar 16 1) (.t 13) (.t 12)⟩,
      ⟨(some 15), none, true, .load false 1 (.t 14)⟩,
      ⟨(some 16), none, true, .mv (.t 5)⟩,
      ⟨(some 17), none, false, .bin .rem .no (.t 16) (.c (.int .i64 8))⟩,
      ⟨(some 18), none, false, .bin .shr .no (.c (.int .u8 128)) (.t 17)⟩,
      ⟨(some 19), none, true, .bin .andNot .no (.t 15) (.t 18)⟩,
      ⟨(some 20), none, true, .fieldA 1 1 (.t 2)⟩,
      ⟨(some 21), none, false, .indexA (.ar 16 1) (.t 20) (.t 12)⟩,
      ⟨none, none, false, .store 1 (.t 21) (.t 19)⟩]))
  (.region [⟨(some 9), none, true, .mv (.t 5)⟩,
    ⟨(some 10), none, true, .bin .add .no (.t 9) (.c (.int .i64 1))⟩,
    ⟨(some 5), none, true, .mv (.t 10)⟩]))
def burrowcase_Maskedc1 : ACode :=
  .seq (.region [⟨(some 22), none, true, .load true 17 (.t 2)⟩,
      ⟨(some 23), none, true, .mv (.t 1)⟩,
      ⟨(some 24), none, false, .build (.st 18 [(.st 17 [(.bl false), (.ar 1 16 (zr 16 (.int .u8 0)))]), (.int .i64 0)]) [(0, (.t 22)), (1, (.t 23))]⟩,
      ⟨none, none, false, .store 18 (.t 4) (.t 24)⟩])
  (.ret)
def burrowcase_Masked : AFun := ⟨25, [.load true 18 (.t 4)],
  .seq (.region [⟨(some 2), none, false, .box (.t 0)⟩,
      ⟨(some 4), none, false, .alloc (.st 18 [(.st 17 [(.bl false), (.ar 1 16 (zr 16 (.int .u8 0)))]), (.int .i64 0)])⟩])
  (.seq (.seq (.region [⟨(some 6), none, true, .mv (.t 1)⟩,
        ⟨(some 5), none, true, .mv (.t 6)⟩])
    (.block 0 (.loop burrowcase_Maskedl0)))
  burrowcase_Maskedc1)⟩
/- burrow/burrowcase.Host -/

def burrowcase_Host : AFun := ⟨11, [.load true 17 (.t 4)],
  .seq (.region [⟨(some 4), none, false, .alloc (.st 17 [(.bl false), (.ar 1 16 (zr 16 (.int .u8 0)))])⟩])
  (.seq (.region [⟨(some 5), none, true, .mv (.t 0)⟩,
      ⟨(some 6), none, true, .convI .u8 (.t 5)⟩,
      ⟨(some 7), none, true, .mv (.t 1)⟩,
      ⟨(some 8), none, true, .convI .u8 (.t 7)⟩,
      ⟨(some 9), none, false, .build (.ar 1 16 (zr 16 (.int .u8 0))) [(0, (.c (.int .u8 10))), (1, (.t 6)), (2, (.c (.int .u8 0))), (3, (.t 8))]⟩,
      ⟨(some 10), none, false, .build (.st 17 [(.bl false), (.ar 1 16 (zr 16 (.int .u8 0)))]) [(1, (.t 9))]⟩,
      ⟨none, none, false, .store 17 (.t 4) (.t 10)⟩])
  (.ret))⟩
/- burrow/burrowref24.Install -/

def burrowref24_Install : AFun := ⟨102, [.load true 148 (.t 8), .mv (.t 9)],
  .seq (.region [⟨(some 4), none, false, .box (.t 0)⟩,
      ⟨(some 5), none, false, .box (.t 1)⟩,
      ⟨(some 6), none, false, .box (.t 2)⟩,
      ⟨(some 8), none, false, .alloc (.st 148 [(.st 10 [(.int .u64 0), (.int .u64 0), (.int .i64 0), (.int .i64 0), (.int .i64 0), (.int .i64 0), (.int .i64 0), (.int .i64 0), (.int .i64 0), (.int .i64 0)]), (.ar 1 32 (zr 32 (.int .u8 0))), (.ar 1 32 (zr 32 (.int .u8 0))), (.int .i64 0), (.ar 1 32 (zr 32 (.int .u8 0))), (.int .i64 0), (.sl 464 [] true), (.sl 50 [] true), (.sl 34 [] true), (.sl 34 [] true), (.ar 1 32 (zr 32 (.int .u8 0))), (.int .i64 0), (.sl 1 [] true), (.sl 19 [] true), (.int .i64 0)])⟩,
      ⟨(some 9), none, true, .mv (.c (.int .i64 0))⟩])
  (.seq (.seq (.region [⟨(some 16), none, true, .load true 148 (.t 4)⟩,
        ⟨(some 17), none, false, .call (.c (.fn (.func I.burrowref24_Valid) [] [])) [(.t 16)]⟩,
        ⟨(some 18), none, true, .un .not (.t 17)⟩])
    (.cond (.t 18)
      (.seq (.region [⟨(some 19), none, false, .build (.st 148 [(.st 10 [(.int .u64 0), (.int .u64 0), (.int .i64 0), (.int .i64 0), (.int .i64 0), (.int .i64 0), (.int .i64 0), (.int .i64 0), (.int .i64 0), (.int .i64 0)]), (.ar 1 32 (zr 32 (.int .u8 0))), (.ar 1 32 (zr 32 (.int .u8 0))), (.int .i64 0), (.ar 1 32 (zr 32 (.int .u8 0))), (.int .i64 0), (.sl 464 [] true), (.sl 50 [] true), (.sl 34 [] true), (.sl 34 [] true), (.ar 1 32 (zr 32 (.int .u8 0))), (.int .i64 0), (.sl 1 [] true), (.sl 19 [] true), (.int .i64 0)]) []⟩,
          ⟨none, none, false, .store 148 (.t 8) (.t 19)⟩,
          ⟨(some 9), none, true, .mv (.c (.int .i64 13))⟩])
      (.ret))
      (.skip)))
  (.seq (.region [⟨(some 20), none, true, .load true 148 (.t 4)⟩,
      ⟨(some 21), none, true, .load true 32 (.t 5)⟩,
      ⟨(some 22), none, false, .call (.c (.fn (.func I.burrowref24_find) [] [])) [(.t 20), (.t 21)]⟩,
      ⟨(some 10), none, true, .mv (.t 22)⟩])
  (.seq (.seq (.region [⟨(some 23), none, true, .mv (.t 10)⟩,
        ⟨(some 24), none, true, .bin .lss .no (.t 23) (.c (.int .i64 0))⟩])
    (.cond (.t 24)
      (.seq (.region [⟨(some 25), none, false, .build (.st 148 [(.st 10 [(.int .u64 0), (.int .u64 0), (.int .i64 0), (.int .i64 0), (.int .i64 0), (.int .i64 0), (.int .i64 0), (.int .i64 0), (.int .i64 0), (.int .i64 0)]), (.ar 1 32 (zr 32 (.int .u8 0))), (.ar 1 32 (zr 32 (.int .u8 0))), (.int .i64 0), (.ar 1 32 (zr 32 (.int .u8 0))), (.int .i64 0), (.sl 464 [] true), (.sl 50 [] true), (.sl 34 [] true), (.sl 34 [] true), (.ar 1 32 (zr 32 (.int .u8 0))), (.int .i64 0), (.sl 1 [] true), (.sl 19 [] true), (.int .i64 0)]) []⟩,
          ⟨none, none, false, .store 148 (.t 8) (.t 25)⟩,
          ⟨(some 9), none, true, .mv (.c (.int .i64 8))⟩])
      (.ret))
      (.skip)))
  (.seq (.seq (.region [⟨(some 27), none, true, .fieldA 8 110 (.t 4)⟩,
        ⟨(some 28), none, true, .load false 1 (.t 27)⟩,
        ⟨(some 29), none, true, .fieldA 0 0 (.t 6)⟩,
        ⟨(some 30), none, true, .load false 1 (.t 29)⟩,
        ⟨(some 31), none, false, .call (.c (.fn (.func I.burrowref14_FindSlot) [] [])) [(.t 28), (.t 30)]⟩,
        ⟨(some 26), none, true, .mv (.t 31)⟩,
        ⟨(some 32), none, true, .extract 0 (.t 26)⟩,
        ⟨(some 33), none, true, .extract 1 (.t 26)⟩,
        ⟨(some 11), none, false, .alloc (.st 34 [(.int .u32 0), (.ar 1 32 (zr 32 (.int .u8 0))), (.bl false)])⟩,
        ⟨none, none, false, .store 34 (.t 11) (.t 32)⟩,
        ⟨(some 12), none, true, .mv (.t 33)⟩])
    (.seq (.region [⟨(some 34), none, true, .fieldA 0 0 (.t 6)⟩,
        ⟨(some 35), none, true, .load false 1 (.t 34)⟩,
        ⟨(some 36), none, true, .bin .eql .no (.t 35) (.c (.int .u32 0))⟩,
        ⟨(some 37), none, true, .mv (.t 36)⟩,
        ⟨(some 38), (some (37, false)), true, .mv (.t 12)⟩,
        ⟨(some 39), none, true, .pick (.t 37) (.c (.bl true)) (.t 38)⟩])
    (.cond (.t 39)
      (.seq (.region [⟨(some 40), none, false, .build (.st 148 [(.st 10 [(.int .u64 0), (.int .u64 0), (.int .i64 0), (.int .i64 0), (.int .i64 0), (.int .i64 0), (.int .i64 0), (.int .i64 0), (.int .i64 0), (.int .i64 0)]), (.ar 1 32 (zr 32 (.int .u8 0))), (.ar 1 32 (zr 32 (.int .u8 0))), (.int .i64 0), (.ar 1 32 (zr 32 (.int .u8 0))), (.int .i64 0), (.sl 464 [] true), (.sl 50 [] true), (.sl 34 [] true), (.sl 34 [] true), (.ar 1 32 (zr 32 (.int .u8 0))), (.int .i64 0), (.sl 1 [] true), (.sl 19 [] true), (.int .i64 0)]) []⟩,
          ⟨none, none, false, .store 148 (.t 8) (.t 40)⟩,
          ⟨(some 9), none, true, .mv (.c (.int .i64 9))⟩])
      (.ret))
      (.skip))))
  (.seq (.seq (.region [⟨(some 41), none, true, .load true 148 (.t 4)⟩,
        ⟨(some 42), none, true, .load true 76 (.t 6)⟩,
        ⟨(some 43), none, false, .call (.c (.fn (.func I.burrowref24_sound) [] [])) [(.t 41), (.t 42)]⟩,
        ⟨(some 44), none, true, .un .not (.t 43)⟩])
    (.cond (.t 44)
      (.seq (.region [⟨(some 45), none, false, .build (.st 148 [(.st 10 [(.int .u64 0), (.int .u64 0), (.int .i64 0), (.int .i64 0), (.int .i64 0), (.int .i64 0), (.int .i64 0), (.int .i64 0), (.int .i64 0), (.int .i64 0)]), (.ar 1 32 (zr 32 (.int .u8 0))), (.ar 1 32 (zr 32 (.int .u8 0))), (.int .i64 0), (.ar 1 32 (zr 32 (.int .u8 0))), (.int .i64 0), (.sl 464 [] true), (.sl 50 [] true), (.sl 34 [] true), (.sl 34 [] true), (.ar 1 32 (zr 32 (.int .u8 0))), (.int .i64 0), (.sl 1 [] true), (.sl 19 [] true), (.int .i64 0)]) []⟩,
          ⟨none, none, false, .store 148 (.t 8) (.t 45)⟩,
          ⟨(some 9), none, true, .mv (.c (.int .i64 1))⟩])
      (.ret))
      (.skip)))
  (.seq (.region [⟨(some 46), none, true, .load true 148 (.t 4)⟩,
      ⟨(some 47), none, false, .call (.c (.fn (.func I.burrowref24_Copy) [] [])) [(.t 46)]⟩,
      ⟨(some 48), none, false, .build (.st 149 [(.st 148 [(.st 10 [(.int .u64 0), (.int .u64 0), (.int .i64 0), (.int .i64 0), (.int .i64 0), (.int .i64 0), (.int .i64 0), (.int .i64 0), (.int .i64 0), (.int .i64 0)]), (.ar 1 32 (zr 32 (.int .u8 0))), (.ar 1 32 (zr 32 (.int .u8 0))), (.int .i64 0), (.ar 1 32 (zr 32 (.int .u8 0))), (.int .i64 0), (.sl 464 [] true), (.sl 50 [] true), (.sl 34 [] true), (.sl 34 [] true), (.ar 1 32 (zr 32 (.int .u8 0))), (.int .i64 0), (.sl 1 [] true), (.sl 19 [] true), (.int .i64 0)]), (.sl 86 [] true)]) [(0, (.t 47))]⟩,
      ⟨(some 13), none, false, .alloc (.st 149 [(.st 148 [(.st 10 [(.int .u64 0), (.int .u64 0), (.int .i64 0), (.int .i64 0), (.int .i64 0), (.int .i64 0), (.int .i64 0), (.int .i64 0), (.int .i64 0), (.int .i64 0)]), (.ar 1 32 (zr 32 (.int .u8 0))), (.ar 1 32 (zr 32 (.int .u8 0))), (.int .i64 0), (.ar 1 32 (zr 32 (.int .u8 0))), (.int .i64 0), (.sl 464 [] true), (.sl 50 [] true), (.sl 34 [] true), (.sl 34 [] true), (.ar 1 32 (zr 32 (.int .u8 0))), (.int .i64 0), (.sl 1 [] true), (.sl 19 [] true), (.int .i64 0)]), (.sl 86 [] true)])⟩,
      ⟨none, none, false, .store 149 (.t 13) (.t 48)⟩])
  (.seq (.region [⟨(some 49), none, true, .fieldA 0 0 (.t 13)⟩,
      ⟨(some 50), none, true, .fieldA 6 108 (.t 49)⟩,
      ⟨(some 51), none, true, .load false 1 (.t 50)⟩,
      ⟨(some 52), none, true, .mv (.t 10)⟩,
      ⟨(some 53), none, false, .indexA (.sl 464) (.t 51) (.t 52)⟩,
      ⟨(some 14), none, true, .mv (.t 53)⟩])
  (.seq (.region [⟨(some 15), none, true, .mv (.c (.sl 1 [] true))⟩])
  (.seq (.seq (.region [⟨(some 54), none, true, .mv (.t 3)⟩])
    (.cond (.t 54)
      (.region [⟨(some 56), none, true, .mv (.t 14)⟩,
        ⟨(some 57), none, true, .mv (.t 14)⟩,
        ⟨(some 58), none, true, .nilCheck (.t 57)⟩,
        ⟨(some 59), none, true, .fieldA 13 232 (.t 58)⟩,
        ⟨(some 60), none, true, .load true 231 (.t 59)⟩,
        ⟨(some 61), none, true, .load true 76 (.t 6)⟩,
        ⟨(some 62), none, false, .callq (.c (.fn (.func I.burrowref22_Begin) [] [])) [(.t 60), (.t 61)]⟩,
        ⟨(some 55), none, true, .mv (.t 62)⟩,
        ⟨(some 63), none, true, .extract 0 (.t 55)⟩,
        ⟨(some 64), none, true, .extract 1 (.t 55)⟩,
        ⟨(some 65), none, true, .nilCheck (.t 56)⟩,
        ⟨(some 66), none, true, .fieldA 13 232 (.t 65)⟩,
        ⟨none, none, false, .store 231 (.t 66) (.t 63)⟩,
        ⟨(some 15), none, true, .mv (.t 64)⟩])
      (.region [⟨(some 68), none, true, .mv (.t 14)⟩,
        ⟨(some 69), none, true, .mv (.t 14)⟩,
        ⟨(some 70), none, true, .nilCheck (.t 69)⟩,
        ⟨(some 71), none, true, .fieldA 13 232 (.t 70)⟩,
        ⟨(some 72), none, true, .load true 231 (.t 71)⟩,
        ⟨(some 73), none, true, .load true 76 (.t 6)⟩,
        ⟨(some 74), none, false, .callq (.c (.fn (.func I.burrowref22_Answer) [] [])) [(.t 72), (.t 73)]⟩,
        ⟨(some 67), none, true, .mv (.t 74)⟩,
        ⟨(some 75), none, true, .extract 0 (.t 67)⟩,
        ⟨(some 76), none, true, .extract 1 (.t 67)⟩,
        ⟨(some 77), none, true, .nilCheck (.t 68)⟩,
        ⟨(some 78), none, true, .fieldA 13 232 (.t 77)⟩,
        ⟨none, none, false, .store 231 (.t 78) (.t 75)⟩,
        ⟨(some 15), none, true, .mv (.t 76)⟩])))
  (.seq (.region [⟨(some 79), none, true, .mv (.t 15)⟩,
      ⟨(some 80), none, false, .call (.c (.fn (.func I.burrowref24_machine_drop) [] [])) [(.t 13), (.t 79)]⟩])
  (.seq (.region [⟨(some 82), none, true, .fieldA 0 0 (.t 13)⟩,
      ⟨(some 83), none, true, .fieldA 8 110 (.t 82)⟩,
      ⟨(some 84), none, true, .load false 1 (.t 83)⟩,
      ⟨(some 85), none, true, .fieldA 0 0 (.t 6)⟩,
      ⟨(some 86), none, true, .load false 1 (.t 85)⟩,
      ⟨(some 87), none, true, .load true 32 (.t 5)⟩,
      ⟨(some 88), none, false, .call (.c (.fn (.func I.burrowref14_Take) [] [])) [(.t 84), (.t 86), (.t 87), (.c (.bl true))]⟩,
      ⟨(some 81), none, true, .mv (.t 88)⟩,
      ⟨(some 89), none, true, .extract 0 (.t 81)⟩,
      ⟨(some 90), none, true, .extract 1 (.t 81)⟩,
      ⟨(some 91), none, true, .extract 2 (.t 81)⟩,
      ⟨(some 92), none, true, .fieldA 0 0 (.t 13)⟩,
      ⟨(some 93), none, true, .fieldA 8 110 (.t 92)⟩,
      ⟨none, none, false, .store 1 (.t 93) (.t 89)⟩])
  (.seq (.region [⟨(some 94), none, true, .mv (.t 10)⟩,
      ⟨(some 95), none, true, .fieldA 0 0 (.t 4)⟩,
      ⟨(some 96), none, true, .fieldA 3 3 (.t 95)⟩,
      ⟨(some 97), none, true, .load false 1 (.t 96)⟩,
      ⟨(some 98), none, true, .bin .mul .no (.c (.int .i64 3)) (.t 97)⟩,
      ⟨(some 99), none, false, .call (.c (.fn (.func I.burrowref24_machine_set) [] [])) [(.t 13), (.t 94), (.c (.int .i64 5)), (.t 98)]⟩])
  (.seq (.region [⟨(some 100), none, true, .fieldA 0 0 (.t 13)⟩,
      ⟨(some 101), none, true, .load true 148 (.t 100)⟩,
      ⟨none, none, false, .store 148 (.t 8) (.t 101)⟩,
      ⟨(some 9), none, true, .mv (.c (.int .i64 0))⟩])
  (.ret))))))))))))))⟩
/- burrow/burrowmake.Session -/
def burrowmake_Sessionl0 : ACode :=
  .seq (.seq (.region [⟨(some 67), none, true, .mv (.t 9)⟩,
        ⟨(some 68), none, true, .bin .gtr .no (.t 67) (.c (.int .i64 0))⟩])
    (.cond (.t 68)
      (.skip)
      (.exit 1)))
  (.seq (.block 2 (.regionD [⟨(some 72), none, true, .fieldA 6 68 (.t 8)⟩,
      ⟨(some 73), none, true, .load true 6 (.t 72)⟩,
      ⟨(some 74), none, true, .mv (.t 0)⟩,
      ⟨(some 75), none, false, .call (.c (.fn (.func I.burrowcase_Codes_Next) [] [])) [(.t 74), (.c (.int .i64 8))]⟩,
      ⟨(some 76), none, true, .convI .u64 (.t 75)⟩,
      ⟨(some 77), none, false, .callq (.c (.fn (.func I.burrowref14_AcceptWindow) [] [])) [(.t 73), (.t 76)]⟩,
      ⟨(some 71), none, true, .mv (.t 77)⟩,
      ⟨(some 78), none, true, .extract 0 (.t 71)⟩,
      ⟨(some 79), none, true, .extract 1 (.t 71)⟩,
      ⟨(some 80), none, true, .fieldA 6 68 (.t 8)⟩,
      ⟨none, none, false, .store 6 (.t 80) (.t 78)⟩] [0, 1, 2, 3, 4, 5, 6, 7, 8, 9, 10] [0, 1, 3]))
  (.region [⟨(some 69), none, true, .mv (.t 9)⟩,
    ⟨(some 70), none, true, .bin .sub .no (.t 69) (.c (.int .i64 1))⟩,
    ⟨(some 9), none, true, .mv (.t 70)⟩]))
def burrowmake_Sessionc1 : ACode :=
  .seq (.region [⟨(some 81), none, true, .load true 76 (.t 8)⟩,
      ⟨none, none, false, .store 76 (.t 6) (.t 81)⟩])
  (.ret)
def burrowmake_Session : AFun := ⟨82, [.load true 76 (.t 6)],
  .seq (.region [⟨(some 4), none, false, .box (.t 1)⟩,
      ⟨(some 6), none, false, .alloc (.st 76 [(.int .u32 0), (.int .u32 0), (.ar 1 32 (zr 32 (.int .u8 0))), (.ar 1 32 (zr 32 (.int .u8 0))), (.int .u64 0), (.int .u64 0), (.st 6 [(.bl false), (.int .u64 0), (.ar 1 4 (zr 4 (.int .u64 0)))]), (.int .i64 0), (.bl false)])⟩])
  (.seq (.regionD [⟨(some 10), none, true, .fieldA 5 107 (.t 4)⟩,
      ⟨(some 11), none, true, .load false 1 (.t 10)⟩,
      ⟨(some 12), none, true, .fieldA 5 107 (.t 4)⟩,
      ⟨(some 13), none, true, .load false 1 (.t 12)⟩,
      ⟨(some 14), none, true, .mv (.t 0)⟩,
      ⟨(some 15), none, false, .call (.c (.fn (.func I.burrowcase_Codes_Next) [] [])) [(.t 14), (.c (.int .i64 12))]⟩,
      ⟨(some 16), none, true, .bin .mul .no (.t 15) (.c (.int .i64 5000))⟩,
      ⟨(some 17), none, true, .mm false [(.t 13), (.t 16)]⟩,
      ⟨(some 18), none, true, .bin .sub .no (.t 11) (.t 17)⟩,
      ⟨(some 7), none, true, .mv (.t 18)⟩] [0, 1, 2, 3, 4, 5, 6, 7, 8, 9] [0, 1, 2, 3, 5])
  (.seq (.regionD [⟨(some 19), none, true, .mv (.t 2)⟩,
      ⟨(some 20), none, true, .mv (.t 2)⟩,
      ⟨(some 21), none, true, .bin .add .no (.c (.int .u32 7000)) (.t 20)⟩,
      ⟨(some 22), none, true, .mv (.t 0)⟩,
      ⟨(some 23), none, false, .call (.c (.fn (.func I.burrowcase_Codes_Key) [] [])) [(.t 22)]⟩,
      ⟨(some 24), none, true, .mv (.t 0)⟩,
      ⟨(some 25), none, false, .call (.c (.fn (.func I.burrowcase_Codes_Key) [] [])) [(.t 24)]⟩,
      ⟨(some 26), none, true, .mv (.t 7)⟩,
      ⟨(some 27), none, true, .mv (.t 0)⟩,
      ⟨(some 28), none, false, .call (.c (.fn (.func I.burrowcase_Codes_Bool) [] [])) [(.t 27)]⟩,
      ⟨(some 29), none, true, .fieldA 0 0 (.t 4)⟩,
      ⟨(some 30), none, true, .fieldA 1 1 (.t 29)⟩,
      ⟨(some 31), none, true, .load false 1 (.t 30)⟩,
      ⟨(some 32), none, false, .callq (.c (.fn (.func I.burrowref22_New) [] [])) [(.t 19), (.t 21), (.t 23), (.t 25), (.t 26), (.t 28), (.t 31)]⟩,
      ⟨(some 8), none, false, .alloc (.st 76 [(.int .u32 0), (.int .u32 0), (.ar 1 32 (zr 32 (.int .u8 0))), (.ar 1 32 (zr 32 (.int .u8 0))), (.int .u64 0), (.int .u64 0), (.st 6 [(.bl false), (.int .u64 0), (.ar 1 4 (zr 4 (.int .u64 0)))]), (.int .i64 0), (.bl false)])⟩,
      ⟨none, none, false, .store 76 (.t 8) (.t 32)⟩] [0, 1, 2, 3, 5, 7, 8, 10, 11, 12, 4, 6, 9, 13, 14, 15] [10, 11, 12, 13, 4, 6, 9, 14])
  (.seq (.region [⟨(some 33), none, true, .mv (.t 2)⟩,
      ⟨(some 34), none, true, .convI .u8 (.t 33)⟩,
      ⟨(some 35), none, true, .mv (.t 2)⟩,
      ⟨(some 36), none, true, .convI .u8 (.t 35)⟩,
      ⟨(some 37), none, true, .fieldA 2 2 (.t 8)⟩,
      ⟨(some 38), none, false, .indexA (.ar 32 1) (.t 37) (.c (.int .i64 0))⟩,
      ⟨none, none, false, .store 1 (.t 38) (.t 34)⟩,
      ⟨(some 39), none, true, .fieldA 3 34 (.t 8)⟩,
      ⟨(some 40), none, false, .indexA (.ar 32 1) (.t 39) (.c (.int .i64 0))⟩,
      ⟨none, none, false, .store 1 (.t 40) (.t 36)⟩])
  (.seq (.region [⟨(some 41), none, true, .fieldA 2 2 (.t 8)⟩,
      ⟨(some 42), none, false, .indexA (.ar 32 1) (.t 41) (.c (.int .i64 1))⟩,
      ⟨none, none, false, .store 1 (.t 42) (.c (.int .u8 1))⟩,
      ⟨(some 43), none, true, .fieldA 3 34 (.t 8)⟩,
      ⟨(some 44), none, false, .indexA (.ar 32 1) (.t 43) (.c (.int .i64 1))⟩,
      ⟨none, none, false, .store 1 (.t 44) (.c (.int .u8 2))⟩])
  (.seq (.seq (.region [⟨(some 45), none, true, .mv (.t 0)⟩,
        ⟨(some 46), none, false, .call (.c (.fn (.func I.burrowcase_Codes_Next) [] [])) [(.t 45), (.c (.int .i64 4))]⟩])
    (.block 0 (.seq (.region [⟨(some 48), none, true, .bin .eql .no (.t 46) (.c (.int .i64 1))⟩,
        ⟨(some 47), none, true, .mv (.t 48)⟩])
    (.cond (.t 47)
      (.region [⟨(some 49), none, true, .mv (.t 0)⟩,
        ⟨(some 50), none, false, .call (.c (.fn (.func I.burrowcase_Codes_Next) [] [])) [(.t 49), (.c (.int .i64 40))]⟩,
        ⟨(some 51), none, true, .convI .u64 (.t 50)⟩,
        ⟨(some 52), none, true, .fieldA 4 66 (.t 8)⟩,
        ⟨none, none, false, .store 1 (.t 52) (.t 51)⟩])
      (.seq (.region [⟨(some 54), none, true, .bin .eql .no (.t 46) (.c (.int .i64 2))⟩,
          ⟨(some 53), none, true, .mv (.t 54)⟩])
      (.cond (.t 53)
        (.regionD [⟨(some 55), none, true, .fieldA 5 67 (.t 8)⟩,
          ⟨(some 56), none, true, .load false 1 (.t 55)⟩,
          ⟨(some 57), none, true, .fieldA 5 67 (.t 8)⟩,
          ⟨(some 58), none, true, .load false 1 (.t 57)⟩,
          ⟨(some 59), none, true, .mv (.t 0)⟩,
          ⟨(some 60), none, false, .call (.c (.fn (.func I.burrowcase_Codes_Next) [] [])) [(.t 59), (.c (.int .i64 4))]⟩,
          ⟨(some 61), none, true, .convI .u64 (.t 60)⟩,
          ⟨(some 62), none, true, .mm false [(.t 58), (.t 61)]⟩,
          ⟨(some 63), none, true, .bin .sub .no (.t 56) (.t 62)⟩,
          ⟨(some 64), none, true, .fieldA 4 66 (.t 8)⟩,
          ⟨none, none, false, .store 1 (.t 64) (.t 63)⟩] [0, 1, 2, 3, 4, 5, 6, 7, 8, 9, 10] [0, 1, 2, 3, 5])
        (.skip)))))))
  (.seq (.seq (.region [⟨(some 65), none, true, .mv (.t 0)⟩,
        ⟨(some 66), none, false, .call (.c (.fn (.func I.burrowcase_Codes_Next) [] [])) [(.t 65), (.c (.int .i64 4))]⟩,
        ⟨(some 9), none, true, .mv (.t 66)⟩])
    (.block 1 (.loop burrowmake_Sessionl0)))
  burrowmake_Sessionc1))))))⟩
/- (*burrow/burrowcase.Codes).Bool -/

def burrowcase_Codes_Bool : AFun := ⟨6, [.mv (.t 2)],
  .seq (.region [⟨(some 2), none, true, .mv (.c (.bl false))⟩])
  (.seq (.region [⟨(some 3), none, true, .mv (.t 0)⟩,
      ⟨(some 4), none, false, .call (.c (.fn (.func I.burrowcase_Codes_Next) [] [])) [(.t 3), (.c (.int .i64 2))]⟩,
      ⟨(some 5), none, true, .bin .eql .no (.t 4) (.c (.int .i64 1))⟩,
      ⟨(some 2), none, true, .mv (.t 5)⟩])
  (.ret))⟩
/- burrow/own.Daemon -/
def own_Daemonl0 : ACode :=
  .seq (.region [⟨(some 12), none, true, .bin .lss .no (.t 11) (.t 10)⟩])
  (.seq (.cond (.t 12)
      (.skip)
      (.exit 0))
  (.seq (.block 1 (.seq (.region [⟨(some 13), none, true, .mv (.t 11)⟩,
        ⟨(some 3), none, true, .mv (.t 13)⟩])
    (.region [⟨(some 14), none, true, .fieldA 6 108 (.t 1)⟩,
      ⟨(some 15), none, true, .load false 1 (.t 14)⟩,
      ⟨(some 16), none, true, .mv (.t 3)⟩,
      ⟨(some 17), none, true, .fieldA 6 108 (.t 1)⟩,
      ⟨(some 18), none, true, .load false 1 (.t 17)⟩,
      ⟨(some 19), none, true, .mv (.t 3)⟩,
      ⟨(some 20), none, false, .indexA (.sl 464) (.t 18) (.t 19)⟩,
      ⟨(some 21), none, true, .fieldA 14 463 (.t 20)⟩,
      ⟨(some 22), none, true, .load false 1 (.t 21)⟩,
      ⟨(some 23), none, false, .callq (.c (.fn (.func I.own_Bytes) [] [])) [(.t 22)]⟩,
      ⟨(some 24), none, false, .indexA (.sl 464) (.t 15) (.t 16)⟩,
      ⟨(some 25), none, true, .fieldA 14 463 (.t 24)⟩,
      ⟨none, none, false, .store 1 (.t 25) (.t 23)⟩])))
  (.region [⟨(some 26), none, true, .bin .add .no (.t 11) (.c (.int .i64 1))⟩,
    ⟨(some 11), none, true, .mv (.t 26)⟩])))
def own_Daemonc1 : ACode :=
  .seq (.region [⟨(some 27), none, true, .fieldA 7 109 (.t 1)⟩,
      ⟨(some 28), none, true, .load false 1 (.t 27)⟩,
      ⟨(some 29), none, false, .callq (.c (.fn (.func I.slices_Clone_api_Route_api_Route) [] [])) [(.t 28)]⟩,
      ⟨(some 30), none, true, .fieldA 8 110 (.t 1)⟩,
      ⟨(some 31), none, true, .load false 1 (.t 30)⟩,
      ⟨(some 32), none, false, .callq (.c (.fn (.func I.slices_Clone_api_Slot_api_Slot) [] [])) [(.t 31)]⟩,
      ⟨(some 33), none, true, .fieldA 9 111 (.t 1)⟩,
      ⟨(some 34), none, true, .load false 1 (.t 33)⟩,
      ⟨(some 35), none, false, .callq (.c (.fn (.func I.slices_Clone_api_Timer_api_Timer) [] [])) [(.t 34)]⟩,
      ⟨(some 36), none, true, .fieldA 7 109 (.t 1)⟩,
      ⟨none, none, false, .store 1 (.t 36) (.t 29)⟩,
      ⟨(some 37), none, true, .fieldA 8 110 (.t 1)⟩,
      ⟨none, none, false, .store 1 (.t 37) (.t 32)⟩,
      ⟨(some 38), none, true, .fieldA 9 111 (.t 1)⟩,
      ⟨none, none, false, .store 1 (.t 38) (.t 35)⟩])
  (.seq (.region [⟨(some 39), none, true, .fieldA 12 145 (.t 1)⟩,
      ⟨(some 40), none, true, .load false 1 (.t 39)⟩,
      ⟨(some 41), none, false, .callq (.c (.fn (.func I.slices_Clone_int64_int64) [] [])) [(.t 40)]⟩,
      ⟨(some 42), none, true, .fieldA 13 146 (.t 1)⟩,
      ⟨(some 43), none, true, .load false 1 (.t 42)⟩,
      ⟨(some 44), none, false, .callq (.c (.fn (.func I.slices_Clone_api_Bucket_api_Bucket) [] [])) [(.t 43)]⟩,
      ⟨(some 45), none, true, .fieldA 12 145 (.t 1)⟩,
      ⟨none, none, false, .store 1 (.t 45) (.t 41)⟩,
      ⟨(some 46), none, true, .fieldA 13 146 (.t 1)⟩,
      ⟨none, none, false, .store 1 (.t 46) (.t 44)⟩])
  (.seq (.region [⟨(some 47), none, true, .load true 148 (.t 1)⟩,
      ⟨none, none, false, .store 148 (.t 2) (.t 47)⟩])
  (.ret)))
def own_Daemon : AFun := ⟨48, [.load true 148 (.t 2)],
  .seq (.region [⟨(some 1), none, false, .box (.t 0)⟩,
      ⟨(some 2), none, false, .alloc (.st 148 [(.st 10 [(.int .u64 0), (.int .u64 0), (.int .i64 0), (.int .i64 0), (.int .i64 0), (.int .i64 0), (.int .i64 0), (.int .i64 0), (.int .i64 0), (.int .i64 0)]), (.ar 1 32 (zr 32 (.int .u8 0))), (.ar 1 32 (zr 32 (.int .u8 0))), (.int .i64 0), (.ar 1 32 (zr 32 (.int .u8 0))), (.int .i64 0), (.sl 464 [] true), (.sl 50 [] true), (.sl 34 [] true), (.sl 34 [] true), (.ar 1 32 (zr 32 (.int .u8 0))), (.int .i64 0), (.sl 1 [] true), (.sl 19 [] true), (.int .i64 0)])⟩])
  (.seq (.region [⟨(some 4), none, true, .fieldA 6 108 (.t 1)⟩,
      ⟨(some 5), none, true, .load false 1 (.t 4)⟩,
      ⟨(some 6), none, false, .call (.c (.fn (.func I.slices_Clone_api_Peer_api_Peer) [] [])) [(.t 5)]⟩,
      ⟨(some 7), none, true, .fieldA 6 108 (.t 1)⟩,
      ⟨none, none, false, .store 1 (.t 7) (.t 6)⟩])
  (.seq (.seq (.region [⟨(some 8), none, true, .fieldA 6 108 (.t 1)⟩,
        ⟨(some 9), none, true, .load false 1 (.t 8)⟩,
        ⟨(some 10), none, true, .len (.t 9)⟩,
        ⟨(some 11), none, true, .mv (.c (.int .i64 0))⟩])
    (.block 0 (.loop own_Daemonl0)))
  own_Daemonc1))⟩
/- burrow/fence.sessions -/

def fence_sessions : AFun := ⟨4, [.mv (.t 2)],
  .seq (.region [⟨(some 1), none, false, .box (.t 0)⟩,
      ⟨(some 2), none, true, .mv (.c .nf)⟩])
  (.seq (.region [⟨(some 3), none, false, .mkFunc (.func I.fence_sessions_1) [] [(.t 1)]⟩,
      ⟨(some 2), none, true, .mv (.t 3)⟩])
  (.ret))⟩
/- burrow/burrowref29.changed -/
def burrowref29_changedl0 : ACode :=
  .seq (.seq (.region [⟨(some 19), none, true, .mv (.t 8)⟩,
        ⟨(some 20), none, true, .bin .leq .no (.t 19) (.c (.int .i64 3))⟩])
    (.cond (.t 20)
      (.skip)
      (.exit 2)))
  (.seq (.block 3 (.seq (.region [⟨(some 23), none, true, .fieldA 6 108 (.t 3)⟩,
        ⟨(some 24), none, true, .load false 1 (.t 23)⟩,
        ⟨(some 25), none, true, .mv (.t 7)⟩,
        ⟨(some 26), none, false, .indexA (.sl 464) (.t 24) (.t 25)⟩,
        ⟨(some 27), none, true, .fieldA 13 232 (.t 26)⟩,
        ⟨(some 28), none, true, .load true 231 (.t 27)⟩,
        ⟨(some 29), none, true, .mv (.t 8)⟩,
        ⟨(some 30), none, false, .call (.c (.fn (.func I.burrowref22_Get) [] [])) [(.t 28), (.t 29)]⟩,
        ⟨(some 9), none, false, .alloc (.st 77 [(.bl false), (.st 76 [(.int .u32 0), (.int .u32 0), (.ar 1 32 (zr 32 (.int .u8 0))), (.ar 1 32 (zr 32 (.int .u8 0))), (.int .u64 0), (.int .u64 0), (.st 6 [(.bl false), (.int .u64 0), (.ar 1 4 (zr 4 (.int .u64 0)))]), (.int .i64 0), (.bl false)])])⟩,
        ⟨none, none, false, .store 77 (.t 9) (.t 30)⟩])
    (.seq (.seq (.region [⟨(some 31), none, true, .fieldA 0 0 (.t 9)⟩,
          ⟨(some 32), none, true, .load false 1 (.t 31)⟩,
          ⟨(some 33), none, true, .un .not (.t 32)⟩])
      (.cond (.t 33)
        (.exit 3)
        (.skip)))
    (.seq (.region [⟨(some 34), none, true, .fieldA 1 1 (.t 9)⟩,
        ⟨(some 35), none, true, .load true 76 (.t 34)⟩,
        ⟨(some 10), none, false, .alloc (.st 76 [(.int .u32 0), (.int .u32 0), (.ar 1 32 (zr 32 (.int .u8 0))), (.ar 1 32 (zr 32 (.int .u8 0))), (.int .u64 0), (.int .u64 0), (.st 6 [(.bl false), (.int .u64 0), (.ar 1 4 (zr 4 (.int .u64 0)))]), (.int .i64 0), (.bl false)])⟩,
        ⟨none, none, false, .store 76 (.t 10) (.t 35)⟩])
    (.seq (.seq (.region [⟨(some 36), none, true, .mv (.t 1)⟩])
      (.block 4 (.seq (.region [⟨(some 38), none, true, .bin .eql .no (.t 36) (.c (.int .i64 1))⟩,
          ⟨(some 37), none, true, .mv (.t 38)⟩])
      (.cond (.t 37)
        (.region [⟨(some 39), none, true, .load true 76 (.t 10)⟩,
          ⟨(some 40), none, true, .fieldA 0 0 (.t 3)⟩,
          ⟨(some 41), none, true, .load true 10 (.t 40)⟩,
          ⟨(some 42), none, true, .mv (.t 2)⟩,
          ⟨(some 43), none, false, .call (.c (.fn (.func I.burrowref29_Edge) [] [])) [(.t 39), (.t 41), (.t 42)]⟩,
          ⟨(some 44), none, true, .fieldA 5 67 (.t 10)⟩,
          ⟨none, none, false, .store 1 (.t 44) (.t 43)⟩])
        (.seq (.region [⟨(some 46), none, true, .bin .eql .no (.t 36) (.c (.int .i64 2))⟩,
            ⟨(some 45), none, true, .mv (.t 46)⟩])
        (.cond (.t 45)
          (.regionD [⟨(some 47), none, true, .load true 76 (.t 10)⟩,
            ⟨(some 48), none, true, .fieldA 0 0 (.t 3)⟩,
            ⟨(some 49), none, true, .load true 10 (.t 48)⟩,
            ⟨(some 50), none, true, .mv (.t 2)⟩,
            ⟨(some 51), none, false, .callq (.c (.fn (.func I.burrowref29_Edge) [] [])) [(.t 47), (.t 49), (.t 50)]⟩,
            ⟨(some 52), none, true, .fieldA 0 0 (.t 3)⟩,
            ⟨(some 53), none, true, .fieldA 1 1 (.t 52)⟩,
            ⟨(some 54), none, true, .load false 1 (.t 53)⟩,
            ⟨(some 55), none, true, .fieldA 4 66 (.t 10)⟩,
            ⟨none, none, false, .store 1 (.t 55) (.t 51)⟩,
            ⟨(some 56), none, true, .fieldA 5 67 (.t 10)⟩,
            ⟨none, none, false, .store 1 (.t 56) (.t 54)⟩] [0, 1, 2, 3, 4, 5, 6, 7, 8, 9, 10, 11] [5, 6, 7, 9])
          (.seq (.region [⟨(some 58), none, true, .bin .eql .no (.t 36) (.c (.int .i64 3))⟩,
              ⟨(some 57), none, true, .mv (.t 58)⟩])
          (.cond (.t 57)
            (.region [⟨(some 59), none, true, .fieldA 0 0 (.t 3)⟩,
              ⟨(some 60), none, true, .fieldA 1 1 (.t 59)⟩,
              ⟨(some 61), none, true, .load false 1 (.t 60)⟩,
              ⟨(some 62), none, true, .fieldA 5 67 (.t 10)⟩,
              ⟨none, none, false, .store 1 (.t 62) (.t 61)⟩])
            (.skip)))))))))
    (.region [⟨(some 63), none, true, .fieldA 6 108 (.t 3)⟩,
      ⟨(some 64), none, true, .load false 1 (.t 63)⟩,
      ⟨(some 65), none, true, .mv (.t 7)⟩,
      ⟨(some 66), none, true, .fieldA 6 108 (.t 3)⟩,
      ⟨(some 67), none, true, .load false 1 (.t 66)⟩,
      ⟨(some 68), none, true, .mv (.t 7)⟩,
      ⟨(some 69), none, false, .indexA (.sl 464) (.t 67) (.t 68)⟩,
      ⟨(some 70), none, true, .fieldA 13 232 (.t 69)⟩,
      ⟨(some 71), none, true, .load true 231 (.t 70)⟩,
      ⟨(some 72), none, true, .mv (.t 8)⟩,
      ⟨(some 73), none, true, .load true 76 (.t 10)⟩,
      ⟨(some 74), none, false, .callq (.c (.fn (.func I.burrowref22_Put) [] [])) [(.t 71), (.t 72), (.t 73)]⟩,
      ⟨(some 75), none, false, .indexA (.sl 464) (.t 64) (.t 65)⟩,
      ⟨(some 76), none, true, .fieldA 13 232 (.t 75)⟩,
      ⟨none, none, false, .store 231 (.t 76) (.t 74)⟩]))))))
  (.region [⟨(some 21), none, true, .mv (.t 8)⟩,
    ⟨(some 22), none, true, .bin .add .no (.t 21) (.c (.int .i64 1))⟩,
    ⟨(some 8), none, true, .mv (.t 22)⟩]))
def burrowref29_changedc1 : ACode :=
  .region [⟨(some 77), none, true, .bin .add .no (.t 16) (.c (.int .i64 1))⟩,
    ⟨(some 16), none, true, .mv (.t 77)⟩]
def burrowref29_changedl2 : ACode :=
  .seq (.region [⟨(some 17), none, true, .bin .lss .no (.t 16) (.t 15)⟩])
  (.seq (.cond (.t 17)
      (.skip)
      (.exit 0))
  (.seq (.block 1 (.seq (.region [⟨(some 18), none, true, .mv (.t 16)⟩,
        ⟨(some 7), none, true, .mv (.t 18)⟩])
    (.seq (.region [⟨(some 8), none, true, .mv (.c (.int .i64 1))⟩])
    (.block 2 (.loop burrowref29_changedl0)))))
  burrowref29_changedc1))
def burrowref29_changedc3 : ACode :=
  .seq (.region [⟨(some 78), none, true, .load true 148 (.t 3)⟩,
      ⟨none, none, false, .store 148 (.t 6) (.t 78)⟩])
  (.ret)
def burrowref29_changed : AFun := ⟨79, [.load true 148 (.t 6)],
  .seq (.region [⟨(some 3), none, false, .box (.t 0)⟩,
      ⟨(some 6), none, false, .alloc (.st 148 [(.st 10 [(.int .u64 0), (.int .u64 0), (.int .i64 0), (.int .i64 0), (.int .i64 0), (.int .i64 0), (.int .i64 0), (.int .i64 0), (.int .i64 0), (.int .i64 0)]), (.ar 1 32 (zr 32 (.int .u8 0))), (.ar 1 32 (zr 32 (.int .u8 0))), (.int .i64 0), (.ar 1 32 (zr 32 (.int .u8 0))), (.int .i64 0), (.sl 464 [] true), (.sl 50 [] true), (.sl 34 [] true), (.sl 34 [] true), (.ar 1 32 (zr 32 (.int .u8 0))), (.int .i64 0), (.sl 1 [] true), (.sl 19 [] true), (.int .i64 0)])⟩])
  (.seq (.region [⟨(some 11), none, true, .load true 148 (.t 3)⟩,
      ⟨(some 12), none, false, .call (.c (.fn (.func I.burrowref24_Copy) [] [])) [(.t 11)]⟩,
      ⟨none, none, false, .store 148 (.t 3) (.t 12)⟩])
  (.seq (.seq (.region [⟨(some 13), none, true, .fieldA 6 108 (.t 3)⟩,
        ⟨(some 14), none, true, .load false 1 (.t 13)⟩,
        ⟨(some 15), none, true, .len (.t 14)⟩,
        ⟨(some 16), none, true, .mv (.c (.int .i64 0))⟩])
    (.block 0 (.loop burrowref29_changedl2)))
  burrowref29_changedc3))⟩
/- burrow/burrowref25.SamePeer -/
def burrowref25_SamePeerl0 : ACode :=
  .seq (.region [⟨(some 115), none, true, .bin .lss .no (.t 114) (.t 113)⟩])
  (.seq (.cond (.t 115)
      (.skip)
      (.exit 0))
  (.seq (.block 1 (.seq (.region [⟨(some 116), none, true, .mv (.t 114)⟩,
        ⟨(some 5), none, true, .mv (.t 116)⟩])
    (.seq (.region [⟨(some 117), none, true, .fieldA 14 463 (.t 2)⟩,
        ⟨(some 118), none, true, .load false 1 (.t 117)⟩,
        ⟨(some 119), none, true, .mv (.t 5)⟩,
        ⟨(some 120), none, false, .indexA (.sl 1) (.t 118) (.t 119)⟩,
        ⟨(some 121), none, true, .load false 1 (.t 120)⟩,
        ⟨(some 122), none, true, .convS (.t 121)⟩,
        ⟨(some 123), none, true, .fieldA 14 463 (.t 3)⟩,
        ⟨(some 124), none, true, .load false 1 (.t 123)⟩,
        ⟨(some 125), none, true, .mv (.t 5)⟩,
        ⟨(some 126), none, false, .indexA (.sl 1) (.t 124) (.t 125)⟩,
        ⟨(some 127), none, true, .load false 1 (.t 126)⟩,
        ⟨(some 128), none, true, .convS (.t 127)⟩,
        ⟨(some 129), none, true, .bin .neq .no (.t 122) (.t 128)⟩])
    (.cond (.t 129)
      (.seq (.region [⟨(some 4), none, true, .mv (.c (.bl false))⟩])
      (.ret))
      (.skip)))))
  (.region [⟨(some 130), none, true, .bin .add .no (.t 114) (.c (.int .i64 1))⟩,
    ⟨(some 114), none, true, .mv (.t 130)⟩])))
def burrowref25_SamePeerc1 : ACode :=
  .seq (.region [⟨(some 4), none, true, .mv (.c (.bl true))⟩])
  (.ret)
def burrowref25_SamePeer : AFun := ⟨131, [.mv (.t 4)],
  .seq (.region [⟨(some 2), none, false, .box (.t 0)⟩,
      ⟨(some 3), none, false, .box (.t 1)⟩,
      ⟨(some 4), none, true, .mv (.c (.bl false))⟩])
  (.seq (.seq (.region [⟨(some 6), none, true, .fieldA 0 0 (.t 2)⟩,
        ⟨(some 7), none, true, .load true 32 (.t 6)⟩,
        ⟨(some 8), none, true, .fieldA 0 0 (.t 3)⟩,
        ⟨(some 9), none, true, .load true 32 (.t 8)⟩,
        ⟨(some 10), none, true, .bin .neq (.sh (.ar 32 (.i .u8))) (.t 7) (.t 9)⟩,
        ⟨(some 11), none, true, .mv (.t 10)⟩,
        ⟨(some 12), (some (11, false)), true, .fieldA 1 32 (.t 2)⟩,
        ⟨(some 13), (some (11, false)), true, .load true 32 (.t 12)⟩,
        ⟨(some 14), (some (11, false)), true, .fieldA 1 32 (.t 3)⟩,
        ⟨(some 15), (some (11, false)), true, .load true 32 (.t 14)⟩,
        ⟨(some 16), (some (11, false)), true, .bin .neq (.sh (.ar 32 (.i .u8))) (.t 13) (.t 15)⟩,
        ⟨(some 17), none, true, .pick (.t 11) (.c (.bl true)) (.t 16)⟩,
        ⟨(some 18), none, true, .mv (.t 17)⟩,
        ⟨(some 19), (some (18, false)), true, .fieldA 2 64 (.t 2)⟩,
        ⟨(some 20), (some (18, false)), true, .load false 1 (.t 19)⟩,
        ⟨(some 21), (some (18, false)), true, .fieldA 2 64 (.t 3)⟩,
        ⟨(some 22), (some (18, false)), true, .load false 1 (.t 21)⟩,
        ⟨(some 23), (some (18, false)), true, .bin .neq .bl (.t 20) (.t 22)⟩,
        ⟨(some 24), none, true, .pick (.t 18) (.c (.bl true)) (.t 23)⟩,
        ⟨(some 25), none, true, .mv (.t 24)⟩,
        ⟨(some 26), (some (25, false)), true, .fieldA 3 65 (.t 2)⟩,
        ⟨(some 27), (some (25, false)), true, .load true 18 (.t 26)⟩,
        ⟨(some 28), (some (25, false)), true, .fieldA 3 65 (.t 3)⟩,
        ⟨(some 29), (some (25, false)), true, .load true 18 (.t 28)⟩,
        ⟨(some 30), (some (25, false)), true, .bin .neq (.sh (.st [(.st [.b, (.ar 16 (.i .u8))]), (.i .i64)])) (.t 27) (.t 29)⟩,
        ⟨(some 31), none, true, .pick (.t 25) (.c (.bl true)) (.t 30)⟩,
        ⟨(some 32), none, true, .mv (.t 31)⟩,
        ⟨(some 33), (some (32, false)), true, .fieldA 4 83 (.t 2)⟩,
        ⟨(some 34), (some (32, false)), true, .load false 1 (.t 33)⟩,
        ⟨(some 35), (some (32, false)), true, .fieldA 4 83 (.t 3)⟩,
        ⟨(some 36), (some (32, false)), true, .load false 1 (.t 35)⟩,
        ⟨(some 37), (some (32, false)), true, .bin .neq .no (.t 34) (.t 36)⟩,
        ⟨(some 38), none, true, .pick (.t 32) (.c (.bl true)) (.t 37)⟩,
        ⟨(some 39), none, true, .mv (.t 38)⟩,
        ⟨(some 40), (some (39, false)), true, .fieldA 5 84 (.t 2)⟩,
        ⟨(some 41), (some (39, false)), true, .load true 12 (.t 40)⟩,
        ⟨(some 42), (some (39, false)), true, .fieldA 5 84 (.t 3)⟩,
        ⟨(some 43), (some (39, false)), true, .load true 12 (.t 42)⟩,
        ⟨(some 44), (some (39, false)), true, .bin .neq (.sh (.ar 12 (.i .u8))) (.t 41) (.t 43)⟩,
        ⟨(some 45), none, true, .pick (.t 39) (.c (.bl true)) (.t 44)⟩,
        ⟨(some 46), none, true, .mv (.t 45)⟩,
        ⟨(some 47), (some (46, false)), true, .fieldA 6 96 (.t 2)⟩,
        ⟨(some 48), (some (46, false)), true, .load false 1 (.t 47)⟩,
        ⟨(some 49), (some (46, false)), true, .fieldA 6 96 (.t 3)⟩,
        ⟨(some 50), (some (46, false)), true, .load false 1 (.t 49)⟩,
        ⟨(some 51), (some (46, false)), true, .bin .neq .bl (.t 48) (.t 50)⟩,
        ⟨(some 52), none, true, .pick (.t 46) (.c (.bl true)) (.t 51)⟩,
        ⟨(some 53), none, true, .mv (.t 52)⟩,
        ⟨(some 54), (some (53, false)), true, .fieldA 7 97 (.t 2)⟩,
        ⟨(some 55), (some (53, false)), true, .load false 1 (.t 54)⟩,
        ⟨(some 56), (some (53, false)), true, .fieldA 7 97 (.t 3)⟩,
        ⟨(some 57), (some (53, false)), true, .load false 1 (.t 56)⟩,
        ⟨(some 58), (some (53, false)), true, .bin .neq .no (.t 55) (.t 57)⟩,
        ⟨(some 59), none, true, .pick (.t 53) (.c (.bl true)) (.t 58)⟩,
        ⟨(some 60), none, true, .mv (.t 59)⟩,
        ⟨(some 61), (some (60, false)), true, .fieldA 8 98 (.t 2)⟩,
        ⟨(some 62), (some (60, false)), true, .load true 100 (.t 61)⟩,
        ⟨(some 63), (some (60, false)), true, .fieldA 8 98 (.t 3)⟩,
        ⟨(some 64), (some (60, false)), true, .load true 100 (.t 63)⟩,
        ⟨(some 65), (some (60, false)), true, .bin .neq (.sh (.st [.b, (.i .u32), (.ar 32 (.i .u8)), (.st [(.ar 32 (.i .u8)), (.ar 32 (.i .u8))]), (.i .i64), (.i .i64)])) (.t 62) (.t 64)⟩,
        ⟨(some 66), none, true, .pick (.t 60) (.c (.bl true)) (.t 65)⟩,
        ⟨(some 67), none, true, .mv (.t 66)⟩,
        ⟨(some 68), (some (67, false)), true, .fieldA 9 198 (.t 2)⟩,
        ⟨(some 69), (some (67, false)), true, .load false 1 (.t 68)⟩,
        ⟨(some 70), (some (67, false)), true, .fieldA 9 198 (.t 3)⟩,
        ⟨(some 71), (some (67, false)), true, .load false 1 (.t 70)⟩,
        ⟨(some 72), (some (67, false)), true, .bin .neq .bl (.t 69) (.t 71)⟩,
        ⟨(some 73), none, true, .pick (.t 67) (.c (.bl true)) (.t 72)⟩,
        ⟨(some 74), none, true, .mv (.t 73)⟩,
        ⟨(some 75), (some (74, false)), true, .fieldA 10 199 (.t 2)⟩,
        ⟨(some 76), (some (74, false)), true, .load true 16 (.t 75)⟩,
        ⟨(some 77), (some (74, false)), true, .fieldA 10 199 (.t 3)⟩,
        ⟨(some 78), (some (74, false)), true, .load true 16 (.t 77)⟩,
        ⟨(some 79), (some (74, false)), true, .bin .neq (.sh (.ar 16 (.i .u8))) (.t 76) (.t 78)⟩,
        ⟨(some 80), none, true, .pick (.t 74) (.c (.bl true)) (.t 79)⟩,
        ⟨(some 81), none, true, .mv (.t 80)⟩,
        ⟨(some 82), (some (81, false)), true, .fieldA 11 215 (.t 2)⟩,
        ⟨(some 83), (some (81, false)), true, .load false 1 (.t 82)⟩,
        ⟨(some 84), (some (81, false)), true, .fieldA 11 215 (.t 3)⟩,
        ⟨(some 85), (some (81, false)), true, .load false 1 (.t 84)⟩,
        ⟨(some 86), (some (81, false)), true, .bin .neq .no (.t 83) (.t 85)⟩,
        ⟨(some 87), none, true, .pick (.t 81) (.c (.bl true)) (.t 86)⟩,
        ⟨(some 88), none, true, .mv (.t 87)⟩,
        ⟨(some 89), (some (88, false)), true, .fieldA 12 216 (.t 2)⟩,
        ⟨(some 90), (some (88, false)), true, .load true 16 (.t 89)⟩,
        ⟨(some 91), (some (88, false)), true, .fieldA 12 216 (.t 3)⟩,
        ⟨(some 92), (some (88, false)), true, .load true 16 (.t 91)⟩,
        ⟨(some 93), (some (88, false)), true, .bin .neq (.sh (.ar 16 (.i .u8))) (.t 90) (.t 92)⟩,
        ⟨(some 94), none, true, .pick (.t 88) (.c (.bl true)) (.t 93)⟩,
        ⟨(some 95), none, true, .mv (.t 94)⟩,
        ⟨(some 96), (some (95, false)), true, .fieldA 13 232 (.t 2)⟩,
        ⟨(some 97), (some (95, false)), true, .load true 231 (.t 96)⟩,
        ⟨(some 98), (some (95, false)), true, .fieldA 13 232 (.t 3)⟩,
        ⟨(some 99), (some (95, false)), true, .load true 231 (.t 98)⟩,
        ⟨(some 100), (some (95, false)), true, .bin .neq (.sh (.st [(.st [.b, (.st [(.i .u32), (.i .u32), (.ar 32 (.i .u8)), (.ar 32 (.i .u8)), (.i .u64), (.i .u64), (.st [.b, (.i .u64), (.ar 4 (.i .u64))]), (.i .i64), .b])]), (.st [.b, (.st [(.i .u32), (.i .u32), (.ar 32 (.i .u8)), (.ar 32 (.i .u8)), (.i .u64), (.i .u64), (.st [.b, (.i .u64), (.ar 4 (.i .u64))]), (.i .i64), .b])]), (.st [.b, (.st [(.i .u32), (.i .u32), (.ar 32 (.i .u8)), (.ar 32 (.i .u8)), (.i .u64), (.i .u64), (.st [.b, (.i .u64), (.ar 4 (.i .u64))]), (.i .i64), .b])])])) (.t 97) (.t 99)⟩,
        ⟨(some 101), none, true, .pick (.t 95) (.c (.bl true)) (.t 100)⟩,
        ⟨(some 102), none, true, .mv (.t 101)⟩,
        ⟨(some 103), (some (102, false)), true, .fieldA 14 463 (.t 2)⟩,
        ⟨(some 104), (some (102, false)), true, .load false 1 (.t 103)⟩,
        ⟨(some 105), (some (102, false)), true, .len (.t 104)⟩,
        ⟨(some 106), (some (102, false)), true, .fieldA 14 463 (.t 3)⟩,
        ⟨(some 107), (some (102, false)), true, .load false 1 (.t 106)⟩,
        ⟨(some 108), (some (102, false)), true, .len (.t 107)⟩,
        ⟨(some 109), (some (102, false)), true, .bin .neq .no (.t 105) (.t 108)⟩,
        ⟨(some 110), none, true, .pick (.t 102) (.c (.bl true)) (.t 109)⟩])
    (.cond (.t 110)
      (.seq (.region [⟨(some 4), none, true, .mv (.c (.bl false))⟩])
      (.ret))
      (.skip)))
  (.seq (.seq (.region [⟨(some 111), none, true, .fieldA 14 463 (.t 2)⟩,
        ⟨(some 112), none, true, .load false 1 (.t 111)⟩,
        ⟨(some 113), none, true, .len (.t 112)⟩,
        ⟨(some 114), none, true, .mv (.c (.int .i64 0))⟩])
    (.block 0 (.loop burrowref25_SamePeerl0)))
  burrowref25_SamePeerc1))⟩
/- burrow/burrowref25.sameLists -/
def burrowref25_sameListsl0 : ACode :=
  .seq (.region [⟨(some 57), none, true, .bin .lss .no (.t 56) (.t 55)⟩])
  (.seq (.cond (.t 57)
      (.skip)
      (.exit 0))
  (.seq (.block 1 (.seq (.region [⟨(some 58), none, true, .mv (.t 56)⟩,
        ⟨(some 5), none, true, .mv (.t 58)⟩])
    (.seq (.region [⟨(some 59), none, true, .fieldA 7 109 (.t 2)⟩,
        ⟨(some 60), none, true, .load false 1 (.t 59)⟩,
        ⟨(some 61), none, true, .mv (.t 5)⟩,
        ⟨(some 62), none, false, .indexA (.sl 50) (.t 60) (.t 61)⟩,
        ⟨(some 63), none, true, .load true 50 (.t 62)⟩,
        ⟨(some 64), none, true, .fieldA 7 109 (.t 3)⟩,
        ⟨(some 65), none, true, .load false 1 (.t 64)⟩,
        ⟨(some 66), none, true, .mv (.t 5)⟩,
        ⟨(some 67), none, false, .indexA (.sl 50) (.t 65) (.t 66)⟩,
        ⟨(some 68), none, true, .load true 50 (.t 67)⟩,
        ⟨(some 69), none, true, .bin .neq (.sh (.st [(.st [(.st [.b, (.ar 16 (.i .u8))]), (.i .i64)]), (.ar 32 (.i .u8))])) (.t 63) (.t 68)⟩])
    (.cond (.t 69)
      (.seq (.region [⟨(some 4), none, true, .mv (.c (.bl false))⟩])
      (.ret))
      (.skip)))))
  (.region [⟨(some 70), none, true, .bin .add .no (.t 56) (.c (.int .i64 1))⟩,
    ⟨(some 56), none, true, .mv (.t 70)⟩])))
def burrowref25_sameListsl1 : ACode :=
  .seq (.region [⟨(some 75), none, true, .bin .lss .no (.t 74) (.t 73)⟩])
  (.seq (.cond (.t 75)
      (.skip)
      (.exit 2))
  (.seq (.block 3 (.seq (.region [⟨(some 76), none, true, .mv (.t 74)⟩,
        ⟨(some 6), none, true, .mv (.t 76)⟩])
    (.seq (.region [⟨(some 77), none, true, .fieldA 8 110 (.t 2)⟩,
        ⟨(some 78), none, true, .load false 1 (.t 77)⟩,
        ⟨(some 79), none, true, .mv (.t 6)⟩,
        ⟨(some 80), none, false, .indexA (.sl 34) (.t 78) (.t 79)⟩,
        ⟨(some 81), none, true, .load true 34 (.t 80)⟩,
        ⟨(some 82), none, true, .fieldA 8 110 (.t 3)⟩,
        ⟨(some 83), none, true, .load false 1 (.t 82)⟩,
        ⟨(some 84), none, true, .mv (.t 6)⟩,
        ⟨(some 85), none, false, .indexA (.sl 34) (.t 83) (.t 84)⟩,
        ⟨(some 86), none, true, .load true 34 (.t 85)⟩,
        ⟨(some 87), none, true, .bin .neq (.sh (.st [(.i .u32), (.ar 32 (.i .u8)), .b])) (.t 81) (.t 86)⟩])
    (.cond (.t 87)
      (.seq (.region [⟨(some 4), none, true, .mv (.c (.bl false))⟩])
      (.ret))
      (.skip)))))
  (.region [⟨(some 88), none, true, .bin .add .no (.t 74) (.c (.int .i64 1))⟩,
    ⟨(some 74), none, true, .mv (.t 88)⟩])))
def burrowref25_sameListsl2 : ACode :=
  .seq (.region [⟨(some 93), none, true, .bin .lss .no (.t 92) (.t 91)⟩])
  (.seq (.cond (.t 93)
      (.skip)
      (.exit 4))
  (.seq (.block 5 (.seq (.region [⟨(some 94), none, true, .mv (.t 92)⟩,
        ⟨(some 7), none, true, .mv (.t 94)⟩])
    (.seq (.region [⟨(some 95), none, true, .fieldA 9 111 (.t 2)⟩,
        ⟨(some 96), none, true, .load false 1 (.t 95)⟩,
        ⟨(some 97), none, true, .mv (.t 7)⟩,
        ⟨(some 98), none, false, .indexA (.sl 34) (.t 96) (.t 97)⟩,
        ⟨(some 99), none, true, .load true 34 (.t 98)⟩,
        ⟨(some 100), none, true, .fieldA 9 111 (.t 3)⟩,
        ⟨(some 101), none, true, .load false 1 (.t 100)⟩,
        ⟨(some 102), none, true, .mv (.t 7)⟩,
        ⟨(some 103), none, false, .indexA (.sl 34) (.t 101) (.t 102)⟩,
        ⟨(some 104), none, true, .load true 34 (.t 103)⟩,
        ⟨(some 105), none, true, .bin .neq (.sh (.st [(.i .i64), (.ar 32 (.i .u8)), (.i .i64)])) (.t 99) (.t 104)⟩])
    (.cond (.t 105)
      (.seq (.region [⟨(some 4), none, true, .mv (.c (.bl false))⟩])
      (.ret))
      (.skip)))))
  (.region [⟨(some 106), none, true, .bin .add .no (.t 92) (.c (.int .i64 1))⟩,
    ⟨(some 92), none, true, .mv (.t 106)⟩])))
def burrowref25_sameListsl3 : ACode :=
  .seq (.region [⟨(some 111), none, true, .bin .lss .no (.t 110) (.t 109)⟩])
  (.seq (.cond (.t 111)
      (.skip)
      (.exit 6))
  (.seq (.block 7 (.seq (.region [⟨(some 112), none, true, .mv (.t 110)⟩,
        ⟨(some 8), none, true, .mv (.t 112)⟩])
    (.seq (.region [⟨(some 113), none, true, .fieldA 12 145 (.t 2)⟩,
        ⟨(some 114), none, true, .load false 1 (.t 113)⟩,
        ⟨(some 115), none, true, .mv (.t 8)⟩,
        ⟨(some 116), none, false, .indexA (.sl 1) (.t 114) (.t 115)⟩,
        ⟨(some 117), none, true, .load false 1 (.t 116)⟩,
        ⟨(some 118), none, true, .fieldA 12 145 (.t 3)⟩,
        ⟨(some 119), none, true, .load false 1 (.t 118)⟩,
        ⟨(some 120), none, true, .mv (.t 8)⟩,
        ⟨(some 121), none, false, .indexA (.sl 1) (.t 119) (.t 120)⟩,
        ⟨(some 122), none, true, .load false 1 (.t 121)⟩,
        ⟨(some 123), none, true, .bin .neq .no (.t 117) (.t 122)⟩])
    (.cond (.t 123)
      (.seq (.region [⟨(some 4), none, true, .mv (.c (.bl false))⟩])
      (.ret))
      (.skip)))))
  (.region [⟨(some 124), none, true, .bin .add .no (.t 110) (.c (.int .i64 1))⟩,
    ⟨(some 110), none, true, .mv (.t 124)⟩])))
def burrowref25_sameListsl4 : ACode :=
  .seq (.region [⟨(some 129), none, true, .bin .lss .no (.t 128) (.t 127)⟩])
  (.seq (.cond (.t 129)
      (.skip)
      (.exit 8))
  (.seq (.block 9 (.seq (.region [⟨(some 130), none, true, .mv (.t 128)⟩,
        ⟨(some 9), none, true, .mv (.t 130)⟩])
    (.seq (.region [⟨(some 131), none, true, .fieldA 13 146 (.t 2)⟩,
        ⟨(some 132), none, true, .load false 1 (.t 131)⟩,
        ⟨(some 133), none, true, .mv (.t 9)⟩,
        ⟨(some 134), none, false, .indexA (.sl 19) (.t 132) (.t 133)⟩,
        ⟨(some 135), none, true, .load true 19 (.t 134)⟩,
        ⟨(some 136), none, true, .fieldA 13 146 (.t 3)⟩,
        ⟨(some 137), none, true, .load false 1 (.t 136)⟩,
        ⟨(some 138), none, true, .mv (.t 9)⟩,
        ⟨(some 139), none, false, .indexA (.sl 19) (.t 137) (.t 138)⟩,
        ⟨(some 140), none, true, .load true 19 (.t 139)⟩,
        ⟨(some 141), none, true, .bin .neq (.sh (.st [(.st [.b, (.ar 16 (.i .u8))]), (.i .i64), (.i .i64)])) (.t 135) (.t 140)⟩])
    (.cond (.t 141)
      (.seq (.region [⟨(some 4), none, true, .mv (.c (.bl false))⟩])
      (.ret))
      (.skip)))))
  (.region [⟨(some 142), none, true, .bin .add .no (.t 128) (.c (.int .i64 1))⟩,
    ⟨(some 128), none, true, .mv (.t 142)⟩])))
def burrowref25_sameListsc5 : ACode :=
  .seq (.region [⟨(some 4), none, true, .mv (.c (.bl true))⟩])
  (.ret)
def burrowref25_sameListsc6 : ACode :=
  .seq (.seq (.region [⟨(some 125), none, true, .fieldA 13 146 (.t 2)⟩,
        ⟨(some 126), none, true, .load false 1 (.t 125)⟩,
        ⟨(some 127), none, true, .len (.t 126)⟩,
        ⟨(some 128), none, true, .mv (.c (.int .i64 0))⟩])
    (.block 8 (.loop burrowref25_sameListsl4)))
  burrowref25_sameListsc5
def burrowref25_sameListsc7 : ACode :=
  .seq (.seq (.region [⟨(some 107), none, true, .fieldA 12 145 (.t 2)⟩,
        ⟨(some 108), none, true, .load false 1 (.t 107)⟩,
        ⟨(some 109), none, true, .len (.t 108)⟩,
        ⟨(some 110), none, true, .mv (.c (.int .i64 0))⟩])
    (.block 6 (.loop burrowref25_sameListsl3)))
  burrowref25_sameListsc6
def burrowref25_sameListsc8 : ACode :=
  .seq (.seq (.region [⟨(some 89), none, true, .fieldA 9 111 (.t 2)⟩,
        ⟨(some 90), none, true, .load false 1 (.t 89)⟩,
        ⟨(some 91), none, true, .len (.t 90)⟩,
        ⟨(some 92), none, true, .mv (.c (.int .i64 0))⟩])
    (.block 4 (.loop burrowref25_sameListsl2)))
  burrowref25_sameListsc7
def burrowref25_sameListsc9 : ACode :=
  .seq (.seq (.region [⟨(some 71), none, true, .fieldA 8 110 (.t 2)⟩,
        ⟨(some 72), none, true, .load false 1 (.t 71)⟩,
        ⟨(some 73), none, true, .len (.t 72)⟩,
        ⟨(some 74), none, true, .mv (.c (.int .i64 0))⟩])
    (.block 2 (.loop burrowref25_sameListsl1)))
  burrowref25_sameListsc8
def burrowref25_sameLists : AFun := ⟨143, [.mv (.t 4)],
  .seq (.region [⟨(some 2), none, false, .box (.t 0)⟩,
      ⟨(some 3), none, false, .box (.t 1)⟩,
      ⟨(some 4), none, true, .mv (.c (.bl false))⟩])
  (.seq (.seq (.region [⟨(some 10), none, true, .fieldA 7 109 (.t 2)⟩,
        ⟨(some 11), none, true, .load false 1 (.t 10)⟩,
        ⟨(some 12), none, true, .len (.t 11)⟩,
        ⟨(some 13), none, true, .fieldA 7 109 (.t 3)⟩,
        ⟨(some 14), none, true, .load false 1 (.t 13)⟩,
        ⟨(some 15), none, true, .len (.t 14)⟩,
        ⟨(some 16), none, true, .bin .neq .no (.t 12) (.t 15)⟩,
        ⟨(some 17), none, true, .mv (.t 16)⟩,
        ⟨(some 18), (some (17, false)), true, .fieldA 8 110 (.t 2)⟩,
        ⟨(some 19), (some (17, false)), true, .load false 1 (.t 18)⟩,
        ⟨(some 20), (some (17, false)), true, .len (.t 19)⟩,
        ⟨(some 21), (some (17, false)), true, .fieldA 8 110 (.t 3)⟩,
        ⟨(some 22), (some (17, false)), true, .load false 1 (.t 21)⟩,
        ⟨(some 23), (some (17, false)), true, .len (.t 22)⟩,
        ⟨(some 24), (some (17, false)), true, .bin .neq .no (.t 20) (.t 23)⟩,
        ⟨(some 25), none, true, .pick (.t 17) (.c (.bl true)) (.t 24)⟩,
        ⟨(some 26), none, true, .mv (.t 25)⟩,
        ⟨(some 27), (some (26, false)), true, .fieldA 9 111 (.t 2)⟩,
        ⟨(some 28), (some (26, false)), true, .load false 1 (.t 27)⟩,
        ⟨(some 29), (some (26, false)), true, .len (.t 28)⟩,
        ⟨(some 30), (some (26, false)), true, .fieldA 9 111 (.t 3)⟩,
        ⟨(some 31), (some (26, false)), true, .load false 1 (.t 30)⟩,
        ⟨(some 32), (some (26, false)), true, .len (.t 31)⟩,
        ⟨(some 33), (some (26, false)), true, .bin .neq .no (.t 29) (.t 32)⟩,
        ⟨(some 34), none, true, .pick (.t 26) (.c (.bl true)) (.t 33)⟩,
        ⟨(some 35), none, true, .mv (.t 34)⟩,
        ⟨(some 36), (some (35, false)), true, .fieldA 12 145 (.t 2)⟩,
        ⟨(some 37), (some (35, false)), true, .load false 1 (.t 36)⟩,
        ⟨(some 38), (some (35, false)), true, .len (.t 37)⟩,
        ⟨(some 39), (some (35, false)), true, .fieldA 12 145 (.t 3)⟩,
        ⟨(some 40), (some (35, false)), true, .load false 1 (.t 39)⟩,
        ⟨(some 41), (some (35, false)), true, .len (.t 40)⟩,
        ⟨(some 42), (some (35, false)), true, .bin .neq .no (.t 38) (.t 41)⟩,
        ⟨(some 43), none, true, .pick (.t 35) (.c (.bl true)) (.t 42)⟩,
        ⟨(some 44), none, true, .mv (.t 43)⟩,
        ⟨(some 45), (some (44, false)), true, .fieldA 13 146 (.t 2)⟩,
        ⟨(some 46), (some (44, false)), true, .load false 1 (.t 45)⟩,
        ⟨(some 47), (some (44, false)), true, .len (.t 46)⟩,
        ⟨(some 48), (some (44, false)), true, .fieldA 13 146 (.t 3)⟩,
        ⟨(some 49), (some (44, false)), true, .load false 1 (.t 48)⟩,
        ⟨(some 50), (some (44, false)), true, .len (.t 49)⟩,
        ⟨(some 51), (some (44, false)), true, .bin .neq .no (.t 47) (.t 50)⟩,
        ⟨(some 52), none, true, .pick (.t 44) (.c (.bl true)) (.t 51)⟩])
    (.cond (.t 52)
      (.seq (.region [⟨(some 4), none, true, .mv (.c (.bl false))⟩])
      (.ret))
      (.skip)))
  (.seq (.seq (.region [⟨(some 53), none, true, .fieldA 7 109 (.t 2)⟩,
        ⟨(some 54), none, true, .load false 1 (.t 53)⟩,
        ⟨(some 55), none, true, .len (.t 54)⟩,
        ⟨(some 56), none, true, .mv (.c (.int .i64 0))⟩])
    (.block 0 (.loop burrowref25_sameListsl0)))
  burrowref25_sameListsc9))⟩
/- (*burrow/burrowcase.Codes).Bytes -/
def burrowcase_Codes_Bytesl0 : ACode :=
  .seq (.region [⟨(some 22), none, true, .bin .lss .no (.t 21) (.t 20)⟩])
  (.seq (.cond (.t 22)
      (.skip)
      (.exit 0))
  (.seq (.block 1 (.seq (.region [⟨(some 23), none, true, .mv (.t 21)⟩,
        ⟨(some 8), none, true, .mv (.t 23)⟩])
    (.region [⟨(some 24), none, true, .mv (.t 5)⟩,
      ⟨(some 25), none, true, .mv (.t 8)⟩,
      ⟨(some 26), none, true, .mv (.t 6)⟩,
      ⟨(some 27), none, true, .mv (.t 8)⟩,
      ⟨(some 28), none, true, .mv (.t 7)⟩,
      ⟨(some 29), none, true, .bin .mul .no (.t 27) (.t 28)⟩,
      ⟨(some 30), none, true, .bin .add .no (.t 26) (.t 29)⟩,
      ⟨(some 31), none, true, .convI .u8 (.t 30)⟩,
      ⟨(some 32), none, false, .indexA (.sl 1) (.t 24) (.t 25)⟩,
      ⟨none, none, false, .store 1 (.t 32) (.t 31)⟩])))
  (.region [⟨(some 33), none, true, .bin .add .no (.t 21) (.c (.int .i64 1))⟩,
    ⟨(some 21), none, true, .mv (.t 33)⟩])))
def burrowcase_Codes_Bytesc1 : ACode :=
  .seq (.region [⟨(some 34), none, true, .mv (.t 5)⟩,
      ⟨(some 4), none, true, .mv (.t 34)⟩])
  (.ret)
def burrowcase_Codes_Bytes : AFun := ⟨35, [.mv (.t 4)],
  .seq (.region [⟨(some 4), none, true, .mv (.c (.sl 1 [] true))⟩])
  (.seq (.region [⟨(some 9), none, true, .mv (.t 1)⟩,
      ⟨(some 10), none, false, .makeSlice 1 1 (.int .u8 0) (.t 9) (.t 9)⟩,
      ⟨(some 5), none, true, .mv (.t 10)⟩])
  (.seq (.region [⟨(some 11), none, true, .mv (.t 0)⟩,
      ⟨(some 12), none, false, .call (.c (.fn (.func I.burrowcase_Codes_Next) [] [])) [(.t 11), (.c (.int .i64 256))]⟩,
      ⟨(some 6), none, true, .mv (.t 12)⟩])
  (.seq (.region [⟨(some 13), none, true, .mv (.t 0)⟩,
      ⟨(some 14), none, true, .nilCheck (.t 13)⟩,
      ⟨(some 15), none, true, .fieldA 1 1 (.t 14)⟩,
      ⟨(some 16), none, true, .load false 1 (.t 15)⟩,
      ⟨(some 17), none, true, .bin .mul .no (.c (.int .i64 2)) (.t 16)⟩,
      ⟨(some 18), none, true, .bin .add .no (.t 17) (.c (.int .i64 1))⟩,
      ⟨(some 7), none, true, .mv (.t 18)⟩])
  (.seq (.seq (.region [⟨(some 19), none, true, .mv (.t 5)⟩,
        ⟨(some 20), none, true, .len (.t 19)⟩,
        ⟨(some 21), none, true, .mv (.c (.int .i64 0))⟩])
    (.block 0 (.loop burrowcase_Codes_Bytesl0)))
  burrowcase_Codes_Bytesc1))))⟩
/- (*burrow/burrowcase.Codes).Left -/

def burrowcase_Codes_Left : AFun := ⟨13, [.mv (.t 2)],
  .seq (.region [⟨(some 2), none, true, .mv (.c (.bl false))⟩])
  (.seq (.region [⟨(some 3), none, true, .mv (.t 0)⟩,
      ⟨(some 4), none, true, .nilCheck (.t 3)⟩,
      ⟨(some 5), none, true, .fieldA 1 1 (.t 4)⟩,
      ⟨(some 6), none, true, .load false 1 (.t 5)⟩,
      ⟨(some 7), none, true, .mv (.t 0)⟩,
      ⟨(some 8), none, true, .nilCheck (.t 7)⟩,
      ⟨(some 9), none, true, .fieldA 0 0 (.t 8)⟩,
      ⟨(some 10), none, true, .load false 1 (.t 9)⟩,
      ⟨(some 11), none, true, .len (.t 10)⟩,
      ⟨(some 12), none, true, .bin .lss .no (.t 6) (.t 11)⟩,
      ⟨(some 2), none, true, .mv (.t 12)⟩])
  (.ret))⟩
/- burrow/burrowref14.Cancel -/
def burrowref14_Cancell0 : ACode :=
  .seq (.region [⟨(some 13), none, true, .bin .lss .no (.t 12) (.t 11)⟩])
  (.seq (.cond (.t 13)
      (.skip)
      (.exit 0))
  (.seq (.block 1 (.seq (.region [⟨(some 14), none, false, .indexA (.sl 34) (.t 10) (.t 12)⟩,
        ⟨(some 15), none, true, .load true 34 (.t 14)⟩,
        ⟨(some 9), none, false, .alloc (.st 34 [(.int .i64 0), (.ar 1 32 (zr 32 (.int .u8 0))), (.int .i64 0)])⟩,
        ⟨none, none, false, .store 34 (.t 9) (.t 15)⟩])
    (.seq (.region [⟨(some 16), none, true, .fieldA 1 1 (.t 9)⟩,
        ⟨(some 17), none, true, .load true 32 (.t 16)⟩,
        ⟨(some 18), none, true, .load true 32 (.t 4)⟩,
        ⟨(some 19), none, true, .bin .neq (.sh (.ar 32 (.i .u8))) (.t 17) (.t 18)⟩,
        ⟨(some 20), none, true, .mv (.t 19)⟩,
        ⟨(some 21), (some (20, false)), true, .fieldA 2 33 (.t 9)⟩,
        ⟨(some 22), (some (20, false)), true, .load false 1 (.t 21)⟩,
        ⟨(some 23), (some (20, false)), true, .mv (.t 2)⟩,
        ⟨(some 24), (some (20, false)), true, .bin .neq .no (.t 22) (.t 23)⟩,
        ⟨(some 25), none, true, .pick (.t 20) (.c (.bl true)) (.t 24)⟩])
    (.cond (.t 25)
      (.region [⟨(some 26), none, true, .mv (.t 7)⟩,
        ⟨(some 27), none, true, .load true 34 (.t 9)⟩,
        ⟨(some 28), none, false, .buildSlice false 34 (.st 34 [(.int .i64 0), (.ar 1 32 (zr 32 (.int .u8 0))), (.int .i64 0)]) 1 [(0, (.t 27))]⟩,
        ⟨(some 29), none, false, .append 34 48 false (.t 26) (.t 28)⟩,
        ⟨(some 7), none, true, .mv (.t 29)⟩])
      (.skip)))))
  (.region [⟨(some 30), none, true, .bin .add .no (.t 12) (.c (.int .i64 1))⟩,
    ⟨(some 12), none, true, .mv (.t 30)⟩])))
def burrowref14_Cancelc1 : ACode :=
  .seq (.region [⟨(some 31), none, true, .mv (.t 7)⟩,
      ⟨(some 6), none, true, .mv (.t 31)⟩])
  (.ret)
def burrowref14_Cancel : AFun := ⟨32, [.mv (.t 6)],
  .seq (.region [⟨(some 4), none, false, .box (.t 1)⟩,
      ⟨(some 6), none, true, .mv (.c (.sl 34 [] true))⟩])
  (.seq (.region [⟨(some 7), none, true, .mv (.c (.sl 34 [] true))⟩])
  (.seq (.seq (.region [⟨(some 10), none, true, .mv (.t 0)⟩,
        ⟨(some 11), none, true, .len (.t 10)⟩,
        ⟨(some 12), none, true, .mv (.c (.int .i64 0))⟩])
    (.block 0 (.loop burrowref14_Cancell0)))
  burrowref14_Cancelc1))⟩
/- burrow/burrowref14.LessTimer -/

def burrowref14_LessTimer : AFun := ⟨32, [.mv (.t 4)],
  .seq (.region [⟨(some 2), none, false, .box (.t 0)⟩,
      ⟨(some 3), none, false, .box (.t 1)⟩,
      ⟨(some 4), none, true, .mv (.c (.bl false))⟩])
  (.seq (.seq (.region [⟨(some 5), none, true, .fieldA 0 0 (.t 2)⟩,
        ⟨(some 6), none, true, .load false 1 (.t 5)⟩,
        ⟨(some 7), none, true, .fieldA 0 0 (.t 3)⟩,
        ⟨(some 8), none, true, .load false 1 (.t 7)⟩,
        ⟨(some 9), none, true, .bin .neq .no (.t 6) (.t 8)⟩])
    (.cond (.t 9)
      (.seq (.region [⟨(some 10), none, true, .fieldA 0 0 (.t 2)⟩,
          ⟨(some 11), none, true, .load false 1 (.t 10)⟩,
          ⟨(some 12), none, true, .fieldA 0 0 (.t 3)⟩,
          ⟨(some 13), none, true, .load false 1 (.t 12)⟩,
          ⟨(some 14), none, true, .bin .lss .no (.t 11) (.t 13)⟩,
          ⟨(some 4), none, true, .mv (.t 14)⟩])
      (.ret))
      (.skip)))
  (.seq (.seq (.region [⟨(some 15), none, true, .fieldA 1 1 (.t 2)⟩,
        ⟨(some 16), none, true, .load true 32 (.t 15)⟩,
        ⟨(some 17), none, true, .fieldA 1 1 (.t 3)⟩,
        ⟨(some 18), none, true, .load true 32 (.t 17)⟩,
        ⟨(some 19), none, true, .bin .neq (.sh (.ar 32 (.i .u8))) (.t 16) (.t 18)⟩])
    (.cond (.t 19)
      (.seq (.region [⟨(some 20), none, true, .fieldA 1 1 (.t 2)⟩,
          ⟨(some 21), none, false, .slice (.ar 32 1) (.t 20) none none none⟩,
          ⟨(some 22), none, true, .convS (.t 21)⟩,
          ⟨(some 23), none, true, .fieldA 1 1 (.t 3)⟩,
          ⟨(some 24), none, false, .slice (.ar 32 1) (.t 23) none none none⟩,
          ⟨(some 25), none, true, .convS (.t 24)⟩,
          ⟨(some 26), none, true, .bin .lss .no (.t 22) (.t 25)⟩,
          ⟨(some 4), none, true, .mv (.t 26)⟩])
      (.ret))
      (.skip)))
  (.seq (.region [⟨(some 27), none, true, .fieldA 2 33 (.t 2)⟩,
      ⟨(some 28), none, true, .load false 1 (.t 27)⟩,
      ⟨(some 29), none, true, .fieldA 2 33 (.t 3)⟩,
      ⟨(some 30), none, true, .load false 1 (.t 29)⟩,
      ⟨(some 31), none, true, .bin .lss .no (.t 28) (.t 30)⟩,
      ⟨(some 4), none, true, .mv (.t 31)⟩])
  (.ret))))⟩
/- burrow/burrowref09.Valid -/
def burrowref09_Validl0 : ACode :=
  .seq (.seq (.region [⟨(some 23), none, true, .mv (.t 3)⟩,
        ⟨(some 24), none, true, .bin .lss .no (.t 23) (.c (.int .i64 128))⟩])
    (.cond (.t 24)
      (.skip)
      (.exit 0)))
  (.seq (.block 1 (.seq (.region [⟨(some 27), none, true, .fieldA 0 0 (.t 1)⟩,
        ⟨(some 28), none, true, .load true 17 (.t 27)⟩,
        ⟨(some 29), none, true, .mv (.t 3)⟩,
        ⟨(some 30), none, false, .call (.c (.fn (.func I.burrowref09_bit) [] [])) [(.t 28), (.t 29)]⟩,
        ⟨(some 31), none, true, .bin .neq .no (.t 30) (.c (.int .u8 0))⟩])
    (.cond (.t 31)
      (.seq (.region [⟨(some 2), none, true, .mv (.c (.bl false))⟩])
      (.ret))
      (.skip))))
  (.region [⟨(some 25), none, true, .mv (.t 3)⟩,
    ⟨(some 26), none, true, .bin .add .no (.t 25) (.c (.int .i64 1))⟩,
    ⟨(some 3), none, true, .mv (.t 26)⟩]))
def burrowref09_Validc1 : ACode :=
  .seq (.region [⟨(some 2), none, true, .mv (.c (.bl true))⟩])
  (.ret)
def burrowref09_Valid : AFun := ⟨32, [.mv (.t 2)],
  .seq (.region [⟨(some 1), none, false, .box (.t 0)⟩,
      ⟨(some 2), none, true, .mv (.c (.bl false))⟩])
  (.seq (.seq (.region [⟨(some 4), none, true, .fieldA 0 0 (.t 1)⟩,
        ⟨(some 5), none, true, .load true 17 (.t 4)⟩,
        ⟨(some 6), none, false, .callq (.c (.fn (.func I.burrowref09_Sound) [] [])) [(.t 5)]⟩,
        ⟨(some 7), none, true, .un .not (.t 6)⟩,
        ⟨(some 8), none, true, .mv (.t 7)⟩,
        ⟨(some 9), (some (8, false)), true, .fieldA 1 17 (.t 1)⟩,
        ⟨(some 10), (some (8, false)), true, .load false 1 (.t 9)⟩,
        ⟨(some 11), (some (8, false)), true, .bin .lss .no (.t 10) (.c (.int .i64 0))⟩,
        ⟨(some 12), none, true, .pick (.t 8) (.c (.bl true)) (.t 11)⟩,
        ⟨(some 13), none, true, .mv (.t 12)⟩,
        ⟨(some 14), (some (13, false)), true, .fieldA 1 17 (.t 1)⟩,
        ⟨(some 15), (some (13, false)), true, .load false 1 (.t 14)⟩,
        ⟨(some 16), (some (13, false)), true, .fieldA 0 0 (.t 1)⟩,
        ⟨(some 17), (some (13, false)), true, .load true 17 (.t 16)⟩,
        ⟨(some 18), (some (13, false)), false, .callq (.c (.fn (.func I.burrowref09_width) [] [])) [(.t 17)]⟩,
        ⟨(some 19), (some (13, false)), false, .bin .gtr .no (.t 15) (.t 18)⟩,
        ⟨(some 20), none, true, .pick (.t 13) (.c (.bl true)) (.t 19)⟩])
    (.cond (.t 20)
      (.seq (.region [⟨(some 2), none, true, .mv (.c (.bl false))⟩])
      (.ret))
      (.skip)))
  (.seq (.seq (.region [⟨(some 21), none, true, .fieldA 1 17 (.t 1)⟩,
        ⟨(some 22), none, true, .load false 1 (.t 21)⟩,
        ⟨(some 3), none, true, .mv (.t 22)⟩])
    (.block 0 (.loop burrowref09_Validl0)))
  burrowref09_Validc1))⟩
/- burrow/burrowref14.before -/

def burrowref14_before : AFun := ⟨20, [.mv (.t 4)],
  .seq (.region [⟨(some 2), none, false, .box (.t 0)⟩,
      ⟨(some 3), none, false, .box (.t 1)⟩,
      ⟨(some 4), none, true, .mv (.c (.bl false))⟩])
  (.seq (.seq (.region [⟨(some 5), none, true, .fieldA 0 0 (.t 2)⟩,
        ⟨(some 6), none, true, .load true 17 (.t 5)⟩,
        ⟨(some 7), none, true, .fieldA 0 0 (.t 3)⟩,
        ⟨(some 8), none, true, .load true 17 (.t 7)⟩,
        ⟨(some 9), none, true, .bin .neq (.sh (.st [.b, (.ar 16 (.i .u8))])) (.t 6) (.t 8)⟩])
    (.cond (.t 9)
      (.seq (.region [⟨(some 10), none, true, .fieldA 0 0 (.t 2)⟩,
          ⟨(some 11), none, true, .load true 17 (.t 10)⟩,
          ⟨(some 12), none, true, .fieldA 0 0 (.t 3)⟩,
          ⟨(some 13), none, true, .load true 17 (.t 12)⟩,
          ⟨(some 14), none, false, .call (.c (.fn (.func I.burrowref09_Less) [] [])) [(.t 11), (.t 13)]⟩,
          ⟨(some 4), none, true, .mv (.t 14)⟩])
      (.ret))
      (.skip)))
  (.seq (.region [⟨(some 15), none, true, .fieldA 1 17 (.t 2)⟩,
      ⟨(some 16), none, true, .load false 1 (.t 15)⟩,
      ⟨(some 17), none, true, .fieldA 1 17 (.t 3)⟩,
      ⟨(some 18), none, true, .load false 1 (.t 17)⟩,
      ⟨(some 19), none, true, .bin .lss .no (.t 16) (.t 18)⟩,
      ⟨(some 4), none, true, .mv (.t 19)⟩])
  (.ret)))⟩
/- burrow/burrowref24.Valid -/

def burrowref24_Valid : AFun := ⟨6, [.mv (.t 2)],
  .seq (.region [⟨(some 1), none, false, .box (.t 0)⟩,
      ⟨(some 2), none, true, .mv (.c (.bl false))⟩])
  (.seq (.region [⟨(some 3), none, true, .load true 148 (.t 1)⟩,
      ⟨(some 4), none, false, .call (.c (.fn (.func I.burrowref24_Check) [] [])) [(.t 3)]⟩,
      ⟨(some 5), none, true, .bin .eql .no (.t 4) (.c (.int .i64 0))⟩,
      ⟨(some 2), none, true, .mv (.t 5)⟩])
  (.ret))⟩
/- burrow/burrowref24.find -/
def burrowref24_findl0 : ACode :=
  .seq (.region [⟨(some 11), none, true, .bin .lss .no (.t 10) (.t 9)⟩])
  (.seq (.cond (.t 11)
      (.skip)
      (.exit 0))
  (.seq (.block 1 (.seq (.region [⟨(some 12), none, true, .mv (.t 10)⟩,
        ⟨(some 13), none, false, .indexA (.sl 464) (.t 8) (.t 10)⟩,
        ⟨(some 14), none, true, .load true 464 (.t 13)⟩,
        ⟨(some 6), none, false, .alloc (.st 464 [(.ar 1 32 (zr 32 (.int .u8 0))), (.ar 1 32 (zr 32 (.int .u8 0))), (.bl false), (.st 18 [(.st 17 [(.bl false), (.ar 1 16 (zr 16 (.int .u8 0)))]), (.int .i64 0)]), (.int .i64 0), (.ar 1 12 (zr 12 (.int .u8 0))), (.bl false), (.int .i64 0), (.st 100 [(.bl false), (.int .u32 0), (.ar 1 32 (zr 32 (.int .u8 0))), (.st 64 [(.ar 1 32 (zr 32 (.int .u8 0))), (.ar 1 32 (zr 32 (.int .u8 0)))]), (.int .i64 0), (.int .i64 0)]), (.bl false), (.ar 1 16 (zr 16 (.int .u8 0))), (.int .i64 0), (.ar 1 16 (zr 16 (.int .u8 0))), (.st 231 [(.st 77 [(.bl false), (.st 76 [(.int .u32 0), (.int .u32 0), (.ar 1 32 (zr 32 (.int .u8 0))), (.ar 1 32 (zr 32 (.int .u8 0))), (.int .u64 0), (.int .u64 0), (.st 6 [(.bl false), (.int .u64 0), (.ar 1 4 (zr 4 (.int .u64 0)))]), (.int .i64 0), (.bl false)])]), (.st 77 [(.bl false), (.st 76 [(.int .u32 0), (.int .u32 0), (.ar 1 32 (zr 32 (.int .u8 0))), (.ar 1 32 (zr 32 (.int .u8 0))), (.int .u64 0), (.int .u64 0), (.st 6 [(.bl false), (.int .u64 0), (.ar 1 4 (zr 4 (.int .u64 0)))]), (.int .i64 0), (.bl false)])]), (.st 77 [(.bl false), (.st 76 [(.int .u32 0), (.int .u32 0), (.ar 1 32 (zr 32 (.int .u8 0))), (.ar 1 32 (zr 32 (.int .u8 0))), (.int .u64 0), (.int .u64 0), (.st 6 [(.bl false), (.int .u64 0), (.ar 1 4 (zr 4 (.int .u64 0)))]), (.int .i64 0), (.bl false)])])]), (.sl 1 [] true)])⟩,
        ⟨(some 5), none, true, .mv (.t 12)⟩,
        ⟨none, none, false, .store 464 (.t 6) (.t 14)⟩])
    (.seq (.region [⟨(some 15), none, true, .fieldA 0 0 (.t 6)⟩,
        ⟨(some 16), none, true, .load true 32 (.t 15)⟩,
        ⟨(some 17), none, true, .load true 32 (.t 3)⟩,
        ⟨(some 18), none, true, .bin .eql (.sh (.ar 32 (.i .u8))) (.t 16) (.t 17)⟩])
    (.cond (.t 18)
      (.seq (.region [⟨(some 19), none, true, .mv (.t 5)⟩,
          ⟨(some 4), none, true, .mv (.t 19)⟩])
      (.ret))
      (.skip)))))
  (.region [⟨(some 20), none, true, .bin .add .no (.t 10) (.c (.int .i64 1))⟩,
    ⟨(some 10), none, true, .mv (.t 20)⟩])))
def burrowref24_findc1 : ACode :=
  .seq (.region [⟨(some 4), none, true, .mv (.c (.int .i64 (-1)))⟩])
  (.ret)
def burrowref24_find : AFun := ⟨21, [.mv (.t 4)],
  .seq (.region [⟨(some 2), none, false, .box (.t 0)⟩,
      ⟨(some 3), none, false, .box (.t 1)⟩,
      ⟨(some 4), none, true, .mv (.c (.int .i64 0))⟩])
  (.seq (.seq (.region [⟨(some 7), none, true, .fieldA 6 108 (.t 2)⟩,
        ⟨(some 8), none, true, .load false 1 (.t 7)⟩,
        ⟨(some 9), none, true, .len (.t 8)⟩,
        ⟨(some 10), none, true, .mv (.c (.int .i64 0))⟩])
    (.block 0 (.loop burrowref24_findl0)))
  burrowref24_findc1)⟩
/- burrow/burrowref14.FindSlot -/
def burrowref14_FindSlotl0 : ACode :=
  .seq (.region [⟨(some 11), none, true, .bin .lss .no (.t 10) (.t 9)⟩])
  (.seq (.cond (.t 11)
      (.skip)
      (.exit 0))
  (.seq (.block 1 (.seq (.region [⟨(some 12), none, false, .indexA (.sl 34) (.t 8) (.t 10)⟩,
        ⟨(some 13), none, true, .load true 34 (.t 12)⟩,
        ⟨(some 7), none, false, .alloc (.st 34 [(.int .u32 0), (.ar 1 32 (zr 32 (.int .u8 0))), (.bl false)])⟩,
        ⟨none, none, false, .store 34 (.t 7) (.t 13)⟩])
    (.seq (.region [⟨(some 14), none, true, .fieldA 0 0 (.t 7)⟩,
        ⟨(some 15), none, true, .load false 1 (.t 14)⟩,
        ⟨(some 16), none, true, .mv (.t 1)⟩,
        ⟨(some 17), none, true, .bin .eql .no (.t 15) (.t 16)⟩])
    (.cond (.t 17)
      (.seq (.region [⟨(some 18), none, true, .load true 34 (.t 7)⟩,
          ⟨none, none, false, .store 34 (.t 4) (.t 18)⟩,
          ⟨(some 5), none, true, .mv (.c (.bl true))⟩])
      (.ret))
      (.skip)))))
  (.region [⟨(some 19), none, true, .bin .add .no (.t 10) (.c (.int .i64 1))⟩,
    ⟨(some 10), none, true, .mv (.t 19)⟩])))
def burrowref14_FindSlotc1 : ACode :=
  .seq (.region [⟨(some 20), none, false, .build (.st 34 [(.int .u32 0), (.ar 1 32 (zr 32 (.int .u8 0))), (.bl false)]) []⟩,
      ⟨none, none, false, .store 34 (.t 4) (.t 20)⟩,
      ⟨(some 5), none, true, .mv (.c (.bl false))⟩])
  (.ret)
def burrowref14_FindSlot : AFun := ⟨21, [.load true 34 (.t 4), .mv (.t 5)],
  .seq (.region [⟨(some 4), none, false, .alloc (.st 34 [(.int .u32 0), (.ar 1 32 (zr 32 (.int .u8 0))), (.bl false)])⟩,
      ⟨(some 5), none, true, .mv (.c (.bl false))⟩])
  (.seq (.seq (.region [⟨(some 8), none, true, .mv (.t 0)⟩,
        ⟨(some 9), none, true, .len (.t 8)⟩,
        ⟨(some 10), none, true, .mv (.c (.int .i64 0))⟩])
    (.block 0 (.loop burrowref14_FindSlotl0)))
  burrowref14_FindSlotc1)⟩
/- burrow/burrowref24.sound -/

def burrowref24_sound : AFun := ⟨33, [.mv (.t 4)],
  .seq (.region [⟨(some 2), none, false, .box (.t 0)⟩,
      ⟨(some 3), none, false, .box (.t 1)⟩,
      ⟨(some 4), none, true, .mv (.c (.bl false))⟩])
  (.seq (.region [⟨(some 5), none, true, .load true 148 (.t 2)⟩,
      ⟨(some 6), none, true, .fieldA 7 74 (.t 3)⟩,
      ⟨(some 7), none, true, .load false 1 (.t 6)⟩,
      ⟨(some 8), none, false, .call (.c (.fn (.func I.burrowref24_past) [] [])) [(.t 5), (.t 7)]⟩,
      ⟨(some 9), none, true, .mv (.t 8)⟩,
      ⟨(some 10), (some (9, true)), true, .fieldA 5 67 (.t 3)⟩,
      ⟨(some 11), (some (9, true)), true, .load false 1 (.t 10)⟩,
      ⟨(some 12), (some (9, true)), true, .fieldA 0 0 (.t 2)⟩,
      ⟨(some 13), (some (9, true)), true, .fieldA 1 1 (.t 12)⟩,
      ⟨(some 14), (some (9, true)), true, .load false 1 (.t 13)⟩,
      ⟨(some 15), (some (9, true)), true, .bin .eql .no (.t 11) (.t 14)⟩,
      ⟨(some 16), none, true, .pick (.t 9) (.t 15) (.c (.bl false))⟩,
      ⟨(some 17), none, true, .mv (.t 16)⟩,
      ⟨(some 18), (some (17, true)), true, .fieldA 4 66 (.t 3)⟩,
      ⟨(some 19), (some (17, true)), true, .load false 1 (.t 18)⟩,
      ⟨(some 20), (some (17, true)), true, .bin .leq .no (.t 19) (.c (.int .u64 18446744073709543423))⟩,
      ⟨(some 21), none, true, .pick (.t 17) (.t 20) (.c (.bl false))⟩,
      ⟨(some 22), none, true, .mv (.t 21)⟩,
      ⟨(some 23), (some (22, true)), true, .fieldA 6 68 (.t 3)⟩,
      ⟨(some 24), (some (22, true)), true, .fieldA 0 0 (.t 23)⟩,
      ⟨(some 25), (some (22, true)), true, .load false 1 (.t 24)⟩,
      ⟨(some 26), (some (22, true)), true, .mv (.t 25)⟩,
      ⟨(some 27), (some (26, false)), true, .fieldA 6 68 (.t 3)⟩,
      ⟨(some 28), (some (26, false)), true, .load true 6 (.t 27)⟩,
      ⟨(some 29), (some (26, false)), false, .build (.st 6 [(.bl false), (.int .u64 0), (.ar 1 4 (zr 4 (.int .u64 0)))]) []⟩,
      ⟨(some 30), (some (26, false)), false, .bin .eql (.sh (.st [.b, (.i .u64), (.ar 4 (.i .u64))])) (.t 28) (.t 29)⟩,
      ⟨(some 31), (some (22, true)), true, .pick (.t 26) (.c (.bl true)) (.t 30)⟩,
      ⟨(some 32), none, true, .pick (.t 22) (.t 31) (.c (.bl false))⟩,
      ⟨(some 4), none, true, .mv (.t 32)⟩])
  (.ret))⟩
/- burrow/burrowref24.Copy -/
def burrowref24_Copyl0 : ACode :=
  .seq (.region [⟨(some 25), none, true, .bin .lss .no (.t 24) (.t 23)⟩])
  (.seq (.cond (.t 25)
      (.skip)
      (.exit 2))
  (.seq (.block 3 (.seq (.region [⟨(some 26), none, false, .indexA (.sl 1) (.t 22) (.t 24)⟩,
        ⟨(some 27), none, true, .load false 1 (.t 26)⟩,
        ⟨(some 6), none, true, .mv (.t 27)⟩])
    (.region [⟨(some 28), none, true, .mv (.t 4)⟩,
      ⟨(some 29), none, false, .buildSlice false 1 (.int .u8 0) 0 []⟩,
      ⟨(some 30), none, true, .mv (.t 6)⟩,
      ⟨(some 31), none, false, .append 1 1 false (.t 29) (.t 30)⟩,
      ⟨(some 32), none, false, .buildSlice false 1 (.sl 1 [] true) 1 [(0, (.t 31))]⟩,
      ⟨(some 33), none, false, .append 1 24 false (.t 28) (.t 32)⟩,
      ⟨(some 4), none, true, .mv (.t 33)⟩])))
  (.region [⟨(some 34), none, true, .bin .add .no (.t 24) (.c (.int .i64 1))⟩,
    ⟨(some 24), none, true, .mv (.t 34)⟩])))
def burrowref24_Copyc1 : ACode :=
  .region [⟨(some 35), none, true, .fieldA 6 108 (.t 1)⟩,
    ⟨(some 36), none, true, .load false 1 (.t 35)⟩,
    ⟨(some 37), none, true, .mv (.t 3)⟩,
    ⟨(some 38), none, true, .mv (.t 4)⟩,
    ⟨(some 39), none, false, .indexA (.sl 464) (.t 36) (.t 37)⟩,
    ⟨(some 40), none, true, .fieldA 14 463 (.t 39)⟩,
    ⟨none, none, false, .store 1 (.t 40) (.t 38)⟩]
def burrowref24_Copyc2 : ACode :=
  .region [⟨(some 41), none, true, .bin .add .no (.t 14) (.c (.int .i64 1))⟩,
    ⟨(some 14), none, true, .mv (.t 41)⟩]
def burrowref24_Copyl3 : ACode :=
  .seq (.region [⟨(some 15), none, true, .bin .lss .no (.t 14) (.t 13)⟩])
  (.seq (.cond (.t 15)
      (.skip)
      (.exit 0))
  (.seq (.block 1 (.seq (.region [⟨(some 16), none, true, .mv (.t 14)⟩,
        ⟨(some 3), none, true, .mv (.t 16)⟩])
    (.seq (.region [⟨(some 4), none, true, .mv (.c (.sl 1 [] true))⟩])
    (.seq (.seq (.region [⟨(some 17), none, true, .fieldA 6 108 (.t 1)⟩,
          ⟨(some 18), none, true, .load false 1 (.t 17)⟩,
          ⟨(some 19), none, true, .mv (.t 3)⟩,
          ⟨(some 20), none, false, .indexA (.sl 464) (.t 18) (.t 19)⟩,
          ⟨(some 21), none, true, .fieldA 14 463 (.t 20)⟩,
          ⟨(some 22), none, true, .load false 1 (.t 21)⟩,
          ⟨(some 23), none, true, .len (.t 22)⟩,
          ⟨(some 24), none, true, .mv (.c (.int .i64 0))⟩])
      (.block 2 (.loop burrowref24_Copyl0)))
    burrowref24_Copyc1))))
  burrowref24_Copyc2))
def burrowref24_Copyc4 : ACode :=
  .seq (.regionD [⟨(some 42), none, true, .fieldA 7 109 (.t 1)⟩,
      ⟨(some 43), none, true, .load false 1 (.t 42)⟩,
      ⟨(some 44), none, false, .append 50 64 false (.c (.sl 0 [] true)) (.t 43)⟩,
      ⟨(some 45), none, true, .fieldA 8 110 (.t 1)⟩,
      ⟨(some 46), none, true, .load false 1 (.t 45)⟩,
      ⟨(some 47), none, false, .append 34 40 false (.c (.sl 0 [] true)) (.t 46)⟩,
      ⟨(some 48), none, true, .fieldA 7 109 (.t 1)⟩,
      ⟨none, none, false, .store 1 (.t 48) (.t 44)⟩,
      ⟨(some 49), none, true, .fieldA 8 110 (.t 1)⟩,
      ⟨none, none, false, .store 1 (.t 49) (.t 47)⟩] [0, 1, 3, 4, 2, 6, 5, 7, 8, 9] [3, 4, 6, 2, 5])
  (.seq (.regionD [⟨(some 50), none, true, .fieldA 9 111 (.t 1)⟩,
      ⟨(some 51), none, true, .load false 1 (.t 50)⟩,
      ⟨(some 52), none, false, .append 34 48 false (.c (.sl 0 [] true)) (.t 51)⟩,
      ⟨(some 53), none, true, .fieldA 12 145 (.t 1)⟩,
      ⟨(some 54), none, true, .load false 1 (.t 53)⟩,
      ⟨(some 55), none, false, .append 1 8 false (.c (.sl 0 [] true)) (.t 54)⟩,
      ⟨(some 56), none, true, .fieldA 9 111 (.t 1)⟩,
      ⟨none, none, false, .store 1 (.t 56) (.t 52)⟩,
      ⟨(some 57), none, true, .fieldA 12 145 (.t 1)⟩,
      ⟨none, none, false, .store 1 (.t 57) (.t 55)⟩] [0, 1, 3, 4, 2, 6, 5, 7, 8, 9] [3, 4, 6, 2, 5])
  (.seq (.region [⟨(some 58), none, true, .fieldA 13 146 (.t 1)⟩,
      ⟨(some 59), none, true, .load false 1 (.t 58)⟩,
      ⟨(some 60), none, false, .append 19 40 false (.c (.sl 0 [] true)) (.t 59)⟩,
      ⟨(some 61), none, true, .fieldA 13 146 (.t 1)⟩,
      ⟨none, none, false, .store 1 (.t 61) (.t 60)⟩])
  (.seq (.region [⟨(some 62), none, true, .load true 148 (.t 1)⟩,
      ⟨none, none, false, .store 148 (.t 2) (.t 62)⟩])
  (.ret))))
def burrowref24_Copy : AFun := ⟨63, [.load true 148 (.t 2)],
  .seq (.region [⟨(some 1), none, false, .box (.t 0)⟩,
      ⟨(some 2), none, false, .alloc (.st 148 [(.st 10 [(.int .u64 0), (.int .u64 0), (.int .i64 0), (.int .i64 0), (.int .i64 0), (.int .i64 0), (.int .i64 0), (.int .i64 0), (.int .i64 0), (.int .i64 0)]), (.ar 1 32 (zr 32 (.int .u8 0))), (.ar 1 32 (zr 32 (.int .u8 0))), (.int .i64 0), (.ar 1 32 (zr 32 (.int .u8 0))), (.int .i64 0), (.sl 464 [] true), (.sl 50 [] true), (.sl 34 [] true), (.sl 34 [] true), (.ar 1 32 (zr 32 (.int .u8 0))), (.int .i64 0), (.sl 1 [] true), (.sl 19 [] true), (.int .i64 0)])⟩])
  (.seq (.region [⟨(some 7), none, true, .fieldA 6 108 (.t 1)⟩,
      ⟨(some 8), none, true, .load false 1 (.t 7)⟩,
      ⟨(some 9), none, false, .append 464 808 false (.c (.sl 0 [] true)) (.t 8)⟩,
      ⟨(some 10), none, true, .fieldA 6 108 (.t 1)⟩,
      ⟨none, none, false, .store 1 (.t 10) (.t 9)⟩])
  (.seq (.seq (.region [⟨(some 11), none, true, .fieldA 6 108 (.t 1)⟩,
        ⟨(some 12), none, true, .load false 1 (.t 11)⟩,
        ⟨(some 13), none, true, .len (.t 12)⟩,
        ⟨(some 14), none, true, .mv (.c (.int .i64 0))⟩])
    (.block 0 (.loop burrowref24_Copyl3)))
  burrowref24_Copyc4))⟩
/- burrow/burrowref22.Begin -/

def burrowref22_Begin : AFun := ⟨31, [.load true 231 (.t 4), .mv (.t 5)],
  .seq (.region [⟨(some 2), none, false, .box (.t 0)⟩,
      ⟨(some 3), none, false, .box (.t 1)⟩,
      ⟨(some 4), none, false, .alloc (.st 231 [(.st 77 [(.bl false), (.st 76 [(.int .u32 0), (.int .u32 0), (.ar 1 32 (zr 32 (.int .u8 0))), (.ar 1 32 (zr 32 (.int .u8 0))), (.int .u64 0), (.int .u64 0), (.st 6 [(.bl false), (.int .u64 0), (.ar 1 4 (zr 4 (.int .u64 0)))]), (.int .i64 0), (.bl false)])]), (.st 77 [(.bl false), (.st 76 [(.int .u32 0), (.int .u32 0), (.ar 1 32 (zr 32 (.int .u8 0))), (.ar 1 32 (zr 32 (.int .u8 0))), (.int .u64 0), (.int .u64 0), (.st 6 [(.bl false), (.int .u64 0), (.ar 1 4 (zr 4 (.int .u64 0)))]), (.int .i64 0), (.bl false)])]), (.st 77 [(.bl false), (.st 76 [(.int .u32 0), (.int .u32 0), (.ar 1 32 (zr 32 (.int .u8 0))), (.ar 1 32 (zr 32 (.int .u8 0))), (.int .u64 0), (.int .u64 0), (.st 6 [(.bl false), (.int .u64 0), (.ar 1 4 (zr 4 (.int .u64 0)))]), (.int .i64 0), (.bl false)])])])⟩,
      ⟨(some 5), none, true, .mv (.c (.sl 1 [] true))⟩])
  (.seq (.region [⟨(some 7), none, true, .load true 76 (.t 3)⟩,
      ⟨(some 8), none, false, .build (.st 77 [(.bl false), (.st 76 [(.int .u32 0), (.int .u32 0), (.ar 1 32 (zr 32 (.int .u8 0))), (.ar 1 32 (zr 32 (.int .u8 0))), (.int .u64 0), (.int .u64 0), (.st 6 [(.bl false), (.int .u64 0), (.ar 1 4 (zr 4 (.int .u64 0)))]), (.int .i64 0), (.bl false)])]) [(0, (.c (.bl true))), (1, (.t 7))]⟩,
      ⟨(some 6), none, false, .alloc (.st 77 [(.bl false), (.st 76 [(.int .u32 0), (.int .u32 0), (.ar 1 32 (zr 32 (.int .u8 0))), (.ar 1 32 (zr 32 (.int .u8 0))), (.int .u64 0), (.int .u64 0), (.st 6 [(.bl false), (.int .u64 0), (.ar 1 4 (zr 4 (.int .u64 0)))]), (.int .i64 0), (.bl false)])])⟩,
      ⟨none, none, false, .store 77 (.t 6) (.t 8)⟩])
  (.seq (.seq (.region [⟨(some 9), none, true, .fieldA 2 154 (.t 2)⟩,
        ⟨(some 10), none, true, .fieldA 0 0 (.t 9)⟩,
        ⟨(some 11), none, true, .load false 1 (.t 10)⟩])
    (.cond (.t 11)
      (.seq (.region [⟨(some 12), none, true, .fieldA 2 154 (.t 2)⟩,
          ⟨(some 13), none, true, .load true 77 (.t 12)⟩,
          ⟨(some 14), none, true, .load true 77 (.t 6)⟩,
          ⟨(some 15), none, false, .build (.st 231 [(.st 77 [(.bl false), (.st 76 [(.int .u32 0), (.int .u32 0), (.ar 1 32 (zr 32 (.int .u8 0))), (.ar 1 32 (zr 32 (.int .u8 0))), (.int .u64 0), (.int .u64 0), (.st 6 [(.bl false), (.int .u64 0), (.ar 1 4 (zr 4 (.int .u64 0)))]), (.int .i64 0), (.bl false)])]), (.st 77 [(.bl false), (.st 76 [(.int .u32 0), (.int .u32 0), (.ar 1 32 (zr 32 (.int .u8 0))), (.ar 1 32 (zr 32 (.int .u8 0))), (.int .u64 0), (.int .u64 0), (.st 6 [(.bl false), (.int .u64 0), (.ar 1 4 (zr 4 (.int .u64 0)))]), (.int .i64 0), (.bl false)])]), (.st 77 [(.bl false), (.st 76 [(.int .u32 0), (.int .u32 0), (.ar 1 32 (zr 32 (.int .u8 0))), (.ar 1 32 (zr 32 (.int .u8 0))), (.int .u64 0), (.int .u64 0), (.st 6 [(.bl false), (.int .u64 0), (.ar 1 4 (zr 4 (.int .u64 0)))]), (.int .i64 0), (.bl false)])])]) [(0, (.t 13)), (1, (.t 14))]⟩,
          ⟨(some 16), none, true, .fieldA 0 0 (.t 2)⟩,
          ⟨(some 17), none, true, .load true 77 (.t 16)⟩,
          ⟨(some 18), none, true, .fieldA 1 77 (.t 2)⟩,
          ⟨(some 19), none, true, .load true 77 (.t 18)⟩,
          ⟨(some 20), none, false, .buildSlice false 77 (.st 77 [(.bl false), (.st 76 [(.int .u32 0), (.int .u32 0), (.ar 1 32 (zr 32 (.int .u8 0))), (.ar 1 32 (zr 32 (.int .u8 0))), (.int .u64 0), (.int .u64 0), (.st 6 [(.bl false), (.int .u64 0), (.ar 1 4 (zr 4 (.int .u64 0)))]), (.int .i64 0), (.bl false)])]) 2 [(0, (.t 17)), (1, (.t 19))]⟩,
          ⟨(some 21), none, false, .callq (.c (.fn (.func I.burrowref22_locals) [] [])) [(.t 20)]⟩,
          ⟨none, none, false, .store 231 (.t 4) (.t 15)⟩,
          ⟨(some 5), none, true, .mv (.t 21)⟩])
      (.ret))
      (.skip)))
  (.seq (.region [⟨(some 22), none, true, .fieldA 1 77 (.t 2)⟩,
      ⟨(some 23), none, true, .load true 77 (.t 22)⟩,
      ⟨(some 24), none, false, .callq (.c (.fn (.func I.burrowref22_clean) [] [])) [(.t 23)]⟩,
      ⟨(some 25), none, true, .load true 77 (.t 6)⟩,
      ⟨(some 26), none, false, .build (.st 231 [(.st 77 [(.bl false), (.st 76 [(.int .u32 0), (.int .u32 0), (.ar 1 32 (zr 32 (.int .u8 0))), (.ar 1 32 (zr 32 (.int .u8 0))), (.int .u64 0), (.int .u64 0), (.st 6 [(.bl false), (.int .u64 0), (.ar 1 4 (zr 4 (.int .u64 0)))]), (.int .i64 0), (.bl false)])]), (.st 77 [(.bl false), (.st 76 [(.int .u32 0), (.int .u32 0), (.ar 1 32 (zr 32 (.int .u8 0))), (.ar 1 32 (zr 32 (.int .u8 0))), (.int .u64 0), (.int .u64 0), (.st 6 [(.bl false), (.int .u64 0), (.ar 1 4 (zr 4 (.int .u64 0)))]), (.int .i64 0), (.bl false)])]), (.st 77 [(.bl false), (.st 76 [(.int .u32 0), (.int .u32 0), (.ar 1 32 (zr 32 (.int .u8 0))), (.ar 1 32 (zr 32 (.int .u8 0))), (.int .u64 0), (.int .u64 0), (.st 6 [(.bl false), (.int .u64 0), (.ar 1 4 (zr 4 (.int .u64 0)))]), (.int .i64 0), (.bl false)])])]) [(0, (.t 24)), (1, (.t 25))]⟩,
      ⟨(some 27), none, true, .fieldA 0 0 (.t 2)⟩,
      ⟨(some 28), none, true, .load true 77 (.t 27)⟩,
      ⟨(some 29), none, false, .buildSlice false 77 (.st 77 [(.bl false), (.st 76 [(.int .u32 0), (.int .u32 0), (.ar 1 32 (zr 32 (.int .u8 0))), (.ar 1 32 (zr 32 (.int .u8 0))), (.int .u64 0), (.int .u64 0), (.st 6 [(.bl false), (.int .u64 0), (.ar 1 4 (zr 4 (.int .u64 0)))]), (.int .i64 0), (.bl false)])]) 1 [(0, (.t 28))]⟩,
      ⟨(some 30), none, false, .callq (.c (.fn (.func I.burrowref22_locals) [] [])) [(.t 29)]⟩,
      ⟨none, none, false, .store 231 (.t 4) (.t 26)⟩,
      ⟨(some 5), none, true, .mv (.t 30)⟩])
  (.ret))))⟩
/- burrow/burrowref22.Answer -/

def burrowref22_Answer : AFun := ⟨17, [.load true 231 (.t 4), .mv (.t 5)],
  .seq (.region [⟨(some 2), none, false, .box (.t 0)⟩,
      ⟨(some 3), none, false, .box (.t 1)⟩,
      ⟨(some 4), none, false, .alloc (.st 231 [(.st 77 [(.bl false), (.st 76 [(.int .u32 0), (.int .u32 0), (.ar 1 32 (zr 32 (.int .u8 0))), (.ar 1 32 (zr 32 (.int .u8 0))), (.int .u64 0), (.int .u64 0), (.st 6 [(.bl false), (.int .u64 0), (.ar 1 4 (zr 4 (.int .u64 0)))]), (.int .i64 0), (.bl false)])]), (.st 77 [(.bl false), (.st 76 [(.int .u32 0), (.int .u32 0), (.ar 1 32 (zr 32 (.int .u8 0))), (.ar 1 32 (zr 32 (.int .u8 0))), (.int .u64 0), (.int .u64 0), (.st 6 [(.bl false), (.int .u64 0), (.ar 1 4 (zr 4 (.int .u64 0)))]), (.int .i64 0), (.bl false)])]), (.st 77 [(.bl false), (.st 76 [(.int .u32 0), (.int .u32 0), (.ar 1 32 (zr 32 (.int .u8 0))), (.ar 1 32 (zr 32 (.int .u8 0))), (.int .u64 0), (.int .u64 0), (.st 6 [(.bl false), (.int .u64 0), (.ar 1 4 (zr 4 (.int .u64 0)))]), (.int .i64 0), (.bl false)])])])⟩,
      ⟨(some 5), none, true, .mv (.c (.sl 1 [] true))⟩])
  (.seq (.region [⟨(some 6), none, true, .fieldA 1 77 (.t 2)⟩,
      ⟨(some 7), none, true, .load true 77 (.t 6)⟩,
      ⟨(some 8), none, true, .load true 76 (.t 3)⟩,
      ⟨(some 9), none, false, .build (.st 77 [(.bl false), (.st 76 [(.int .u32 0), (.int .u32 0), (.ar 1 32 (zr 32 (.int .u8 0))), (.ar 1 32 (zr 32 (.int .u8 0))), (.int .u64 0), (.int .u64 0), (.st 6 [(.bl false), (.int .u64 0), (.ar 1 4 (zr 4 (.int .u64 0)))]), (.int .i64 0), (.bl false)])]) [(0, (.c (.bl true))), (1, (.t 8))]⟩,
      ⟨(some 10), none, false, .build (.st 231 [(.st 77 [(.bl false), (.st 76 [(.int .u32 0), (.int .u32 0), (.ar 1 32 (zr 32 (.int .u8 0))), (.ar 1 32 (zr 32 (.int .u8 0))), (.int .u64 0), (.int .u64 0), (.st 6 [(.bl false), (.int .u64 0), (.ar 1 4 (zr 4 (.int .u64 0)))]), (.int .i64 0), (.bl false)])]), (.st 77 [(.bl false), (.st 76 [(.int .u32 0), (.int .u32 0), (.ar 1 32 (zr 32 (.int .u8 0))), (.ar 1 32 (zr 32 (.int .u8 0))), (.int .u64 0), (.int .u64 0), (.st 6 [(.bl false), (.int .u64 0), (.ar 1 4 (zr 4 (.int .u64 0)))]), (.int .i64 0), (.bl false)])]), (.st 77 [(.bl false), (.st 76 [(.int .u32 0), (.int .u32 0), (.ar 1 32 (zr 32 (.int .u8 0))), (.ar 1 32 (zr 32 (.int .u8 0))), (.int .u64 0), (.int .u64 0), (.st 6 [(.bl false), (.int .u64 0), (.ar 1 4 (zr 4 (.int .u64 0)))]), (.int .i64 0), (.bl false)])])]) [(1, (.t 7)), (2, (.t 9))]⟩,
      ⟨(some 11), none, true, .fieldA 0 0 (.t 2)⟩,
      ⟨(some 12), none, true, .load true 77 (.t 11)⟩,
      ⟨(some 13), none, true, .fieldA 2 154 (.t 2)⟩,
      ⟨(some 14), none, true, .load true 77 (.t 13)⟩,
      ⟨(some 15), none, false, .buildSlice false 77 (.st 77 [(.bl false), (.st 76 [(.int .u32 0), (.int .u32 0), (.ar 1 32 (zr 32 (.int .u8 0))), (.ar 1 32 (zr 32 (.int .u8 0))), (.int .u64 0), (.int .u64 0), (.st 6 [(.bl false), (.int .u64 0), (.ar 1 4 (zr 4 (.int .u64 0)))]), (.int .i64 0), (.bl false)])]) 2 [(0, (.t 12)), (1, (.t 14))]⟩,
      ⟨(some 16), none, false, .callq (.c (.fn (.func I.burrowref22_locals) [] [])) [(.t 15)]⟩,
      ⟨none, none, false, .store 231 (.t 4) (.t 10)⟩,
      ⟨(some 5), none, true, .mv (.t 16)⟩])
  (.ret))⟩
/- (*burrow/burrowref24.machine).drop -/
def burrowref24_machine_dropl0 : ACode :=
  .seq (.region [⟨(some 9), none, true, .bin .lss .no (.t 8) (.t 7)⟩])
  (.seq (.cond (.t 9)
      (.skip)
      (.exit 0))
  (.seq (.block 1 (.seq (.region [⟨(some 10), none, false, .indexA (.sl 1) (.t 6) (.t 8)⟩,
        ⟨(some 11), none, true, .load false 1 (.t 10)⟩,
        ⟨(some 5), none, true, .mv (.t 11)⟩])
    (.region [⟨(some 12), none, true, .mv (.t 0)⟩,
      ⟨(some 13), none, true, .mv (.t 0)⟩,
      ⟨(some 14), none, true, .nilCheck (.t 13)⟩,
      ⟨(some 15), none, true, .fieldA 0 0 (.t 14)⟩,
      ⟨(some 16), none, true, .fieldA 8 110 (.t 15)⟩,
      ⟨(some 17), none, true, .load false 1 (.t 16)⟩,
      ⟨(some 18), none, true, .mv (.t 5)⟩,
      ⟨(some 19), none, false, .call (.c (.fn (.func I.burrowref14_DropSlot) [] [])) [(.t 17), (.t 18)]⟩,
      ⟨(some 20), none, true, .nilCheck (.t 12)⟩,
      ⟨(some 21), none, true, .fieldA 0 0 (.t 20)⟩,
      ⟨(some 22), none, true, .fieldA 8 110 (.t 21)⟩,
      ⟨none, none, false, .store 1 (.t 22) (.t 19)⟩])))
  (.region [⟨(some 23), none, true, .bin .add .no (.t 8) (.c (.int .i64 1))⟩,
    ⟨(some 8), none, true, .mv (.t 23)⟩])))
def burrowref24_machine_drop : AFun := ⟨24, [],
  .seq (.region [⟨(some 6), none, true, .mv (.t 1)⟩,
      ⟨(some 7), none, true, .len (.t 6)⟩,
      ⟨(some 8), none, true, .mv (.c (.int .i64 0))⟩])
  (.block 0 (.loop burrowref24_machine_dropl0))⟩
/- burrow/burrowref14.Take -/
def burrowref14_Takel0 : ACode :=
  .block 1 (.seq (.seq (.region [⟨(some 22), none, true, .mv (.t 0)⟩,
        ⟨(some 23), none, true, .mv (.t 11)⟩,
        ⟨(some 24), none, false, .call (.c (.fn (.func I.burrowref14_FindSlot) [] [])) [(.t 22), (.t 23)]⟩,
        ⟨(some 21), none, true, .mv (.t 24)⟩,
        ⟨(some 25), none, true, .extract 0 (.t 21)⟩,
        ⟨(some 26), none, true, .extract 1 (.t 21)⟩,
        ⟨(some 12), none, false, .alloc (.st 34 [(.int .u32 0), (.ar 1 32 (zr 32 (.int .u8 0))), (.bl false)])⟩,
        ⟨none, none, false, .store 34 (.t 12) (.t 25)⟩,
        ⟨(some 13), none, true, .mv (.t 26)⟩])
    (.seq (.region [⟨(some 27), none, true, .mv (.t 13)⟩,
        ⟨(some 28), none, true, .un .not (.t 27)⟩])
    (.cond (.t 28)
      (.exit 0)
      (.skip))))
  (.region [⟨(some 29), none, true, .mv (.t 11)⟩,
    ⟨(some 30), none, true, .bin .add .no (.t 29) (.c (.int .u32 1))⟩,
    ⟨(some 31), none, true, .mm true [(.t 30), (.c (.int .u32 1))]⟩,
    ⟨(some 11), none, true, .mv (.t 31)⟩]))
def burrowref14_Takel1 : ACode :=
  .seq (.seq (.region [⟨(some 32), none, true, .mv (.t 14)⟩,
        ⟨(some 33), none, true, .mv (.t 0)⟩,
        ⟨(some 34), none, true, .len (.t 33)⟩,
        ⟨(some 35), none, true, .bin .lss .no (.t 32) (.t 34)⟩,
        ⟨(some 36), none, true, .mv (.t 35)⟩,
        ⟨(some 37), (some (36, true)), true, .mv (.t 0)⟩,
        ⟨(some 38), (some (36, true)), true, .mv (.t 14)⟩,
        ⟨(some 39), (some (36, true)), false, .indexA (.sl 34) (.t 37) (.t 38)⟩,
        ⟨(some 40), (some (36, true)), false, .fieldA 0 0 (.t 39)⟩,
        ⟨(some 41), (some (36, true)), false, .load false 1 (.t 40)⟩,
        ⟨(some 42), (some (36, true)), true, .mv (.t 11)⟩,
        ⟨(some 43), (some (36, true)), false, .bin .lss .no (.t 41) (.t 42)⟩,
        ⟨(some 44), none, true, .pick (.t 36) (.t 43) (.c (.bl false))⟩])
    (.cond (.t 44)
      (.skip)
      (.exit 2)))
  (.block 3 (.region [⟨(some 45), none, true, .mv (.t 14)⟩,
    ⟨(some 46), none, true, .bin .add .no (.t 45) (.c (.int .i64 1))⟩,
    ⟨(some 14), none, true, .mv (.t 46)⟩]))
def burrowref14_Takec2 : ACode :=
  .seq (.region [⟨(some 47), none, true, .mv (.t 0)⟩,
      ⟨(some 48), none, true, .mv (.t 14)⟩,
      ⟨(some 49), none, false, .slice (.sl 34) (.t 47) none (some (.t 48)) none⟩,
      ⟨(some 50), none, false, .append 34 40 false (.c (.sl 0 [] true)) (.t 49)⟩,
      ⟨(some 15), none, true, .mv (.t 50)⟩])
  (.seq (.region [⟨(some 51), none, true, .mv (.t 15)⟩,
      ⟨(some 52), none, true, .mv (.t 11)⟩,
      ⟨(some 53), none, true, .load true 32 (.t 6)⟩,
      ⟨(some 54), none, true, .mv (.t 3)⟩,
      ⟨(some 55), none, false, .build (.st 34 [(.int .u32 0), (.ar 1 32 (zr 32 (.int .u8 0))), (.bl false)]) [(0, (.t 52)), (1, (.t 53)), (2, (.t 54))]⟩,
      ⟨(some 56), none, false, .buildSlice false 34 (.st 34 [(.int .u32 0), (.ar 1 32 (zr 32 (.int .u8 0))), (.bl false)]) 1 [(0, (.t 55))]⟩,
      ⟨(some 57), none, false, .append 34 40 false (.t 51) (.t 56)⟩,
      ⟨(some 15), none, true, .mv (.t 57)⟩])
  (.seq (.region [⟨(some 58), none, true, .mv (.t 15)⟩,
      ⟨(some 59), none, true, .mv (.t 0)⟩,
      ⟨(some 60), none, true, .mv (.t 14)⟩,
      ⟨(some 61), none, false, .slice (.sl 34) (.t 59) (some (.t 60)) none none⟩,
      ⟨(some 62), none, false, .append 34 40 false (.t 58) (.t 61)⟩,
      ⟨(some 63), none, true, .mv (.t 11)⟩,
      ⟨(some 8), none, true, .mv (.t 62)⟩,
      ⟨(some 9), none, true, .mv (.t 63)⟩,
      ⟨(some 10), none, true, .mv (.c (.int .i64 0))⟩])
  (.ret)))
def burrowref14_Takec3 : ACode :=
  .seq (.region [⟨(some 14), none, true, .mv (.c (.int .i64 0))⟩])
  (.seq (.block 2 (.loop burrowref14_Takel1))
  burrowref14_Takec2)
def burrowref14_Take : AFun := ⟨64, [.mv (.t 8), .mv (.t 9), .mv (.t 10)],
  .seq (.region [⟨(some 6), none, false, .box (.t 2)⟩,
      ⟨(some 8), none, true, .mv (.c (.sl 34 [] true))⟩,
      ⟨(some 9), none, true, .mv (.c (.int .u32 0))⟩,
      ⟨(some 10), none, true, .mv (.c (.int .i64 0))⟩])
  (.seq (.seq (.region [⟨(some 16), none, true, .mv (.t 0)⟩,
        ⟨(some 17), none, true, .len (.t 16)⟩,
        ⟨(some 18), none, true, .bin .geq .no (.t 17) (.c (.int .i64 32))⟩])
    (.cond (.t 18)
      (.seq (.region [⟨(some 8), none, true, .mv (.c (.sl 34 [] true))⟩,
          ⟨(some 9), none, true, .mv (.c (.int .u32 0))⟩,
          ⟨(some 10), none, true, .mv (.c (.int .i64 12))⟩])
      (.ret))
      (.skip)))
  (.seq (.region [⟨(some 19), none, true, .mv (.t 1)⟩,
      ⟨(some 20), none, true, .mm true [(.t 19), (.c (.int .u32 1))]⟩,
      ⟨(some 11), none, true, .mv (.t 20)⟩])
  (.seq (.block 0 (.loop burrowref14_Takel0))
  burrowref14_Takec3)))⟩
/- (*burrow/burrowref24.machine).set -/

def burrowref24_machine_set : AFun := ⟨36, [],
  .region [⟨(some 8), none, true, .mv (.t 0)⟩,
    ⟨(some 9), none, true, .mv (.t 0)⟩,
    ⟨(some 10), none, true, .nilCheck (.t 9)⟩,
    ⟨(some 11), none, true, .fieldA 0 0 (.t 10)⟩,
    ⟨(some 12), none, true, .fieldA 9 111 (.t 11)⟩,
    ⟨(some 13), none, true, .load false 1 (.t 12)⟩,
    ⟨(some 14), none, true, .mv (.t 0)⟩,
    ⟨(some 15), none, true, .nilCheck (.t 14)⟩,
    ⟨(some 16), none, true, .fieldA 0 0 (.t 15)⟩,
    ⟨(some 17), none, true, .fieldA 5 107 (.t 16)⟩,
    ⟨(some 18), none, true, .load false 1 (.t 17)⟩,
    ⟨(some 19), none, true, .mv (.t 3)⟩,
    ⟨(some 20), none, true, .bin .add .no (.t 18) (.t 19)⟩,
    ⟨(some 21), none, true, .mv (.t 0)⟩,
    ⟨(some 22), none, true, .nilCheck (.t 21)⟩,
    ⟨(some 23), none, true, .fieldA 0 0 (.t 22)⟩,
    ⟨(some 24), none, true, .fieldA 6 108 (.t 23)⟩,
    ⟨(some 25), none, true, .load false 1 (.t 24)⟩,
    ⟨(some 26), none, true, .mv (.t 1)⟩,
    ⟨(some 27), none, false, .indexA (.sl 464) (.t 25) (.t 26)⟩,
    ⟨(some 28), none, true, .fieldA 0 0 (.t 27)⟩,
    ⟨(some 29), none, true, .load true 32 (.t 28)⟩,
    ⟨(some 30), none, true, .mv (.t 2)⟩,
    ⟨(some 31), none, false, .build (.st 34 [(.int .i64 0), (.ar 1 32 (zr 32 (.int .u8 0))), (.int .i64 0)]) [(0, (.t 20)), (1, (.t 29)), (2, (.t 30))]⟩,
    ⟨(some 32), none, false, .callq (.c (.fn (.func I.burrowref14_Set) [] [])) [(.t 13), (.t 31)]⟩,
    ⟨(some 33), none, true, .nilCheck (.t 8)⟩,
    ⟨(some 34), none, true, .fieldA 0 0 (.t 33)⟩,
    ⟨(some 35), none, true, .fieldA 9 111 (.t 34)⟩,
    ⟨none, none, false, .store 1 (.t 35) (.t 32)⟩]⟩
/- burrow/burrowref22.New -/

def burrowref22_New : AFun := ⟨23, [.load true 76 (.t 14)],
  .seq (.region [⟨(some 9), none, false, .box (.t 2)⟩,
      ⟨(some 10), none, false, .box (.t 3)⟩,
      ⟨(some 14), none, false, .alloc (.st 76 [(.int .u32 0), (.int .u32 0), (.ar 1 32 (zr 32 (.int .u8 0))), (.ar 1 32 (zr 32 (.int .u8 0))), (.int .u64 0), (.int .u64 0), (.st 6 [(.bl false), (.int .u64 0), (.ar 1 4 (zr 4 (.int .u64 0)))]), (.int .i64 0), (.bl false)])⟩])
  (.seq (.region [⟨(some 15), none, true, .mv (.t 0)⟩,
      ⟨(some 16), none, true, .mv (.t 1)⟩,
      ⟨(some 17), none, true, .load true 32 (.t 9)⟩,
      ⟨(some 18), none, true, .load true 32 (.t 10)⟩,
      ⟨(some 19), none, true, .mv (.t 6)⟩,
      ⟨(some 20), none, true, .mv (.t 4)⟩,
      ⟨(some 21), none, true, .mv (.t 5)⟩,
      ⟨(some 22), none, false, .build (.st 76 [(.int .u32 0), (.int .u32 0), (.ar 1 32 (zr 32 (.int .u8 0))), (.ar 1 32 (zr 32 (.int .u8 0))), (.int .u64 0), (.int .u64 0), (.st 6 [(.bl false), (.int .u64 0), (.ar 1 4 (zr 4 (.int .u64 0)))]), (.int .i64 0), (.bl false)]) [(0, (.t 15)), (1, (.t 16)), (2, (.t 17)), (3, (.t 18)), (5, (.t 19)), (7, (.t 20)), (8, (.t 21))]⟩,
      ⟨none, none, false, .store 76 (.t 14) (.t 22)⟩])
  (.ret))⟩
/- burrow/burrowref14.AcceptWindow -/
def burrowref14_AcceptWindowl0 : ACode :=
  .seq (.seq (.region [⟨(some 21), none, true, .mv (.t 6)⟩,
        ⟨(some 22), none, true, .mv (.t 1)⟩,
        ⟨(some 23), none, false, .bin .quo .no (.t 22) (.c (.int .u64 64))⟩,
        ⟨(some 24), none, true, .fieldA 1 1 (.t 2)⟩,
        ⟨(some 25), none, true, .load false 1 (.t 24)⟩,
        ⟨(some 26), none, false, .bin .quo .no (.t 25) (.c (.int .u64 64))⟩,
        ⟨(some 27), none, true, .bin .sub .no (.t 23) (.t 26)⟩,
        ⟨(some 28), none, true, .mm false [(.t 27), (.c (.int .u64 4))]⟩,
        ⟨(some 29), none, true, .bin .leq .no (.t 21) (.t 28)⟩])
    (.cond (.t 29)
      (.skip)
      (.exit 0)))
  (.seq (.block 1 (.region [⟨(some 32), none, true, .fieldA 1 1 (.t 2)⟩,
      ⟨(some 33), none, true, .load false 1 (.t 32)⟩,
      ⟨(some 34), none, false, .bin .quo .no (.t 33) (.c (.int .u64 64))⟩,
      ⟨(some 35), none, true, .mv (.t 6)⟩,
      ⟨(some 36), none, true, .bin .add .no (.t 34) (.t 35)⟩,
      ⟨(some 37), none, false, .bin .rem .no (.t 36) (.c (.int .u64 4))⟩,
      ⟨(some 38), none, true, .fieldA 2 2 (.t 2)⟩,
      ⟨(some 39), none, false, .indexA (.ar 4 1) (.t 38) (.t 37)⟩,
      ⟨none, none, false, .store 1 (.t 39) (.c (.int .u64 0))⟩]))
  (.region [⟨(some 30), none, true, .mv (.t 6)⟩,
    ⟨(some 31), none, true, .bin .add .no (.t 30) (.c (.int .u64 1))⟩,
    ⟨(some 6), none, true, .mv (.t 31)⟩]))
def burrowref14_AcceptWindowc1 : ACode :=
  .region [⟨(some 40), none, true, .mv (.t 1)⟩,
    ⟨(some 41), none, true, .fieldA 1 1 (.t 2)⟩,
    ⟨none, none, false, .store 1 (.t 41) (.t 40)⟩]
def burrowref14_AcceptWindowc2 : ACode :=
  .seq (.region [⟨(some 42), none, true, .mv (.t 1)⟩,
      ⟨(some 43), none, false, .bin .quo .no (.t 42) (.c (.int .u64 64))⟩,
      ⟨(some 44), none, false, .bin .rem .no (.t 43) (.c (.int .u64 4))⟩,
      ⟨(some 45), none, true, .fieldA 2 2 (.t 2)⟩,
      ⟨(some 46), none, false, .indexA (.ar 4 1) (.t 45) (.t 44)⟩,
      ⟨(some 47), none, true, .load false 1 (.t 46)⟩,
      ⟨(some 48), none, true, .mv (.t 1)⟩,
      ⟨(some 49), none, false, .bin .rem .no (.t 48) (.c (.int .u64 64))⟩,
      ⟨(some 50), none, false, .bin .shl .no (.c (.int .u64 1)) (.t 49)⟩,
      ⟨(some 51), none, true, .bin .or .no (.t 47) (.t 50)⟩,
      ⟨(some 52), none, true, .fieldA 2 2 (.t 2)⟩,
      ⟨(some 53), none, false, .indexA (.ar 4 1) (.t 52) (.t 44)⟩,
      ⟨none, none, false, .store 1 (.t 53) (.t 51)⟩])
  (.seq (.region [⟨(some 54), none, true, .load true 6 (.t 2)⟩,
      ⟨none, none, false, .store 6 (.t 4) (.t 54)⟩,
      ⟨(some 5), none, true, .mv (.c (.bl true))⟩])
  (.ret))
def burrowref14_AcceptWindow : AFun := ⟨55, [.load true 6 (.t 4), .mv (.t 5)],
  .seq (.region [⟨(some 2), none, false, .box (.t 0)⟩,
      ⟨(some 4), none, false, .alloc (.st 6 [(.bl false), (.int .u64 0), (.ar 1 4 (zr 4 (.int .u64 0)))])⟩,
      ⟨(some 5), none, true, .mv (.c (.bl false))⟩])
  (.seq (.seq (.region [⟨(some 7), none, true, .load true 6 (.t 2)⟩,
        ⟨(some 8), none, true, .mv (.t 1)⟩,
        ⟨(some 9), none, false, .call (.c (.fn (.func I.burrowref14_CheckWindow) [] [])) [(.t 7), (.t 8)]⟩,
        ⟨(some 10), none, true, .un .not (.t 9)⟩])
    (.cond (.t 10)
      (.seq (.region [⟨(some 11), none, true, .load true 6 (.t 2)⟩,
          ⟨none, none, false, .store 6 (.t 4) (.t 11)⟩,
          ⟨(some 5), none, true, .mv (.c (.bl false))⟩])
      (.ret))
      (.skip)))
  (.seq (.seq (.region [⟨(some 12), none, true, .fieldA 0 0 (.t 2)⟩,
        ⟨(some 13), none, true, .load false 1 (.t 12)⟩,
        ⟨(some 14), none, true, .un .not (.t 13)⟩])
    (.cond (.t 14)
      (.region [⟨(some 15), none, true, .mv (.t 1)⟩,
        ⟨(some 16), none, false, .build (.st 6 [(.bl false), (.int .u64 0), (.ar 1 4 (zr 4 (.int .u64 0)))]) [(0, (.c (.bl true))), (1, (.t 15))]⟩,
        ⟨none, none, false, .store 6 (.t 2) (.t 16)⟩])
      (.skip)))
  (.seq (.seq (.region [⟨(some 17), none, true, .mv (.t 1)⟩,
        ⟨(some 18), none, true, .fieldA 1 1 (.t 2)⟩,
        ⟨(some 19), none, true, .load false 1 (.t 18)⟩,
        ⟨(some 20), none, true, .bin .gtr .no (.t 17) (.t 19)⟩])
    (.cond (.t 20)
      (.seq (.seq (.region [⟨(some 6), none, true, .mv (.c (.int .u64 1))⟩])
        (.block 0 (.loop burrowref14_AcceptWindowl0)))
      burrowref14_AcceptWindowc1)
      (.skip)))
  burrowref14_AcceptWindowc2)))⟩
/- slices.Clone[[]burrow/api.Peer,burrow/api.Peer] -/

def slices_Clone_api_Peer_api_Peer : AFun := ⟨8, [.mv (.t 2)],
  .seq (.region [⟨(some 2), none, true, .mv (.c (.sl 464 [] true))⟩])
  (.seq (.seq (.region [⟨(some 3), none, true, .mv (.t 0)⟩,
        ⟨(some 4), none, false, .isNil false (.t 3)⟩])
    (.cond (.t 4)
      (.seq (.region [⟨(some 2), none, true, .mv (.c (.sl 464 [] true))⟩])
      (.ret))
      (.skip)))
  (.seq (.region [⟨(some 5), none, false, .buildSlice false 464 (.st 464 [(.ar 1 32 (zr 32 (.int .u8 0))), (.ar 1 32 (zr 32 (.int .u8 0))), (.bl false), (.st 18 [(.st 17 [(.bl false), (.ar 1 16 (zr 16 (.int .u8 0)))]), (.int .i64 0)]), (.int .i64 0), (.ar 1 12 (zr 12 (.int .u8 0))), (.bl false), (.int .i64 0), (.st 100 [(.bl false), (.int .u32 0), (.ar 1 32 (zr 32 (.int .u8 0))), (.st 64 [(.ar 1 32 (zr 32 (.int .u8 0))), (.ar 1 32 (zr 32 (.int .u8 0)))]), (.int .i64 0), (.int .i64 0)]), (.bl false), (.ar 1 16 (zr 16 (.int .u8 0))), (.int .i64 0), (.ar 1 16 (zr 16 (.int .u8 0))), (.st 231 [(.st 77 [(.bl false), (.st 76 [(.int .u32 0), (.int .u32 0), (.ar 1 32 (zr 32 (.int .u8 0))), (.ar 1 32 (zr 32 (.int .u8 0))), (.int .u64 0), (.int .u64 0), (.st 6 [(.bl false), (.int .u64 0), (.ar 1 4 (zr 4 (.int .u64 0)))]), (.int .i64 0), (.bl false)])]), (.st 77 [(.bl false), (.st 76 [(.int .u32 0), (.int .u32 0), (.ar 1 32 (zr 32 (.int .u8 0))), (.ar 1 32 (zr 32 (.int .u8 0))), (.int .u64 0), (.int .u64 0), (.st 6 [(.bl false), (.int .u64 0), (.ar 1 4 (zr 4 (.int .u64 0)))]), (.int .i64 0), (.bl false)])]), (.st 77 [(.bl false), (.st 76 [(.int .u32 0), (.int .u32 0), (.ar 1 32 (zr 32 (.int .u8 0))), (.ar 1 32 (zr 32 (.int .u8 0))), (.int .u64 0), (.int .u64 0), (.st 6 [(.bl false), (.int .u64 0), (.ar 1 4 (zr 4 (.int .u64 0)))]), (.int .i64 0), (.bl false)])])]), (.sl 1 [] true)]) 0 []⟩,
      ⟨(some 6), none, true, .mv (.t 0)⟩,
      ⟨(some 7), none, false, .append 464 808 false (.t 5) (.t 6)⟩,
      ⟨(some 2), none, true, .mv (.t 7)⟩])
  (.ret)))⟩
/- burrow/own.Bytes -/
def own_Bytesl0 : ACode :=
  .seq (.region [⟨(some 11), none, true, .bin .lss .no (.t 10) (.t 9)⟩])
  (.seq (.cond (.t 11)
      (.skip)
      (.exit 0))
  (.seq (.block 1 (.seq (.region [⟨(some 12), none, true, .mv (.t 10)⟩,
        ⟨(some 13), none, false, .indexA (.sl 1) (.t 8) (.t 10)⟩,
        ⟨(some 14), none, true, .load false 1 (.t 13)⟩,
        ⟨(some 4), none, true, .mv (.t 12)⟩,
        ⟨(some 5), none, true, .mv (.t 14)⟩])
    (.region [⟨(some 15), none, true, .mv (.t 3)⟩,
      ⟨(some 16), none, true, .mv (.t 4)⟩,
      ⟨(some 17), none, true, .mv (.t 5)⟩,
      ⟨(some 18), none, false, .call (.c (.fn (.func I.slices_Clone_byte_byte_71) [] [])) [(.t 17)]⟩,
      ⟨(some 19), none, false, .indexA (.sl 1) (.t 15) (.t 16)⟩,
      ⟨none, none, false, .store 1 (.t 19) (.t 18)⟩])))
  (.region [⟨(some 20), none, true, .bin .add .no (.t 10) (.c (.int .i64 1))⟩,
    ⟨(some 10), none, true, .mv (.t 20)⟩])))
def own_Bytesc1 : ACode :=
  .seq (.region [⟨(some 21), none, true, .mv (.t 3)⟩,
      ⟨(some 2), none, true, .mv (.t 21)⟩])
  (.ret)
def own_Bytes : AFun := ⟨22, [.mv (.t 2)],
  .seq (.region [⟨(some 2), none, true, .mv (.c (.sl 1 [] true))⟩])
  (.seq (.region [⟨(some 6), none, true, .mv (.t 0)⟩,
      ⟨(some 7), none, false, .call (.c (.fn (.func I.slices_Clone_byte_byte) [] [])) [(.t 6)]⟩,
      ⟨(some 3), none, true, .mv (.t 7)⟩])
  (.seq (.seq (.region [⟨(some 8), none, true, .mv (.t 3)⟩,
        ⟨(some 9), none, true, .len (.t 8)⟩,
        ⟨(some 10), none, true, .mv (.c (.int .i64 0))⟩])
    (.block 0 (.loop own_Bytesl0)))
  own_Bytesc1))⟩
/- slices.Clone[[]burrow/api.Route,burrow/api.Route] -/

def slices_Clone_api_Route_api_Route : AFun := ⟨8, [.mv (.t 2)],
  .seq (.region [⟨(some 2), none, true, .mv (.c (.sl 50 [] true))⟩])
  (.seq (.seq (.region [⟨(some 3), none, true, .mv (.t 0)⟩,
        ⟨(some 4), none, false, .isNil false (.t 3)⟩])
    (.cond (.t 4)
      (.seq (.region [⟨(some 2), none, true, .mv (.c (.sl 50 [] true))⟩])
      (.ret))
      (.skip)))
  (.seq (.region [⟨(some 5), none, false, .buildSlice false 50 (.st 50 [(.st 18 [(.st 17 [(.bl false), (.ar 1 16 (zr 16 (.int .u8 0)))]), (.int .i64 0)]), (.ar 1 32 (zr 32 (.int .u8 0)))]) 0 []⟩,
      ⟨(some 6), none, true, .mv (.t 0)⟩,
      ⟨(some 7), none, false, .append 50 64 false (.t 5) (.t 6)⟩,
      ⟨(some 2), none, true, .mv (.t 7)⟩])
  (.ret)))⟩
/- slices.Clone[[]burrow/api.Slot,burrow/api.Slot] -/

def slices_Clone_api_Slot_api_Slot : AFun := ⟨8, [.mv (.t 2)],
  .seq (.region [⟨(some 2), none, true, .mv (.c (.sl 34 [] true))⟩])
  (.seq (.seq (.region [⟨(some 3), none, true, .mv (.t 0)⟩,
        ⟨(some 4), none, false, .isNil false (.t 3)⟩])
    (.cond (.t 4)
      (.seq (.region [⟨(some 2), none, true, .mv (.c (.sl 34 [] true))⟩])
      (.ret))
      (.skip)))
  (.seq (.region [⟨(some 5), none, false, .buildSlice false 34 (.st 34 [(.int .u32 0), (.ar 1 32 (zr 32 (.int .u8 0))), (.bl false)]) 0 []⟩,
      ⟨(some 6), none, true, .mv (.t 0)⟩,
      ⟨(some 7), none, false, .append 34 40 false (.t 5) (.t 6)⟩,
      ⟨(some 2), none, true, .mv (.t 7)⟩])
  (.ret)))⟩
/- slices.Clone[[]burrow/api.Timer,burrow/api.Timer] -/

def slices_Clone_api_Timer_api_Timer : AFun := ⟨8, [.mv (.t 2)],
  .seq (.region [⟨(some 2), none, true, .mv (.c (.sl 34 [] true))⟩])
  (.seq (.seq (.region [⟨(some 3), none, true, .mv (.t 0)⟩,
        ⟨(some 4), none, false, .isNil false (.t 3)⟩])
    (.cond (.t 4)
      (.seq (.region [⟨(some 2), none, true, .mv (.c (.sl 34 [] true))⟩])
      (.ret))
      (.skip)))
  (.seq (.region [⟨(some 5), none, false, .buildSlice false 34 (.st 34 [(.int .i64 0), (.ar 1 32 (zr 32 (.int .u8 0))), (.int .i64 0)]) 0 []⟩,
      ⟨(some 6), none, true, .mv (.t 0)⟩,
      ⟨(some 7), none, false, .append 34 48 false (.t 5) (.t 6)⟩,
      ⟨(some 2), none, true, .mv (.t 7)⟩])
  (.ret)))⟩
/- slices.Clone[[]int64,int64] -/

def slices_Clone_int64_int64 : AFun := ⟨8, [.mv (.t 2)],
  .seq (.region [⟨(some 2), none, true, .mv (.c (.sl 1 [] true))⟩])
  (.seq (.seq (.region [⟨(some 3), none, true, .mv (.t 0)⟩,
        ⟨(some 4), none, false, .isNil false (.t 3)⟩])
    (.cond (.t 4)
      (.seq (.region [⟨(some 2), none, true, .mv (.c (.sl 1 [] true))⟩])
      (.ret))
      (.skip)))
  (.seq (.region [⟨(some 5), none, false, .buildSlice false 1 (.int .i64 0) 0 []⟩,
      ⟨(some 6), none, true, .mv (.t 0)⟩,
      ⟨(some 7), none, false, .append 1 8 false (.t 5) (.t 6)⟩,
      ⟨(some 2), none, true, .mv (.t 7)⟩])
  (.ret)))⟩
/- slices.Clone[[]burrow/api.Bucket,burrow/api.Bucket] -/

def slices_Clone_api_Bucket_api_Bucket : AFun := ⟨8, [.mv (.t 2)],
  .seq (.region [⟨(some 2), none, true, .mv (.c (.sl 19 [] true))⟩])
  (.seq (.seq (.region [⟨(some 3), none, true, .mv (.t 0)⟩,
        ⟨(some 4), none, false, .isNil false (.t 3)⟩])
    (.cond (.t 4)
      (.seq (.region [⟨(some 2), none, true, .mv (.c (.sl 19 [] true))⟩])
      (.ret))
      (.skip)))
  (.seq (.region [⟨(some 5), none, false, .buildSlice false 19 (.st 19 [(.st 17 [(.bl false), (.ar 1 16 (zr 16 (.int .u8 0)))]), (.int .i64 0), (.int .i64 0)]) 0 []⟩,
      ⟨(some 6), none, true, .mv (.t 0)⟩,
      ⟨(some 7), none, false, .append 19 40 false (.t 5) (.t 6)⟩,
      ⟨(some 2), none, true, .mv (.t 7)⟩])
  (.ret)))⟩
/- burrow/fence.sessions$1 -/
def fence_sessions_1l0 : ACode :=
  .seq (.region [⟨(some 34), none, true, .bin .lss .no (.t 33) (.t 32)⟩])
  (.seq (.cond (.t 34)
      (.skip)
      (.exit 2))
  (.seq (.block 3 (.seq (.region [⟨(some 35), none, false, .indexA (.sl 1) (.t 31) (.t 33)⟩,
        ⟨(some 36), none, true, .load false 1 (.t 35)⟩,
        ⟨(some 6), none, true, .mv (.t 36)⟩])
    (.seq (.region [⟨(some 37), none, true, .mv (.t 6)⟩,
        ⟨(some 38), none, true, .nilCheck (.t 37)⟩,
        ⟨(some 39), none, true, .fieldA 0 0 (.t 38)⟩,
        ⟨(some 40), none, true, .load false 1 (.t 39)⟩,
        ⟨(some 41), none, true, .mv (.t 40)⟩,
        ⟨(some 42), (some (41, true)), true, .mv (.t 0)⟩,
        ⟨(some 43), (some (41, true)), true, .mv (.t 6)⟩,
        ⟨(some 44), (some (41, true)), true, .nilCheck (.t 43)⟩,
        ⟨(some 45), (some (41, true)), true, .fieldA 1 1 (.t 44)⟩,
        ⟨(some 46), (some (41, true)), false, .call (.t 42) [(.t 45)]⟩,
        ⟨(some 47), (some (41, true)), false, .un .not (.t 46)⟩,
        ⟨(some 48), none, true, .pick (.t 41) (.t 47) (.c (.bl false))⟩])
    (.cond (.t 48)
      (.ret)
      (.skip)))))
  (.region [⟨(some 49), none, true, .bin .add .no (.t 33) (.c (.int .i64 1))⟩,
    ⟨(some 33), none, true, .mv (.t 49)⟩])))
def fence_sessions_1c1 : ACode :=
  .region [⟨(some 50), none, true, .bin .add .no (.t 12) (.c (.int .i64 1))⟩,
    ⟨(some 12), none, true, .mv (.t 50)⟩]
def fence_sessions_1l2 : ACode :=
  .seq (.region [⟨(some 13), none, true, .bin .lss .no (.t 12) (.t 11)⟩])
  (.seq (.cond (.t 13)
      (.skip)
      (.exit 0))
  (.seq (.block 1 (.seq (.region [⟨(some 14), none, true, .mv (.t 12)⟩,
        ⟨(some 3), none, true, .mv (.t 14)⟩])
    (.seq (.region [⟨(some 15), none, true, .load false 1 (.t 1)⟩,
        ⟨(some 16), none, true, .nilCheck (.t 15)⟩,
        ⟨(some 17), none, true, .fieldA 6 108 (.t 16)⟩,
        ⟨(some 18), none, true, .load false 1 (.t 17)⟩,
        ⟨(some 19), none, true, .mv (.t 3)⟩,
        ⟨(some 20), none, false, .indexA (.sl 464) (.t 18) (.t 19)⟩,
        ⟨(some 21), none, true, .fieldA 13 232 (.t 20)⟩,
        ⟨(some 4), none, true, .mv (.t 21)⟩])
    (.seq (.region [⟨(some 22), none, true, .mv (.t 4)⟩,
        ⟨(some 23), none, true, .nilCheck (.t 22)⟩,
        ⟨(some 24), none, true, .fieldA 0 0 (.t 23)⟩,
        ⟨(some 25), none, true, .mv (.t 4)⟩,
        ⟨(some 26), none, true, .nilCheck (.t 25)⟩,
        ⟨(some 27), none, true, .fieldA 1 77 (.t 26)⟩,
        ⟨(some 28), none, true, .mv (.t 4)⟩,
        ⟨(some 29), none, true, .nilCheck (.t 28)⟩,
        ⟨(some 30), none, true, .fieldA 2 154 (.t 29)⟩,
        ⟨(some 31), none, false, .buildSlice false 1 .np 3 [(0, (.t 24)), (1, (.t 27)), (2, (.t 30))]⟩,
        ⟨(some 32), none, true, .len (.t 31)⟩,
        ⟨(some 33), none, true, .mv (.c (.int .i64 0))⟩])
    (.block 2 (.loop fence_sessions_1l0))))))
  fence_sessions_1c1))
def fence_sessions_1 : AFun := ⟨51, [],
  .seq (.region [⟨(some 7), none, true, .load false 1 (.t 1)⟩,
      ⟨(some 8), none, true, .nilCheck (.t 7)⟩,
      ⟨(some 9), none, true, .fieldA 6 108 (.t 8)⟩,
      ⟨(some 10), none, true, .load false 1 (.t 9)⟩,
      ⟨(some 11), none, true, .len (.t 10)⟩,
      ⟨(some 12), none, true, .mv (.c (.int .i64 0))⟩])
  (.block 0 (.loop fence_sessions_1l2))⟩
/- burrow/burrowref22.Get -/

def burrowref22_Get : AFun := ⟨19, [.load true 77 (.t 4)],
  .seq (.region [⟨(some 2), none, false, .box (.t 0)⟩,
      ⟨(some 4), none, false, .alloc (.st 77 [(.bl false), (.st 76 [(.int .u32 0), (.int .u32 0), (.ar 1 32 (zr 32 (.int .u8 0))), (.ar 1 32 (zr 32 (.int .u8 0))), (.int .u64 0), (.int .u64 0), (.st 6 [(.bl false), (.int .u64 0), (.ar 1 4 (zr 4 (.int .u64 0)))]), (.int .i64 0), (.bl false)])])⟩])
  (.seq (.seq (.region [⟨(some 5), none, true, .mv (.t 1)⟩])
    (.block 0 (.seq (.region [⟨(some 7), none, true, .bin .eql .no (.t 5) (.c (.int .i64 1))⟩,
        ⟨(some 6), none, true, .mv (.t 7)⟩])
    (.cond (.t 6)
      (.seq (.region [⟨(some 8), none, true, .fieldA 0 0 (.t 2)⟩,
          ⟨(some 9), none, true, .load true 77 (.t 8)⟩,
          ⟨none, none, false, .store 77 (.t 4) (.t 9)⟩])
      (.ret))
      (.seq (.region [⟨(some 11), none, true, .bin .eql .no (.t 5) (.c (.int .i64 2))⟩,
          ⟨(some 10), none, true, .mv (.t 11)⟩])
      (.cond (.t 10)
        (.seq (.region [⟨(some 12), none, true, .fieldA 1 77 (.t 2)⟩,
            ⟨(some 13), none, true, .load true 77 (.t 12)⟩,
            ⟨none, none, false, .store 77 (.t 4) (.t 13)⟩])
        (.ret))
        (.seq (.region [⟨(some 15), none, true, .bin .eql .no (.t 5) (.c (.int .i64 3))⟩,
            ⟨(some 14), none, true, .mv (.t 15)⟩])
        (.cond (.t 14)
          (.seq (.region [⟨(some 16), none, true, .fieldA 2 154 (.t 2)⟩,
              ⟨(some 17), none, true, .load true 77 (.t 16)⟩,
              ⟨none, none, false, .store 77 (.t 4) (.t 17)⟩])
          (.ret))
          (.skip)))))))))
  (.seq (.region [⟨(some 18), none, false, .build (.st 77 [(.bl false), (.st 76 [(.int .u32 0), (.int .u32 0), (.ar 1 32 (zr 32 (.int .u8 0))), (.ar 1 32 (zr 32 (.int .u8 0))), (.int .u64 0), (.int .u64 0), (.st 6 [(.bl false), (.int .u64 0), (.ar 1 4 (zr 4 (.int .u64 0)))]), (.int .i64 0), (.bl false)])]) []⟩,
      ⟨none, none, false, .store 77 (.t 4) (.t 18)⟩])
  (.ret)))⟩
/- burrow/burrowref22.Put -/

def burrowref22_Put : AFun := ⟨24, [.load true 231 (.t 6)],
  .seq (.region [⟨(some 3), none, false, .box (.t 0)⟩,
      ⟨(some 5), none, false, .box (.t 2)⟩,
      ⟨(some 6), none, false, .alloc (.st 231 [(.st 77 [(.bl false), (.st 76 [(.int .u32 0), (.int .u32 0), (.ar 1 32 (zr 32 (.int .u8 0))), (.ar 1 32 (zr 32 (.int .u8 0))), (.int .u64 0), (.int .u64 0), (.st 6 [(.bl false), (.int .u64 0), (.ar 1 4 (zr 4 (.int .u64 0)))]), (.int .i64 0), (.bl false)])]), (.st 77 [(.bl false), (.st 76 [(.int .u32 0), (.int .u32 0), (.ar 1 32 (zr 32 (.int .u8 0))), (.ar 1 32 (zr 32 (.int .u8 0))), (.int .u64 0), (.int .u64 0), (.st 6 [(.bl false), (.int .u64 0), (.ar 1 4 (zr 4 (.int .u64 0)))]), (.int .i64 0), (.bl false)])]), (.st 77 [(.bl false), (.st 76 [(.int .u32 0), (.int .u32 0), (.ar 1 32 (zr 32 (.int .u8 0))), (.ar 1 32 (zr 32 (.int .u8 0))), (.int .u64 0), (.int .u64 0), (.st 6 [(.bl false), (.int .u64 0), (.ar 1 4 (zr 4 (.int .u64 0)))]), (.int .i64 0), (.bl false)])])])⟩])
  (.seq (.region [⟨(some 8), none, true, .load true 76 (.t 5)⟩,
      ⟨(some 9), none, false, .build (.st 77 [(.bl false), (.st 76 [(.int .u32 0), (.int .u32 0), (.ar 1 32 (zr 32 (.int .u8 0))), (.ar 1 32 (zr 32 (.int .u8 0))), (.int .u64 0), (.int .u64 0), (.st 6 [(.bl false), (.int .u64 0), (.ar 1 4 (zr 4 (.int .u64 0)))]), (.int .i64 0), (.bl false)])]) [(0, (.c (.bl true))), (1, (.t 8))]⟩,
      ⟨(some 7), none, false, .alloc (.st 77 [(.bl false), (.st 76 [(.int .u32 0), (.int .u32 0), (.ar 1 32 (zr 32 (.int .u8 0))), (.ar 1 32 (zr 32 (.int .u8 0))), (.int .u64 0), (.int .u64 0), (.st 6 [(.bl false), (.int .u64 0), (.ar 1 4 (zr 4 (.int .u64 0)))]), (.int .i64 0), (.bl false)])])⟩,
      ⟨none, none, false, .store 77 (.t 7) (.t 9)⟩])
  (.seq (.seq (.region [⟨(some 10), none, true, .mv (.t 1)⟩])
    (.block 0 (.seq (.region [⟨(some 12), none, true, .bin .eql .no (.t 10) (.c (.int .i64 1))⟩,
        ⟨(some 11), none, true, .mv (.t 12)⟩])
    (.cond (.t 11)
      (.region [⟨(some 13), none, true, .load true 77 (.t 7)⟩,
        ⟨(some 14), none, true, .fieldA 0 0 (.t 3)⟩,
        ⟨none, none, false, .store 77 (.t 14) (.t 13)⟩])
      (.seq (.region [⟨(some 16), none, true, .bin .eql .no (.t 10) (.c (.int .i64 2))⟩,
          ⟨(some 15), none, true, .mv (.t 16)⟩])
      (.cond (.t 15)
        (.region [⟨(some 17), none, true, .load true 77 (.t 7)⟩,
          ⟨(some 18), none, true, .fieldA 1 77 (.t 3)⟩,
          ⟨none, none, false, .store 77 (.t 18) (.t 17)⟩])
        (.seq (.region [⟨(some 20), none, true, .bin .eql .no (.t 10) (.c (.int .i64 3))⟩,
            ⟨(some 19), none, true, .mv (.t 20)⟩])
        (.cond (.t 19)
          (.region [⟨(some 21), none, true, .load true 77 (.t 7)⟩,
            ⟨(some 22), none, true, .fieldA 2 154 (.t 3)⟩,
            ⟨none, none, false, .store 77 (.t 22) (.t 21)⟩])
          (.skip)))))))))
  (.seq (.region [⟨(some 23), none, true, .load true 231 (.t 3)⟩,
      ⟨none, none, false, .store 231 (.t 6) (.t 23)⟩])
  (.ret))))⟩
/- burrow/burrowref09.Sound -/
def burrowref09_Soundl0 : ACode :=
  .seq (.region [⟨(some 9), none, true, .bin .lss .no (.t 8) (.t 7)⟩])
  (.seq (.cond (.t 9)
      (.skip)
      (.exit 0))
  (.seq (.block 1 (.seq (.region [⟨(some 10), none, false, .indexA (.sl 1) (.t 6) (.t 8)⟩,
        ⟨(some 11), none, true, .load false 1 (.t 10)⟩,
        ⟨(some 4), none, true, .mv (.t 11)⟩])
    (.seq (.region [⟨(some 12), none, true, .fieldA 0 0 (.t 1)⟩,
        ⟨(some 13), none, true, .load false 1 (.t 12)⟩,
        ⟨(some 14), none, true, .un .not (.t 13)⟩,
        ⟨(some 15), none, true, .mv (.t 14)⟩,
        ⟨(some 16), (some (15, true)), true, .mv (.t 4)⟩,
        ⟨(some 17), (some (15, true)), true, .bin .neq .no (.t 16) (.c (.int .u8 0))⟩,
        ⟨(some 18), none, true, .pick (.t 15) (.t 17) (.c (.bl false))⟩])
    (.cond (.t 18)
      (.seq (.region [⟨(some 2), none, true, .mv (.c (.bl false))⟩])
      (.ret))
      (.skip)))))
  (.region [⟨(some 19), none, true, .bin .add .no (.t 8) (.c (.int .i64 1))⟩,
    ⟨(some 8), none, true, .mv (.t 19)⟩])))
def burrowref09_Soundc1 : ACode :=
  .seq (.region [⟨(some 2), none, true, .mv (.c (.bl true))⟩])
  (.ret)
def burrowref09_Sound : AFun := ⟨20, [.mv (.t 2)],
  .seq (.region [⟨(some 1), none, false, .box (.t 0)⟩,
      ⟨(some 2), none, true, .mv (.c (.bl false))⟩])
  (.seq (.seq (.region [⟨(some 5), none, true, .fieldA 1 1 (.t 1)⟩,
        ⟨(some 6), none, false, .slice (.ar 16 1) (.t 5) (some (.c (.int .i64 4))) none none⟩,
        ⟨(some 7), none, true, .len (.t 6)⟩,
        ⟨(some 8), none, true, .mv (.c (.int .i64 0))⟩])
    (.block 0 (.loop burrowref09_Soundl0)))
  burrowref09_Soundc1)⟩
/- burrow/burrowref09.width -/

def burrowref09_width : AFun := ⟨5, [.mv (.t 2)],
  .seq (.region [⟨(some 1), none, false, .box (.t 0)⟩,
      ⟨(some 2), none, true, .mv (.c (.int .i64 0))⟩])
  (.seq (.seq (.region [⟨(some 3), none, true, .fieldA 0 0 (.t 1)⟩,
        ⟨(some 4), none, true, .load false 1 (.t 3)⟩])
    (.cond (.t 4)
      (.seq (.region [⟨(some 2), none, true, .mv (.c (.int .i64 128))⟩])
      (.ret))
      (.skip)))
  (.seq (.region [⟨(some 2), none, true, .mv (.c (.int .i64 32))⟩])
  (.ret)))⟩
/- burrow/burrowref09.bit -/

def burrowref09_bit : AFun := ⟨15, [.mv (.t 4)],
  .seq (.region [⟨(some 2), none, false, .box (.t 0)⟩,
      ⟨(some 4), none, true, .mv (.c (.int .u8 0))⟩])
  (.seq (.region [⟨(some 5), none, true, .mv (.t 1)⟩,
      ⟨(some 6), none, false, .bin .quo .no (.t 5) (.c (.int .i64 8))⟩,
      ⟨(some 7), none, true, .fieldA 1 1 (.t 2)⟩,
      ⟨(some 8), none, false, .indexA (.ar 16 1) (.t 7) (.t 6)⟩,
      ⟨(some 9), none, true, .load false 1 (.t 8)⟩,
      ⟨(some 10), none, true, .mv (.t 1)⟩,
      ⟨(some 11), none, false, .bin .rem .no (.t 10) (.c (.int .i64 8))⟩,
      ⟨(some 12), none, true, .bin .sub .no (.c (.int .i64 7)) (.t 11)⟩,
      ⟨(some 13), none, false, .bin .shr .no (.t 9) (.t 12)⟩,
      ⟨(some 14), none, true, .bin .and .no (.t 13) (.c (.int .u8 1))⟩,
      ⟨(some 4), none, true, .mv (.t 14)⟩])
  (.ret))⟩
/- burrow/burrowref09.Less -/

def burrowref09_Less : AFun := ⟨20, [.mv (.t 4)],
  .seq (.region [⟨(some 2), none, false, .box (.t 0)⟩,
      ⟨(some 3), none, false, .box (.t 1)⟩,
      ⟨(some 4), none, true, .mv (.c (.bl false))⟩])
  (.seq (.seq (.region [⟨(some 5), none, true, .fieldA 0 0 (.t 2)⟩,
        ⟨(some 6), none, true, .load false 1 (.t 5)⟩,
        ⟨(some 7), none, true, .fieldA 0 0 (.t 3)⟩,
        ⟨(some 8), none, true, .load false 1 (.t 7)⟩,
        ⟨(some 9), none, true, .bin .neq .bl (.t 6) (.t 8)⟩])
    (.cond (.t 9)
      (.seq (.region [⟨(some 10), none, true, .fieldA 0 0 (.t 2)⟩,
          ⟨(some 11), none, true, .load false 1 (.t 10)⟩,
          ⟨(some 12), none, true, .un .not (.t 11)⟩,
          ⟨(some 4), none, true, .mv (.t 12)⟩])
      (.ret))
      (.skip)))
  (.seq (.region [⟨(some 13), none, true, .fieldA 1 1 (.t 2)⟩,
      ⟨(some 14), none, false, .slice (.ar 16 1) (.t 13) none none none⟩,
      ⟨(some 15), none, true, .convS (.t 14)⟩,
      ⟨(some 16), none, true, .fieldA 1 1 (.t 3)⟩,
      ⟨(some 17), none, false, .slice (.ar 16 1) (.t 16) none none none⟩,
      ⟨(some 18), none, true, .convS (.t 17)⟩,
      ⟨(some 19), none, true, .bin .lss .no (.t 15) (.t 18)⟩,
      ⟨(some 4), none, true, .mv (.t 19)⟩])
  (.ret)))⟩
/- burrow/burrowref24.Check -/

def burrowref24_Check : AFun := ⟨58, [.mv (.t 2)],
  .seq (.region [⟨(some 1), none, false, .box (.t 0)⟩,
      ⟨(some 2), none, true, .mv (.c (.int .i64 0))⟩])
  (.seq (.block 0 (.seq (.region [⟨(some 4), none, true, .fieldA 0 0 (.t 1)⟩,
        ⟨(some 5), none, true, .load true 10 (.t 4)⟩,
        ⟨(some 6), none, false, .call (.c (.fn (.func I.burrowref24_ValidRules) [] [])) [(.t 5)]⟩,
        ⟨(some 7), none, true, .un .not (.t 6)⟩,
        ⟨(some 8), none, true, .mv (.t 7)⟩,
        ⟨(some 9), (some (8, false)), true, .fieldA 5 107 (.t 1)⟩,
        ⟨(some 10), (some (8, false)), true, .load false 1 (.t 9)⟩,
        ⟨(some 11), (some (8, false)), false, .call (.c (.fn (.func I.burrowref24_within) [] [])) [(.t 10), (.c (.int .i64 0)), (.c (.int .i64 1099511627776))]⟩,
        ⟨(some 12), (some (8, false)), false, .un .not (.t 11)⟩,
        ⟨(some 13), none, true, .pick (.t 8) (.c (.bl true)) (.t 12)⟩,
        ⟨(some 14), none, true, .mv (.t 13)⟩,
        ⟨(some 15), (some (14, false)), true, .fieldA 3 74 (.t 1)⟩,
        ⟨(some 16), (some (14, false)), true, .load false 1 (.t 15)⟩,
        ⟨(some 17), (some (14, false)), false, .call (.c (.fn (.func I.burrowref24_within) [] [])) [(.t 16), (.c (.int .i64 0)), (.c (.int .i64 65535))]⟩,
        ⟨(some 18), (some (14, false)), false, .un .not (.t 17)⟩,
        ⟨(some 19), none, true, .pick (.t 14) (.c (.bl true)) (.t 18)⟩,
        ⟨(some 20), none, true, .mv (.t 19)⟩,
        ⟨(some 21), (some (20, false)), true, .fieldA 14 147 (.t 1)⟩,
        ⟨(some 22), (some (20, false)), true, .load false 1 (.t 21)⟩,
        ⟨(some 23), (some (20, false)), false, .call (.c (.fn (.func I.burrowref24_within) [] [])) [(.t 22), (.c (.int .i64 0)), (.c (.int .i64 1099511627776))]⟩,
        ⟨(some 24), (some (20, false)), false, .un .not (.t 23)⟩,
        ⟨(some 25), none, true, .pick (.t 20) (.c (.bl true)) (.t 24)⟩,
        ⟨(some 3), none, true, .mv (.t 25)⟩])
    (.cond (.t 3)
      (.seq (.region [⟨(some 2), none, true, .mv (.c (.int .i64 1))⟩])
      (.ret))
      (.seq (.region [⟨(some 27), none, true, .load true 148 (.t 1)⟩,
          ⟨(some 28), none, false, .call (.c (.fn (.func I.burrowref24_peers) [] [])) [(.t 27)]⟩,
          ⟨(some 29), none, true, .un .not (.t 28)⟩,
          ⟨(some 26), none, true, .mv (.t 29)⟩])
      (.cond (.t 26)
        (.seq (.region [⟨(some 2), none, true, .mv (.c (.int .i64 2))⟩])
        (.ret))
        (.seq (.region [⟨(some 31), none, true, .load true 148 (.t 1)⟩,
            ⟨(some 32), none, false, .call (.c (.fn (.func I.burrowref24_each) [] [])) [(.t 31), (.c (.int .i64 3))]⟩,
            ⟨(some 33), none, true, .un .not (.t 32)⟩,
            ⟨(some 30), none, true, .mv (.t 33)⟩])
        (.cond (.t 30)
          (.seq (.region [⟨(some 2), none, true, .mv (.c (.int .i64 3))⟩])
          (.ret))
          (.seq (.region [⟨(some 35), none, true, .load true 148 (.t 1)⟩,
              ⟨(some 36), none, false, .call (.c (.fn (.func I.burrowref24_each) [] [])) [(.t 35), (.c (.int .i64 4))]⟩,
              ⟨(some 37), none, true, .un .not (.t 36)⟩,
              ⟨(some 34), none, true, .mv (.t 37)⟩])
          (.cond (.t 34)
            (.seq (.region [⟨(some 2), none, true, .mv (.c (.int .i64 4))⟩])
            (.ret))
            (.seq (.region [⟨(some 39), none, true, .load true 148 (.t 1)⟩,
                ⟨(some 40), none, false, .call (.c (.fn (.func I.burrowref24_each) [] [])) [(.t 39), (.c (.int .i64 5))]⟩,
                ⟨(some 41), none, true, .un .not (.t 40)⟩,
                ⟨(some 38), none, true, .mv (.t 41)⟩])
            (.cond (.t 38)
              (.seq (.region [⟨(some 2), none, true, .mv (.c (.int .i64 5))⟩])
              (.ret))
              (.seq (.region [⟨(some 43), none, true, .load true 148 (.t 1)⟩,
                  ⟨(some 44), none, false, .call (.c (.fn (.func I.burrowref24_routes) [] [])) [(.t 43)]⟩,
                  ⟨(some 45), none, true, .un .not (.t 44)⟩,
                  ⟨(some 42), none, true, .mv (.t 45)⟩])
              (.cond (.t 42)
                (.seq (.region [⟨(some 2), none, true, .mv (.c (.int .i64 6))⟩])
                (.ret))
                (.seq (.region [⟨(some 47), none, true, .load true 148 (.t 1)⟩,
                    ⟨(some 48), none, false, .call (.c (.fn (.func I.burrowref24_slots) [] [])) [(.t 47)]⟩,
                    ⟨(some 49), none, true, .un .not (.t 48)⟩,
                    ⟨(some 46), none, true, .mv (.t 49)⟩])
                (.cond (.t 46)
                  (.seq (.region [⟨(some 2), none, true, .mv (.c (.int .i64 7))⟩])
                  (.ret))
                  (.seq (.region [⟨(some 51), none, true, .load true 148 (.t 1)⟩,
                      ⟨(some 52), none, false, .call (.c (.fn (.func I.burrowref24_timers) [] [])) [(.t 51)]⟩,
                      ⟨(some 53), none, true, .un .not (.t 52)⟩,
                      ⟨(some 50), none, true, .mv (.t 53)⟩])
                  (.cond (.t 50)
                    (.seq (.region [⟨(some 2), none, true, .mv (.c (.int .i64 8))⟩])
                    (.ret))
                    (.seq (.region [⟨(some 55), none, true, .load true 148 (.t 1)⟩,
                        ⟨(some 56), none, false, .call (.c (.fn (.func I.burrowref24_load) [] [])) [(.t 55)]⟩,
                        ⟨(some 57), none, true, .un .not (.t 56)⟩,
                        ⟨(some 54), none, true, .mv (.t 57)⟩])
                    (.cond (.t 54)
                      (.seq (.region [⟨(some 2), none, true, .mv (.c (.int .i64 9))⟩])
                      (.ret))
                      (.skip))))))))))))))))))))
  (.seq (.region [⟨(some 2), none, true, .mv (.c (.int .i64 0))⟩])
  (.ret)))⟩
/- burrow/burrowref24.past -/

def burrowref24_past : AFun := ⟨9, [.mv (.t 4)],
  .seq (.region [⟨(some 2), none, false, .box (.t 0)⟩,
      ⟨(some 4), none, true, .mv (.c (.bl false))⟩])
  (.seq (.region [⟨(some 5), none, true, .mv (.t 1)⟩,
      ⟨(some 6), none, true, .fieldA 5 107 (.t 2)⟩,
      ⟨(some 7), none, true, .load false 1 (.t 6)⟩,
      ⟨(some 8), none, false, .call (.c (.fn (.func I.burrowref24_within) [] [])) [(.t 5), (.c (.int .i64 0)), (.t 7)]⟩,
      ⟨(some 4), none, true, .mv (.t 8)⟩])
  (.ret))⟩
/- burrow/burrowref22.locals -/
def burrowref22_localsl0 : ACode :=
  .seq (.region [⟨(some 9), none, true, .bin .lss .no (.t 8) (.t 7)⟩])
  (.seq (.cond (.t 9)
      (.skip)
      (.exit 0))
  (.seq (.block 1 (.seq (.region [⟨(some 10), none, false, .indexA (.sl 77) (.t 6) (.t 8)⟩,
        ⟨(some 11), none, true, .load true 77 (.t 10)⟩,
        ⟨(some 5), none, false, .alloc (.st 77 [(.bl false), (.st 76 [(.int .u32 0), (.int .u32 0), (.ar 1 32 (zr 32 (.int .u8 0))), (.ar 1 32 (zr 32 (.int .u8 0))), (.int .u64 0), (.int .u64 0), (.st 6 [(.bl false), (.int .u64 0), (.ar 1 4 (zr 4 (.int .u64 0)))]), (.int .i64 0), (.bl false)])])⟩,
        ⟨none, none, false, .store 77 (.t 5) (.t 11)⟩])
    (.seq (.region [⟨(some 12), none, true, .fieldA 0 0 (.t 5)⟩,
        ⟨(some 13), none, true, .load false 1 (.t 12)⟩])
    (.cond (.t 13)
      (.region [⟨(some 14), none, true, .mv (.t 3)⟩,
        ⟨(some 15), none, true, .fieldA 1 1 (.t 5)⟩,
        ⟨(some 16), none, true, .fieldA 0 0 (.t 15)⟩,
        ⟨(some 17), none, true, .load false 1 (.t 16)⟩,
        ⟨(some 18), none, false, .buildSlice false 1 (.int .u32 0) 1 [(0, (.t 17))]⟩,
        ⟨(some 19), none, false, .append 1 4 false (.t 14) (.t 18)⟩,
        ⟨(some 3), none, true, .mv (.t 19)⟩])
      (.skip)))))
  (.region [⟨(some 20), none, true, .bin .add .no (.t 8) (.c (.int .i64 1))⟩,
    ⟨(some 8), none, true, .mv (.t 20)⟩])))
def burrowref22_localsc1 : ACode :=
  .seq (.region [⟨(some 21), none, true, .mv (.t 3)⟩,
      ⟨(some 2), none, true, .mv (.t 21)⟩])
  (.ret)
def burrowref22_locals : AFun := ⟨22, [.mv (.t 2)],
  .seq (.region [⟨(some 2), none, true, .mv (.c (.sl 1 [] true))⟩])
  (.seq (.region [⟨(some 3), none, true, .mv (.c (.sl 1 [] true))⟩])
  (.seq (.seq (.region [⟨(some 6), none, true, .mv (.t 0)⟩,
        ⟨(some 7), none, true, .len (.t 6)⟩,
        ⟨(some 8), none, true, .mv (.c (.int .i64 0))⟩])
    (.block 0 (.loop burrowref22_localsl0)))
  burrowref22_localsc1))⟩
/- burrow/burrowref22.clean -/

def burrowref22_clean : AFun := ⟨8, [.load true 77 (.t 2)],
  .seq (.region [⟨(some 1), none, false, .box (.t 0)⟩,
      ⟨(some 2), none, false, .alloc (.st 77 [(.bl false), (.st 76 [(.int .u32 0), (.int .u32 0), (.ar 1 32 (zr 32 (.int .u8 0))), (.ar 1 32 (zr 32 (.int .u8 0))), (.int .u64 0), (.int .u64 0), (.st 6 [(.bl false), (.int .u64 0), (.ar 1 4 (zr 4 (.int .u64 0)))]), (.int .i64 0), (.bl false)])])⟩])
  (.seq (.seq (.region [⟨(some 3), none, true, .fieldA 0 0 (.t 1)⟩,
        ⟨(some 4), none, true, .load false 1 (.t 3)⟩,
        ⟨(some 5), none, true, .un .not (.t 4)⟩])
    (.cond (.t 5)
      (.seq (.region [⟨(some 6), none, false, .build (.st 77 [(.bl false), (.st 76 [(.int .u32 0), (.int .u32 0), (.ar 1 32 (zr 32 (.int .u8 0))), (.ar 1 32 (zr 32 (.int .u8 0))), (.int .u64 0), (.int .u64 0), (.st 6 [(.bl false), (.int .u64 0), (.ar 1 4 (zr 4 (.int .u64 0)))]), (.int .i64 0), (.bl false)])]) []⟩,
          ⟨none, none, false, .store 77 (.t 2) (.t 6)⟩])
      (.ret))
      (.skip)))
  (.seq (.region [⟨(some 7), none, true, .load true 77 (.t 1)⟩,
      ⟨none, none, false, .store 77 (.t 2) (.t 7)⟩])
  (.ret)))⟩
/- burrow/burrowref14.DropSlot -/
def burrowref14_DropSlotl0 : ACode :=
  .seq (.region [⟨(some 11), none, true, .bin .lss .no (.t 10) (.t 9)⟩])
  (.seq (.cond (.t 11)
      (.skip)
      (.exit 0))
  (.seq (.block 1 (.seq (.region [⟨(some 12), none, false, .indexA (.sl 34) (.t 8) (.t 10)⟩,
        ⟨(some 13), none, true, .load true 34 (.t 12)⟩,
        ⟨(some 7), none, false, .alloc (.st 34 [(.int .u32 0), (.ar 1 32 (zr 32 (.int .u8 0))), (.bl false)])⟩,
        ⟨none, none, false, .store 34 (.t 7) (.t 13)⟩])
    (.seq (.region [⟨(some 14), none, true, .fieldA 0 0 (.t 7)⟩,
        ⟨(some 15), none, true, .load false 1 (.t 14)⟩,
        ⟨(some 16), none, true, .mv (.t 1)⟩,
        ⟨(some 17), none, true, .bin .neq .no (.t 15) (.t 16)⟩])
    (.cond (.t 17)
      (.region [⟨(some 18), none, true, .mv (.t 5)⟩,
        ⟨(some 19), none, true, .load true 34 (.t 7)⟩,
        ⟨(some 20), none, false, .buildSlice false 34 (.st 34 [(.int .u32 0), (.ar 1 32 (zr 32 (.int .u8 0))), (.bl false)]) 1 [(0, (.t 19))]⟩,
        ⟨(some 21), none, false, .append 34 40 false (.t 18) (.t 20)⟩,
        ⟨(some 5), none, true, .mv (.t 21)⟩])
      (.skip)))))
  (.region [⟨(some 22), none, true, .bin .add .no (.t 10) (.c (.int .i64 1))⟩,
    ⟨(some 10), none, true, .mv (.t 22)⟩])))
def burrowref14_DropSlotc1 : ACode :=
  .seq (.region [⟨(some 23), none, true, .mv (.t 5)⟩,
      ⟨(some 4), none, true, .mv (.t 23)⟩])
  (.ret)
def burrowref14_DropSlot : AFun := ⟨24, [.mv (.t 4)],
  .seq (.region [⟨(some 4), none, true, .mv (.c (.sl 34 [] true))⟩])
  (.seq (.region [⟨(some 5), none, true, .mv (.c (.sl 34 [] true))⟩])
  (.seq (.seq (.region [⟨(some 8), none, true, .mv (.t 0)⟩,
        ⟨(some 9), none, true, .len (.t 8)⟩,
        ⟨(some 10), none, true, .mv (.c (.int .i64 0))⟩])
    (.block 0 (.loop burrowref14_DropSlotl0)))
  burrowref14_DropSlotc1))⟩
/- burrow/burrowref14.CheckWindow -/

def burrowref14_CheckWindow : AFun := ⟨34, [.mv (.t 4)],
  .seq (.region [⟨(some 2), none, false, .box (.t 0)⟩,
      ⟨(some 4), none, true, .mv (.c (.bl false))⟩])
  (.seq (.seq (.region [⟨(some 5), none, true, .fieldA 0 0 (.t 2)⟩,
        ⟨(some 6), none, true, .load false 1 (.t 5)⟩,
        ⟨(some 7), none, true, .un .not (.t 6)⟩,
        ⟨(some 8), none, true, .mv (.t 7)⟩,
        ⟨(some 9), (some (8, false)), true, .mv (.t 1)⟩,
        ⟨(some 10), (some (8, false)), true, .fieldA 1 1 (.t 2)⟩,
        ⟨(some 11), (some (8, false)), true, .load false 1 (.t 10)⟩,
        ⟨(some 12), (some (8, false)), true, .bin .gtr .no (.t 9) (.t 11)⟩,
        ⟨(some 13), none, true, .pick (.t 8) (.c (.bl true)) (.t 12)⟩])
    (.cond (.t 13)
      (.seq (.region [⟨(some 4), none, true, .mv (.c (.bl true))⟩])
      (.ret))
      (.skip)))
  (.seq (.region [⟨(some 14), none, true, .fieldA 1 1 (.t 2)⟩,
      ⟨(some 15), none, true, .load false 1 (.t 14)⟩,
      ⟨(some 16), none, false, .bin .quo .no (.t 15) (.c (.int .u64 64))⟩,
      ⟨(some 17), none, true, .mv (.t 1)⟩,
      ⟨(some 18), none, false, .bin .quo .no (.t 17) (.c (.int .u64 64))⟩,
      ⟨(some 19), none, true, .bin .sub .no (.t 16) (.t 18)⟩,
      ⟨(some 20), none, true, .bin .leq .no (.t 19) (.c (.int .u64 3))⟩,
      ⟨(some 21), none, true, .mv (.t 20)⟩,
      ⟨(some 22), (some (21, true)), true, .mv (.t 1)⟩,
      ⟨(some 23), (some (21, true)), false, .bin .quo .no (.t 22) (.c (.int .u64 64))⟩,
      ⟨(some 24), (some (21, true)), false, .bin .rem .no (.t 23) (.c (.int .u64 4))⟩,
      ⟨(some 25), (some (21, true)), true, .fieldA 2 2 (.t 2)⟩,
      ⟨(some 26), (some (21, true)), false, .indexA (.ar 4 1) (.t 25) (.t 24)⟩,
      ⟨(some 27), (some (21, true)), false, .load false 1 (.t 26)⟩,
      ⟨(some 28), (some (21, true)), true, .mv (.t 1)⟩,
      ⟨(some 29), (some (21, true)), false, .bin .rem .no (.t 28) (.c (.int .u64 64))⟩,
      ⟨(some 30), (some (21, true)), false, .bin .shr .no (.t 27) (.t 29)⟩,
      ⟨(some 31), (some (21, true)), false, .bin .and .no (.t 30) (.c (.int .u64 1))⟩,
      ⟨(some 32), (some (21, true)), false, .bin .eql .no (.t 31) (.c (.int .u64 0))⟩,
      ⟨(some 33), none, true, .pick (.t 21) (.t 32) (.c (.bl false))⟩,
      ⟨(some 4), none, true, .mv (.t 33)⟩])
  (.ret)))⟩
/- slices.Clone[[][]byte,[]byte] -/

def slices_Clone_byte_byte : AFun := ⟨8, [.mv (.t 2)],
  .seq (.region [⟨(some 2), none, true, .mv (.c (.sl 1 [] true))⟩])
  (.seq (.seq (.region [⟨(some 3), none, true, .mv (.t 0)⟩,
        ⟨(some 4), none, false, .isNil false (.t 3)⟩])
    (.cond (.t 4)
      (.seq (.region [⟨(some 2), none, true, .mv (.c (.sl 1 [] true))⟩])
      (.ret))
      (.skip)))
  (.seq (.region [⟨(some 5), none, false, .buildSlice false 1 (.sl 1 [] true) 0 []⟩,
      ⟨(some 6), none, true, .mv (.t 0)⟩,
      ⟨(some 7), none, false, .append 1 24 false (.t 5) (.t 6)⟩,
      ⟨(some 2), none, true, .mv (.t 7)⟩])
  (.ret)))⟩
/- slices.Clone[[]byte,byte] -/

def slices_Clone_byte_byte_71 : AFun := ⟨8, [.mv (.t 2)],
  .seq (.region [⟨(some 2), none, true, .mv (.c (.sl 1 [] true))⟩])
  (.seq (.seq (.region [⟨(some 3), none, true, .mv (.t 0)⟩,
        ⟨(some 4), none, false, .isNil false (.t 3)⟩])
    (.cond (.t 4)
      (.seq (.region [⟨(some 2), none, true, .mv (.c (.sl 1 [] true))⟩])
      (.ret))
      (.skip)))
  (.seq (.region [⟨(some 5), none, false, .buildSlice false 1 (.int .u8 0) 0 []⟩,
      ⟨(some 6), none, true, .mv (.t 0)⟩,
      ⟨(some 7), none, false, .append 1 1 false (.t 5) (.t 6)⟩,
      ⟨(some 2), none, true, .mv (.t 7)⟩])
  (.ret)))⟩
/- burrow/burrowref24.ValidRules -/

def burrowref24_ValidRules : AFun := ⟨81, [.mv (.t 2)],
  .seq (.region [⟨(some 1), none, false, .box (.t 0)⟩,
      ⟨(some 2), none, true, .mv (.c (.bl false))⟩])
  (.seq (.seq (.region [⟨(some 3), none, true, .fieldA 0 0 (.t 1)⟩,
        ⟨(some 4), none, true, .load false 1 (.t 3)⟩,
        ⟨(some 5), none, true, .bin .lss .no (.t 4) (.c (.int .u64 1))⟩,
        ⟨(some 6), none, true, .mv (.t 5)⟩,
        ⟨(some 7), (some (6, false)), true, .fieldA 0 0 (.t 1)⟩,
        ⟨(some 8), (some (6, false)), true, .load false 1 (.t 7)⟩,
        ⟨(some 9), (some (6, false)), true, .fieldA 1 1 (.t 1)⟩,
        ⟨(some 10), (some (6, false)), true, .load false 1 (.t 9)⟩,
        ⟨(some 11), (some (6, false)), true, .bin .gtr .no (.t 8) (.t 10)⟩,
        ⟨(some 12), none, true, .pick (.t 6) (.c (.bl true)) (.t 11)⟩,
        ⟨(some 13), none, true, .mv (.t 12)⟩,
        ⟨(some 14), (some (13, false)), true, .fieldA 1 1 (.t 1)⟩,
        ⟨(some 15), (some (13, false)), true, .load false 1 (.t 14)⟩,
        ⟨(some 16), (some (13, false)), true, .bin .gtr .no (.t 15) (.c (.int .u64 18446744073709543423))⟩,
        ⟨(some 17), none, true, .pick (.t 13) (.c (.bl true)) (.t 16)⟩])
    (.cond (.t 17)
      (.seq (.region [⟨(some 2), none, true, .mv (.c (.bl false))⟩])
      (.ret))
      (.skip)))
  (.seq (.seq (.region [⟨(some 18), none, true, .fieldA 5 5 (.t 1)⟩,
        ⟨(some 19), none, true, .load false 1 (.t 18)⟩,
        ⟨(some 20), none, false, .call (.c (.fn (.func I.burrowref24_within) [] [])) [(.t 19), (.c (.int .i64 1000)), (.c (.int .i64 1073741824))]⟩,
        ⟨(some 21), none, true, .un .not (.t 20)⟩,
        ⟨(some 22), none, true, .mv (.t 21)⟩,
        ⟨(some 23), (some (22, false)), true, .fieldA 6 6 (.t 1)⟩,
        ⟨(some 24), (some (22, false)), true, .load false 1 (.t 23)⟩,
        ⟨(some 25), (some (22, false)), false, .call (.c (.fn (.func I.burrowref24_within) [] [])) [(.t 24), (.c (.int .i64 1000)), (.c (.int .i64 1073741824))]⟩,
        ⟨(some 26), (some (22, false)), false, .un .not (.t 25)⟩,
        ⟨(some 27), none, true, .pick (.t 22) (.c (.bl true)) (.t 26)⟩,
        ⟨(some 28), none, true, .mv (.t 27)⟩,
        ⟨(some 29), (some (28, false)), true, .fieldA 7 7 (.t 1)⟩,
        ⟨(some 30), (some (28, false)), true, .load false 1 (.t 29)⟩,
        ⟨(some 31), (some (28, false)), false, .call (.c (.fn (.func I.burrowref24_within) [] [])) [(.t 30), (.c (.int .i64 1)), (.c (.int .i64 1073741824))]⟩,
        ⟨(some 32), (some (28, false)), false, .un .not (.t 31)⟩,
        ⟨(some 33), none, true, .pick (.t 28) (.c (.bl true)) (.t 32)⟩,
        ⟨(some 34), none, true, .mv (.t 33)⟩,
        ⟨(some 35), (some (34, false)), true, .fieldA 2 2 (.t 1)⟩,
        ⟨(some 36), (some (34, false)), true, .load false 1 (.t 35)⟩,
        ⟨(some 37), (some (34, false)), false, .call (.c (.fn (.func I.burrowref24_within) [] [])) [(.t 36), (.c (.int .i64 1)), (.c (.int .i64 1073741824))]⟩,
        ⟨(some 38), (some (34, false)), false, .un .not (.t 37)⟩,
        ⟨(some 39), none, true, .pick (.t 34) (.c (.bl true)) (.t 38)⟩,
        ⟨(some 40), none, true, .mv (.t 39)⟩,
        ⟨(some 41), (some (40, false)), true, .fieldA 3 3 (.t 1)⟩,
        ⟨(some 42), (some (40, false)), true, .load false 1 (.t 41)⟩,
        ⟨(some 43), (some (40, false)), false, .call (.c (.fn (.func I.burrowref24_within) [] [])) [(.t 42), (.c (.int .i64 1)), (.c (.int .i64 1073741824))]⟩,
        ⟨(some 44), (some (40, false)), false, .un .not (.t 43)⟩,
        ⟨(some 45), none, true, .pick (.t 40) (.c (.bl true)) (.t 44)⟩])
    (.cond (.t 45)
      (.seq (.region [⟨(some 2), none, true, .mv (.c (.bl false))⟩])
      (.ret))
      (.skip)))
  (.seq (.region [⟨(some 46), none, true, .fieldA 2 2 (.t 1)⟩,
      ⟨(some 47), none, true, .load false 1 (.t 46)⟩,
      ⟨(some 48), none, true, .fieldA 3 3 (.t 1)⟩,
      ⟨(some 49), none, true, .load false 1 (.t 48)⟩,
      ⟨(some 50), none, true, .bin .leq .no (.t 47) (.t 49)⟩,
      ⟨(some 51), none, true, .mv (.t 50)⟩,
      ⟨(some 52), (some (51, true)), true, .fieldA 6 6 (.t 1)⟩,
      ⟨(some 53), (some (51, true)), true, .load false 1 (.t 52)⟩,
      ⟨(some 54), (some (51, true)), true, .fieldA 5 5 (.t 1)⟩,
      ⟨(some 55), (some (51, true)), true, .load false 1 (.t 54)⟩,
      ⟨(some 56), (some (51, true)), true, .bin .add .no (.t 53) (.t 55)⟩,
      ⟨(some 57), (some (51, true)), true, .fieldA 3 3 (.t 1)⟩,
      ⟨(some 58), (some (51, true)), true, .load false 1 (.t 57)⟩,
      ⟨(some 59), (some (51, true)), true, .bin .lss .no (.t 56) (.t 58)⟩,
      ⟨(some 60), none, true, .pick (.t 51) (.t 59) (.c (.bl false))⟩,
      ⟨(some 61), none, true, .mv (.t 60)⟩,
      ⟨(some 62), (some (61, true)), true, .fieldA 4 4 (.t 1)⟩,
      ⟨(some 63), (some (61, true)), true, .load false 1 (.t 62)⟩,
      ⟨(some 64), (some (61, true)), true, .fieldA 5 5 (.t 1)⟩,
      ⟨(some 65), (some (61, true)), true, .load false 1 (.t 64)⟩,
      ⟨(some 66), (some (61, true)), true, .fieldA 5 5 (.t 1)⟩,
      ⟨(some 67), (some (61, true)), true, .load false 1 (.t 66)⟩,
      ⟨(some 68), (some (61, true)), true, .bin .mul .no (.c (.int .i64 20)) (.t 67)⟩,
      ⟨(some 69), (some (61, true)), false, .call (.c (.fn (.func I.burrowref24_within) [] [])) [(.t 63), (.t 65), (.t 68)]⟩,
      ⟨(some 70), none, true, .pick (.t 61) (.t 69) (.c (.bl false))⟩,
      ⟨(some 71), none, true, .mv (.t 70)⟩,
      ⟨(some 72), (some (71, true)), true, .fieldA 8 8 (.t 1)⟩,
      ⟨(some 73), (some (71, true)), true, .load false 1 (.t 72)⟩,
      ⟨(some 74), (some (71, true)), false, .call (.c (.fn (.func I.burrowref24_within) [] [])) [(.t 73), (.c (.int .i64 1)), (.c (.int .i64 64))]⟩,
      ⟨(some 75), none, true, .pick (.t 71) (.t 74) (.c (.bl false))⟩,
      ⟨(some 76), none, true, .mv (.t 75)⟩,
      ⟨(some 77), (some (76, true)), true, .fieldA 9 9 (.t 1)⟩,
      ⟨(some 78), (some (76, true)), true, .load false 1 (.t 77)⟩,
      ⟨(some 79), (some (76, true)), false, .call (.c (.fn (.func I.burrowref24_within) [] [])) [(.t 78), (.c (.int .i64 1)), (.c (.int .i64 8))]⟩,
      ⟨(some 80), none, true, .pick (.t 76) (.t 79) (.c (.bl false))⟩,
      ⟨(some 2), none, true, .mv (.t 80)⟩])
  (.ret))))⟩
/- burrow/burrowref24.within -/

def burrowref24_within : AFun := ⟨15, [.mv (.t 6)],
  .seq (.region [⟨(some 6), none, true, .mv (.c (.bl false))⟩])
  (.seq (.region [⟨(some 7), none, true, .mv (.t 0)⟩,
      ⟨(some 8), none, true, .mv (.t 1)⟩,
      ⟨(some 9), none, true, .bin .geq .no (.t 7) (.t 8)⟩,
      ⟨(some 10), none, true, .mv (.t 9)⟩,
      ⟨(some 11), (some (10, true)), true, .mv (.t 0)⟩,
      ⟨(some 12), (some (10, true)), true, .mv (.t 2)⟩,
      ⟨(some 13), (some (10, true)), true, .bin .leq .no (.t 11) (.t 12)⟩,
      ⟨(some 14), none, true, .pick (.t 10) (.t 13) (.c (.bl false))⟩,
      ⟨(some 6), none, true, .mv (.t 14)⟩])
  (.ret))⟩
/- burrow/burrowref24.peers -/
def burrowref24_peersl0 : ACode :=
  .seq (.region [⟨(some 9), none, true, .bin .lss .no (.t 8) (.t 7)⟩])
  (.seq (.cond (.t 9)
      (.skip)
      (.exit 0))
  (.seq (.block 1 (.seq (.region [⟨(some 10), none, true, .mv (.t 8)⟩,
        ⟨(some 11), none, false, .indexA (.sl 464) (.t 6) (.t 8)⟩,
        ⟨(some 12), none, true, .load true 464 (.t 11)⟩,
        ⟨(some 4), none, false, .alloc (.st 464 [(.ar 1 32 (zr 32 (.int .u8 0))), (.ar 1 32 (zr 32 (.int .u8 0))), (.bl false), (.st 18 [(.st 17 [(.bl false), (.ar 1 16 (zr 16 (.int .u8 0)))]), (.int .i64 0)]), (.int .i64 0), (.ar 1 12 (zr 12 (.int .u8 0))), (.bl false), (.int .i64 0), (.st 100 [(.bl false), (.int .u32 0), (.ar 1 32 (zr 32 (.int .u8 0))), (.st 64 [(.ar 1 32 (zr 32 (.int .u8 0))), (.ar 1 32 (zr 32 (.int .u8 0)))]), (.int .i64 0), (.int .i64 0)]), (.bl false), (.ar 1 16 (zr 16 (.int .u8 0))), (.int .i64 0), (.ar 1 16 (zr 16 (.int .u8 0))), (.st 231 [(.st 77 [(.bl false), (.st 76 [(.int .u32 0), (.int .u32 0), (.ar 1 32 (zr 32 (.int .u8 0))), (.ar 1 32 (zr 32 (.int .u8 0))), (.int .u64 0), (.int .u64 0), (.st 6 [(.bl false), (.int .u64 0), (.ar 1 4 (zr 4 (.int .u64 0)))]), (.int .i64 0), (.bl false)])]), (.st 77 [(.bl false), (.st 76 [(.int .u32 0), (.int .u32 0), (.ar 1 32 (zr 32 (.int .u8 0))), (.ar 1 32 (zr 32 (.int .u8 0))), (.int .u64 0), (.int .u64 0), (.st 6 [(.bl false), (.int .u64 0), (.ar 1 4 (zr 4 (.int .u64 0)))]), (.int .i64 0), (.bl false)])]), (.st 77 [(.bl false), (.st 76 [(.int .u32 0), (.int .u32 0), (.ar 1 32 (zr 32 (.int .u8 0))), (.ar 1 32 (zr 32 (.int .u8 0))), (.int .u64 0), (.int .u64 0), (.st 6 [(.bl false), (.int .u64 0), (.ar 1 4 (zr 4 (.int .u64 0)))]), (.int .i64 0), (.bl false)])])]), (.sl 1 [] true)])⟩,
        ⟨(some 3), none, true, .mv (.t 10)⟩,
        ⟨none, none, false, .store 464 (.t 4) (.t 12)⟩])
    (.seq (.region [⟨(some 13), none, true, .mv (.t 3)⟩,
        ⟨(some 14), none, true, .bin .gtr .no (.t 13) (.c (.int .i64 0))⟩,
        ⟨(some 15), none, true, .mv (.t 14)⟩,
        ⟨(some 16), (some (15, true)), true, .fieldA 6 108 (.t 1)⟩,
        ⟨(some 17), (some (15, true)), true, .load false 1 (.t 16)⟩,
        ⟨(some 18), (some (15, true)), true, .mv (.t 3)⟩,
        ⟨(some 19), (some (15, true)), true, .bin .sub .no (.t 18) (.c (.int .i64 1))⟩,
        ⟨(some 20), (some (15, true)), false, .indexA (.sl 464) (.t 17) (.t 19)⟩,
        ⟨(some 21), (some (15, true)), false, .fieldA 0 0 (.t 20)⟩,
        ⟨(some 22), (some (15, true)), false, .slice (.ar 32 1) (.t 21) none none none⟩,
        ⟨(some 23), (some (15, true)), false, .convS (.t 22)⟩,
        ⟨(some 24), (some (15, true)), true, .fieldA 0 0 (.t 4)⟩,
        ⟨(some 25), (some (15, true)), false, .slice (.ar 32 1) (.t 24) none none none⟩,
        ⟨(some 26), (some (15, true)), false, .convS (.t 25)⟩,
        ⟨(some 27), (some (15, true)), false, .bin .geq .no (.t 23) (.t 26)⟩,
        ⟨(some 28), none, true, .pick (.t 15) (.t 27) (.c (.bl false))⟩])
    (.cond (.t 28)
      (.seq (.region [⟨(some 2), none, true, .mv (.c (.bl false))⟩])
      (.ret))
      (.skip)))))
  (.region [⟨(some 29), none, true, .bin .add .no (.t 8) (.c (.int .i64 1))⟩,
    ⟨(some 8), none, true, .mv (.t 29)⟩])))
def burrowref24_peersc1 : ACode :=
  .seq (.region [⟨(some 30), none, true, .fieldA 6 108 (.t 1)⟩,
      ⟨(some 31), none, true, .load false 1 (.t 30)⟩,
      ⟨(some 32), none, true, .len (.t 31)⟩,
      ⟨(some 33), none, true, .bin .leq .no (.t 32) (.c (.int .i64 8))⟩,
      ⟨(some 2), none, true, .mv (.t 33)⟩])
  (.ret)
def burrowref24_peers : AFun := ⟨34, [.mv (.t 2)],
  .seq (.region [⟨(some 1), none, false, .box (.t 0)⟩,
      ⟨(some 2), none, true, .mv (.c (.bl false))⟩])
  (.seq (.seq (.region [⟨(some 5), none, true, .fieldA 6 108 (.t 1)⟩,
        ⟨(some 6), none, true, .load false 1 (.t 5)⟩,
        ⟨(some 7), none, true, .len (.t 6)⟩,
        ⟨(some 8), none, true, .mv (.c (.int .i64 0))⟩])
    (.block 0 (.loop burrowref24_peersl0)))
  burrowref24_peersc1)⟩
/- burrow/burrowref24.each -/
def burrowref24_eachl0 : ACode :=
  .seq (.region [⟨(some 11), none, true, .bin .lss .no (.t 10) (.t 9)⟩])
  (.seq (.cond (.t 11)
      (.skip)
      (.exit 0))
  (.seq (.block 1 (.seq (.region [⟨(some 12), none, false, .indexA (.sl 464) (.t 8) (.t 10)⟩,
        ⟨(some 13), none, true, .load true 464 (.t 12)⟩,
        ⟨(some 6), none, false, .alloc (.st 464 [(.ar 1 32 (zr 32 (.int .u8 0))), (.ar 1 32 (zr 32 (.int .u8 0))), (.bl false), (.st 18 [(.st 17 [(.bl false), (.ar 1 16 (zr 16 (.int .u8 0)))]), (.int .i64 0)]), (.int .i64 0), (.ar 1 12 (zr 12 (.int .u8 0))), (.bl false), (.int .i64 0), (.st 100 [(.bl false), (.int .u32 0), (.ar 1 32 (zr 32 (.int .u8 0))), (.st 64 [(.ar 1 32 (zr 32 (.int .u8 0))), (.ar 1 32 (zr 32 (.int .u8 0)))]), (.int .i64 0), (.int .i64 0)]), (.bl false), (.ar 1 16 (zr 16 (.int .u8 0))), (.int .i64 0), (.ar 1 16 (zr 16 (.int .u8 0))), (.st 231 [(.st 77 [(.bl false), (.st 76 [(.int .u32 0), (.int .u32 0), (.ar 1 32 (zr 32 (.int .u8 0))), (.ar 1 32 (zr 32 (.int .u8 0))), (.int .u64 0), (.int .u64 0), (.st 6 [(.bl false), (.int .u64 0), (.ar 1 4 (zr 4 (.int .u64 0)))]), (.int .i64 0), (.bl false)])]), (.st 77 [(.bl false), (.st 76 [(.int .u32 0), (.int .u32 0), (.ar 1 32 (zr 32 (.int .u8 0))), (.ar 1 32 (zr 32 (.int .u8 0))), (.int .u64 0), (.int .u64 0), (.st 6 [(.bl false), (.int .u64 0), (.ar 1 4 (zr 4 (.int .u64 0)))]), (.int .i64 0), (.bl false)])]), (.st 77 [(.bl false), (.st 76 [(.int .u32 0), (.int .u32 0), (.ar 1 32 (zr 32 (.int .u8 0))), (.ar 1 32 (zr 32 (.int .u8 0))), (.int .u64 0), (.int .u64 0), (.st 6 [(.bl false), (.int .u64 0), (.ar 1 4 (zr 4 (.int .u64 0)))]), (.int .i64 0), (.bl false)])])]), (.sl 1 [] true)])⟩,
        ⟨none, none, false, .store 464 (.t 6) (.t 13)⟩])
    (.seq (.region [⟨(some 14), none, true, .mv (.t 1)⟩,
        ⟨(some 15), none, true, .bin .eql .no (.t 14) (.c (.int .i64 3))⟩,
        ⟨(some 16), none, true, .mv (.t 15)⟩,
        ⟨(some 17), (some (16, true)), true, .load true 148 (.t 2)⟩,
        ⟨(some 18), (some (16, true)), true, .load true 464 (.t 6)⟩,
        ⟨(some 19), (some (16, true)), false, .call (.c (.fn (.func I.burrowref24_fields) [] [])) [(.t 17), (.t 18)]⟩,
        ⟨(some 20), (some (16, true)), false, .un .not (.t 19)⟩,
        ⟨(some 21), none, true, .pick (.t 16) (.t 20) (.c (.bl false))⟩,
        ⟨(some 22), none, true, .mv (.t 21)⟩,
        ⟨(some 23), (some (22, false)), true, .mv (.t 1)⟩,
        ⟨(some 24), (some (22, false)), true, .bin .eql .no (.t 23) (.c (.int .i64 4))⟩,
        ⟨(some 25), (some (22, false)), true, .mv (.t 24)⟩,
        ⟨(some 26), (some (25, true)), true, .load true 148 (.t 2)⟩,
        ⟨(some 27), (some (25, true)), true, .load true 464 (.t 6)⟩,
        ⟨(some 28), (some (25, true)), false, .call (.c (.fn (.func I.burrowref24_hand) [] [])) [(.t 26), (.t 27)]⟩,
        ⟨(some 29), (some (25, true)), false, .un .not (.t 28)⟩,
        ⟨(some 30), (some (22, false)), true, .pick (.t 25) (.t 29) (.c (.bl false))⟩,
        ⟨(some 31), none, true, .pick (.t 22) (.c (.bl true)) (.t 30)⟩,
        ⟨(some 32), none, true, .mv (.t 31)⟩,
        ⟨(some 33), (some (32, false)), true, .mv (.t 1)⟩,
        ⟨(some 34), (some (32, false)), true, .bin .eql .no (.t 33) (.c (.int .i64 5))⟩,
        ⟨(some 35), (some (32, false)), true, .mv (.t 34)⟩,
        ⟨(some 36), (some (35, true)), true, .load true 148 (.t 2)⟩,
        ⟨(some 37), (some (35, true)), true, .load true 464 (.t 6)⟩,
        ⟨(some 38), (some (35, true)), false, .call (.c (.fn (.func I.burrowref24_ring) [] [])) [(.t 36), (.t 37)]⟩,
        ⟨(some 39), (some (35, true)), false, .un .not (.t 38)⟩,
        ⟨(some 40), (some (32, false)), true, .pick (.t 35) (.t 39) (.c (.bl false))⟩,
        ⟨(some 41), none, true, .pick (.t 32) (.c (.bl true)) (.t 40)⟩])
    (.cond (.t 41)
      (.seq (.region [⟨(some 4), none, true, .mv (.c (.bl false))⟩])
      (.ret))
      (.skip)))))
  (.region [⟨(some 42), none, true, .bin .add .no (.t 10) (.c (.int .i64 1))⟩,
    ⟨(some 10), none, true, .mv (.t 42)⟩])))
def burrowref24_eachc1 : ACode :=
  .seq (.region [⟨(some 4), none, true, .mv (.c (.bl true))⟩])
  (.ret)
def burrowref24_each : AFun := ⟨43, [.mv (.t 4)],
  .seq (.region [⟨(some 2), none, false, .box (.t 0)⟩,
      ⟨(some 4), none, true, .mv (.c (.bl false))⟩])
  (.seq (.seq (.region [⟨(some 7), none, true, .fieldA 6 108 (.t 2)⟩,
        ⟨(some 8), none, true, .load false 1 (.t 7)⟩,
        ⟨(some 9), none, true, .len (.t 8)⟩,
        ⟨(some 10), none, true, .mv (.c (.int .i64 0))⟩])
    (.block 0 (.loop burrowref24_eachl0)))
  burrowref24_eachc1)⟩
/- burrow/burrowref24.routes -/
def burrowref24_routesl0 : ACode :=
  .seq (.region [⟨(some 9), none, true, .bin .lss .no (.t 8) (.t 7)⟩])
  (.seq (.cond (.t 9)
      (.skip)
      (.exit 0))
  (.seq (.block 1 (.seq (.region [⟨(some 10), none, false, .indexA (.sl 50) (.t 6) (.t 8)⟩,
        ⟨(some 11), none, true, .load true 50 (.t 10)⟩,
        ⟨(some 4), none, false, .alloc (.st 50 [(.st 18 [(.st 17 [(.bl false), (.ar 1 16 (zr 16 (.int .u8 0)))]), (.int .i64 0)]), (.ar 1 32 (zr 32 (.int .u8 0)))])⟩,
        ⟨none, none, false, .store 50 (.t 4) (.t 11)⟩])
    (.seq (.region [⟨(some 12), none, true, .load true 148 (.t 1)⟩,
        ⟨(some 13), none, true, .fieldA 1 18 (.t 4)⟩,
        ⟨(some 14), none, true, .load true 32 (.t 13)⟩,
        ⟨(some 15), none, false, .call (.c (.fn (.func I.burrowref24_find) [] [])) [(.t 12), (.t 14)]⟩,
        ⟨(some 16), none, true, .bin .lss .no (.t 15) (.c (.int .i64 0))⟩])
    (.cond (.t 16)
      (.seq (.region [⟨(some 2), none, true, .mv (.c (.bl false))⟩])
      (.ret))
      (.skip)))))
  (.region [⟨(some 17), none, true, .bin .add .no (.t 8) (.c (.int .i64 1))⟩,
    ⟨(some 8), none, true, .mv (.t 17)⟩])))
def burrowref24_routesc1 : ACode :=
  .seq (.region [⟨(some 18), none, true, .fieldA 7 109 (.t 1)⟩,
      ⟨(some 19), none, true, .load false 1 (.t 18)⟩,
      ⟨(some 20), none, false, .call (.c (.fn (.func I.burrowref14_ValidRoutes) [] [])) [(.t 19)]⟩,
      ⟨(some 2), none, true, .mv (.t 20)⟩])
  (.ret)
def burrowref24_routes : AFun := ⟨21, [.mv (.t 2)],
  .seq (.region [⟨(some 1), none, false, .box (.t 0)⟩,
      ⟨(some 2), none, true, .mv (.c (.bl false))⟩])
  (.seq (.seq (.region [⟨(some 5), none, true, .fieldA 7 109 (.t 1)⟩,
        ⟨(some 6), none, true, .load false 1 (.t 5)⟩,
        ⟨(some 7), none, true, .len (.t 6)⟩,
        ⟨(some 8), none, true, .mv (.c (.int .i64 0))⟩])
    (.block 0 (.loop burrowref24_routesl0)))
  burrowref24_routesc1)⟩
/- burrow/burrowref24.slots -/
def burrowref24_slotsl0 : ACode :=
  .seq (.region [⟨(some 60), none, true, .bin .lss .no (.t 59) (.t 58)⟩])
  (.seq (.cond (.t 60)
      (.skip)
      (.exit 2))
  (.seq (.block 3 (.seq (.region [⟨(some 61), none, false, .indexA (.sl 1) (.t 57) (.t 59)⟩,
        ⟨(some 62), none, true, .load false 1 (.t 61)⟩,
        ⟨(some 9), none, true, .mv (.t 62)⟩])
    (.seq (.region [⟨(some 64), none, true, .fieldA 8 110 (.t 1)⟩,
        ⟨(some 65), none, true, .load false 1 (.t 64)⟩,
        ⟨(some 66), none, true, .mv (.t 9)⟩,
        ⟨(some 67), none, false, .call (.c (.fn (.func I.burrowref14_FindSlot) [] [])) [(.t 65), (.t 66)]⟩,
        ⟨(some 63), none, true, .mv (.t 67)⟩,
        ⟨(some 68), none, true, .extract 0 (.t 63)⟩,
        ⟨(some 69), none, true, .extract 1 (.t 63)⟩,
        ⟨(some 10), none, false, .alloc (.st 34 [(.int .u32 0), (.ar 1 32 (zr 32 (.int .u8 0))), (.bl false)])⟩,
        ⟨none, none, false, .store 34 (.t 10) (.t 68)⟩,
        ⟨(some 11), none, true, .mv (.t 69)⟩])
    (.seq (.seq (.region [⟨(some 70), none, true, .mv (.t 11)⟩,
          ⟨(some 71), none, true, .un .not (.t 70)⟩,
          ⟨(some 72), none, true, .mv (.t 71)⟩,
          ⟨(some 73), (some (72, false)), true, .fieldA 2 33 (.t 10)⟩,
          ⟨(some 74), (some (72, false)), true, .load false 1 (.t 73)⟩,
          ⟨(some 75), (some (72, false)), true, .un .not (.t 74)⟩,
          ⟨(some 76), none, true, .pick (.t 72) (.c (.bl true)) (.t 75)⟩,
          ⟨(some 77), none, true, .mv (.t 76)⟩,
          ⟨(some 78), (some (77, false)), true, .fieldA 1 1 (.t 10)⟩,
          ⟨(some 79), (some (77, false)), true, .load true 32 (.t 78)⟩,
          ⟨(some 80), (some (77, false)), true, .fieldA 0 0 (.t 5)⟩,
          ⟨(some 81), (some (77, false)), true, .load true 32 (.t 80)⟩,
          ⟨(some 82), (some (77, false)), true, .bin .neq (.sh (.ar 32 (.i .u8))) (.t 79) (.t 81)⟩,
          ⟨(some 83), none, true, .pick (.t 77) (.c (.bl true)) (.t 82)⟩])
      (.cond (.t 83)
        (.seq (.region [⟨(some 2), none, true, .mv (.c (.bl false))⟩])
        (.ret))
        (.skip)))
    (.region [⟨(some 84), none, true, .mv (.t 3)⟩,
      ⟨(some 85), none, true, .bin .add .no (.t 84) (.c (.int .i64 1))⟩,
      ⟨(some 3), none, true, .mv (.t 85)⟩])))))
  (.region [⟨(some 86), none, true, .bin .add .no (.t 59) (.c (.int .i64 1))⟩,
    ⟨(some 59), none, true, .mv (.t 86)⟩])))
def burrowref24_slotsl1 : ACode :=
  .seq (.region [⟨(some 102), none, true, .bin .lss .no (.t 101) (.t 100)⟩])
  (.seq (.cond (.t 102)
      (.skip)
      (.exit 6))
  (.seq (.block 7 (.seq (.region [⟨(some 103), none, false, .indexA (.sl 1) (.t 99) (.t 101)⟩,
        ⟨(some 104), none, true, .load false 1 (.t 103)⟩,
        ⟨(some 16), none, true, .mv (.t 104)⟩])
    (.seq (.region [⟨(some 105), none, true, .mv (.t 14)⟩,
        ⟨(some 106), none, true, .mv (.t 16)⟩,
        ⟨(some 107), none, true, .bin .eql .no (.t 105) (.t 106)⟩])
    (.cond (.t 107)
      (.seq (.region [⟨(some 2), none, true, .mv (.c (.bl false))⟩])
      (.ret))
      (.skip)))))
  (.region [⟨(some 108), none, true, .bin .add .no (.t 101) (.c (.int .i64 1))⟩,
    ⟨(some 101), none, true, .mv (.t 108)⟩])))
def burrowref24_slotsc2 : ACode :=
  .region [⟨(some 109), none, true, .bin .add .no (.t 92) (.c (.int .i64 1))⟩,
    ⟨(some 92), none, true, .mv (.t 109)⟩]
def burrowref24_slotsl3 : ACode :=
  .seq (.region [⟨(some 93), none, true, .bin .lss .no (.t 92) (.t 91)⟩])
  (.seq (.cond (.t 93)
      (.skip)
      (.exit 4))
  (.seq (.block 5 (.seq (.region [⟨(some 94), none, true, .mv (.t 92)⟩,
        ⟨(some 95), none, false, .indexA (.sl 1) (.t 90) (.t 92)⟩,
        ⟨(some 96), none, true, .load false 1 (.t 95)⟩,
        ⟨(some 13), none, true, .mv (.t 94)⟩,
        ⟨(some 14), none, true, .mv (.t 96)⟩])
    (.seq (.region [⟨(some 97), none, true, .mv (.t 12)⟩,
        ⟨(some 98), none, true, .mv (.t 13)⟩,
        ⟨(some 99), none, false, .slice (.sl 1) (.t 97) none (some (.t 98)) none⟩,
        ⟨(some 100), none, true, .len (.t 99)⟩,
        ⟨(some 101), none, true, .mv (.c (.int .i64 0))⟩])
    (.block 6 (.loop burrowref24_slotsl1)))))
  burrowref24_slotsc2))
def burrowref24_slotsc4 : ACode :=
  .seq (.region [⟨(some 87), none, true, .fieldA 13 232 (.t 5)⟩,
      ⟨(some 88), none, true, .load true 231 (.t 87)⟩,
      ⟨(some 89), none, false, .call (.c (.fn (.func I.burrowref22_Locals) [] [])) [(.t 88)]⟩,
      ⟨(some 12), none, true, .mv (.t 89)⟩])
  (.seq (.region [⟨(some 90), none, true, .mv (.t 12)⟩,
      ⟨(some 91), none, true, .len (.t 90)⟩,
      ⟨(some 92), none, true, .mv (.c (.int .i64 0))⟩])
  (.block 4 (.loop burrowref24_slotsl3)))
def burrowref24_slotsc5 : ACode :=
  .region [⟨(some 110), none, true, .bin .add .no (.t 24) (.c (.int .i64 1))⟩,
    ⟨(some 24), none, true, .mv (.t 110)⟩]
def burrowref24_slotsl6 : ACode :=
  .seq (.region [⟨(some 25), none, true, .bin .lss .no (.t 24) (.t 23)⟩])
  (.seq (.cond (.t 25)
      (.skip)
      (.exit 0))
  (.seq (.block 1 (.seq (.region [⟨(some 26), none, false, .indexA (.sl 464) (.t 22) (.t 24)⟩,
        ⟨(some 27), none, true, .load true 464 (.t 26)⟩,
        ⟨(some 5), none, false, .alloc (.st 464 [(.ar 1 32 (zr 32 (.int .u8 0))), (.ar 1 32 (zr 32 (.int .u8 0))), (.bl false), (.st 18 [(.st 17 [(.bl false), (.ar 1 16 (zr 16 (.int .u8 0)))]), (.int .i64 0)]), (.int .i64 0), (.ar 1 12 (zr 12 (.int .u8 0))), (.bl false), (.int .i64 0), (.st 100 [(.bl false), (.int .u32 0), (.ar 1 32 (zr 32 (.int .u8 0))), (.st 64 [(.ar 1 32 (zr 32 (.int .u8 0))), (.ar 1 32 (zr 32 (.int .u8 0)))]), (.int .i64 0), (.int .i64 0)]), (.bl false), (.ar 1 16 (zr 16 (.int .u8 0))), (.int .i64 0), (.ar 1 16 (zr 16 (.int .u8 0))), (.st 231 [(.st 77 [(.bl false), (.st 76 [(.int .u32 0), (.int .u32 0), (.ar 1 32 (zr 32 (.int .u8 0))), (.ar 1 32 (zr 32 (.int .u8 0))), (.int .u64 0), (.int .u64 0), (.st 6 [(.bl false), (.int .u64 0), (.ar 1 4 (zr 4 (.int .u64 0)))]), (.int .i64 0), (.bl false)])]), (.st 77 [(.bl false), (.st 76 [(.int .u32 0), (.int .u32 0), (.ar 1 32 (zr 32 (.int .u8 0))), (.ar 1 32 (zr 32 (.int .u8 0))), (.int .u64 0), (.int .u64 0), (.st 6 [(.bl false), (.int .u64 0), (.ar 1 4 (zr 4 (.int .u64 0)))]), (.int .i64 0), (.bl false)])]), (.st 77 [(.bl false), (.st 76 [(.int .u32 0), (.int .u32 0), (.ar 1 32 (zr 32 (.int .u8 0))), (.ar 1 32 (zr 32 (.int .u8 0))), (.int .u64 0), (.int .u64 0), (.st 6 [(.bl false), (.int .u64 0), (.ar 1 4 (zr 4 (.int .u64 0)))]), (.int .i64 0), (.bl false)])])]), (.sl 1 [] true)])⟩,
        ⟨none, none, false, .store 464 (.t 5) (.t 27)⟩])
    (.seq (.seq (.region [⟨(some 28), none, true, .fieldA 8 98 (.t 5)⟩,
          ⟨(some 29), none, true, .fieldA 0 0 (.t 28)⟩,
          ⟨(some 30), none, true, .load false 1 (.t 29)⟩])
      (.cond (.t 30)
        (.seq (.region [⟨(some 32), none, true, .fieldA 8 110 (.t 1)⟩,
            ⟨(some 33), none, true, .load false 1 (.t 32)⟩,
            ⟨(some 34), none, true, .fieldA 8 98 (.t 5)⟩,
            ⟨(some 35), none, true, .fieldA 1 1 (.t 34)⟩,
            ⟨(some 36), none, true, .load false 1 (.t 35)⟩,
            ⟨(some 37), none, false, .call (.c (.fn (.func I.burrowref14_FindSlot) [] [])) [(.t 33), (.t 36)]⟩,
            ⟨(some 31), none, true, .mv (.t 37)⟩,
            ⟨(some 38), none, true, .extract 0 (.t 31)⟩,
            ⟨(some 39), none, true, .extract 1 (.t 31)⟩,
            ⟨(some 6), none, false, .alloc (.st 34 [(.int .u32 0), (.ar 1 32 (zr 32 (.int .u8 0))), (.bl false)])⟩,
            ⟨none, none, false, .store 34 (.t 6) (.t 38)⟩,
            ⟨(some 7), none, true, .mv (.t 39)⟩])
        (.seq (.seq (.region [⟨(some 40), none, true, .mv (.t 7)⟩,
              ⟨(some 41), none, true, .un .not (.t 40)⟩,
              ⟨(some 42), none, true, .mv (.t 41)⟩,
              ⟨(some 43), (some (42, false)), true, .fieldA 2 33 (.t 6)⟩,
              ⟨(some 44), (some (42, false)), true, .load false 1 (.t 43)⟩,
              ⟨(some 45), none, true, .pick (.t 42) (.c (.bl true)) (.t 44)⟩,
              ⟨(some 46), none, true, .mv (.t 45)⟩,
              ⟨(some 47), (some (46, false)), true, .fieldA 1 1 (.t 6)⟩,
              ⟨(some 48), (some (46, false)), true, .load true 32 (.t 47)⟩,
              ⟨(some 49), (some (46, false)), true, .fieldA 0 0 (.t 5)⟩,
              ⟨(some 50), (some (46, false)), true, .load true 32 (.t 49)⟩,
              ⟨(some 51), (some (46, false)), true, .bin .neq (.sh (.ar 32 (.i .u8))) (.t 48) (.t 50)⟩,
              ⟨(some 52), none, true, .pick (.t 46) (.c (.bl true)) (.t 51)⟩])
          (.cond (.t 52)
            (.seq (.region [⟨(some 2), none, true, .mv (.c (.bl false))⟩])
            (.ret))
            (.skip)))
        (.region [⟨(some 53), none, true, .mv (.t 3)⟩,
          ⟨(some 54), none, true, .bin .add .no (.t 53) (.c (.int .i64 1))⟩,
          ⟨(some 3), none, true, .mv (.t 54)⟩])))
        (.skip)))
    (.seq (.seq (.region [⟨(some 55), none, true, .fieldA 13 232 (.t 5)⟩,
          ⟨(some 56), none, true, .load true 231 (.t 55)⟩,
          ⟨(some 57), none, false, .call (.c (.fn (.func I.burrowref22_Locals) [] [])) [(.t 56)]⟩,
          ⟨(some 58), none, true, .len (.t 57)⟩,
          ⟨(some 59), none, true, .mv (.c (.int .i64 0))⟩])
      (.block 2 (.loop burrowref24_slotsl0)))
    burrowref24_slotsc4))))
  burrowref24_slotsc5))
def burrowref24_slotsc7 : ACode :=
  .seq (.region [⟨(some 111), none, true, .mv (.t 3)⟩,
      ⟨(some 112), none, true, .fieldA 8 110 (.t 1)⟩,
      ⟨(some 113), none, true, .load false 1 (.t 112)⟩,
      ⟨(some 114), none, true, .len (.t 113)⟩,
      ⟨(some 115), none, true, .bin .eql .no (.t 111) (.t 114)⟩,
      ⟨(some 2), none, true, .mv (.t 115)⟩])
  (.ret)
def burrowref24_slots : AFun := ⟨116, [.mv (.t 2)],
  .seq (.region [⟨(some 1), none, false, .box (.t 0)⟩,
      ⟨(some 2), none, true, .mv (.c (.bl false))⟩])
  (.seq (.seq (.region [⟨(some 17), none, true, .fieldA 8 110 (.t 1)⟩,
        ⟨(some 18), none, true, .load false 1 (.t 17)⟩,
        ⟨(some 19), none, false, .call (.c (.fn (.func I.burrowref14_ValidSlots) [] [])) [(.t 18)]⟩,
        ⟨(some 20), none, true, .un .not (.t 19)⟩])
    (.cond (.t 20)
      (.seq (.region [⟨(some 2), none, true, .mv (.c (.bl false))⟩])
      (.ret))
      (.skip)))
  (.seq (.region [⟨(some 3), none, true, .mv (.c (.int .i64 0))⟩])
  (.seq (.seq (.region [⟨(some 21), none, true, .fieldA 6 108 (.t 1)⟩,
        ⟨(some 22), none, true, .load false 1 (.t 21)⟩,
        ⟨(some 23), none, true, .len (.t 22)⟩,
        ⟨(some 24), none, true, .mv (.c (.int .i64 0))⟩])
    (.block 0 (.loop burrowref24_slotsl6)))
  burrowref24_slotsc7)))⟩
/- burrow/burrowref24.timers -/
def burrowref24_timersl0 : ACode :=
  .seq (.region [⟨(some 16), none, true, .bin .lss .no (.t 15) (.t 14)⟩])
  (.seq (.cond (.t 16)
      (.skip)
      (.exit 0))
  (.seq (.block 1 (.seq (.region [⟨(some 17), none, false, .indexA (.sl 34) (.t 13) (.t 15)⟩,
        ⟨(some 18), none, true, .load true 34 (.t 17)⟩,
        ⟨(some 4), none, false, .alloc (.st 34 [(.int .i64 0), (.ar 1 32 (zr 32 (.int .u8 0))), (.int .i64 0)])⟩,
        ⟨none, none, false, .store 34 (.t 4) (.t 18)⟩])
    (.seq (.region [⟨(some 19), none, true, .load true 148 (.t 1)⟩,
        ⟨(some 20), none, true, .fieldA 1 1 (.t 4)⟩,
        ⟨(some 21), none, true, .load true 32 (.t 20)⟩,
        ⟨(some 22), none, false, .call (.c (.fn (.func I.burrowref24_find) [] [])) [(.t 19), (.t 21)]⟩,
        ⟨(some 5), none, true, .mv (.t 22)⟩])
    (.seq (.region [⟨(some 23), none, true, .fieldA 0 0 (.t 4)⟩,
        ⟨(some 24), none, true, .load false 1 (.t 23)⟩,
        ⟨(some 25), none, true, .fieldA 5 107 (.t 1)⟩,
        ⟨(some 26), none, true, .load false 1 (.t 25)⟩,
        ⟨(some 27), none, true, .bin .leq .no (.t 24) (.t 26)⟩,
        ⟨(some 28), none, true, .mv (.t 27)⟩,
        ⟨(some 29), (some (28, false)), true, .mv (.t 5)⟩,
        ⟨(some 30), (some (28, false)), true, .bin .lss .no (.t 29) (.c (.int .i64 0))⟩,
        ⟨(some 31), none, true, .pick (.t 28) (.c (.bl true)) (.t 30)⟩,
        ⟨(some 32), none, true, .mv (.t 31)⟩,
        ⟨(some 33), (some (32, false)), true, .fieldA 2 33 (.t 4)⟩,
        ⟨(some 34), (some (32, false)), true, .load false 1 (.t 33)⟩,
        ⟨(some 35), (some (32, false)), true, .bin .eql .no (.t 34) (.c (.int .i64 4))⟩,
        ⟨(some 36), (some (32, false)), true, .mv (.t 35)⟩,
        ⟨(some 37), (some (36, true)), true, .fieldA 6 108 (.t 1)⟩,
        ⟨(some 38), (some (36, true)), true, .load false 1 (.t 37)⟩,
        ⟨(some 39), (some (36, true)), true, .mv (.t 5)⟩,
        ⟨(some 40), (some (36, true)), false, .indexA (.sl 464) (.t 38) (.t 39)⟩,
        ⟨(some 41), (some (36, true)), false, .fieldA 4 83 (.t 40)⟩,
        ⟨(some 42), (some (36, true)), false, .load false 1 (.t 41)⟩,
        ⟨(some 43), (some (36, true)), false, .bin .eql .no (.t 42) (.c (.int .i64 0))⟩,
        ⟨(some 44), (some (32, false)), true, .pick (.t 36) (.t 43) (.c (.bl false))⟩,
        ⟨(some 45), none, true, .pick (.t 32) (.c (.bl true)) (.t 44)⟩])
    (.cond (.t 45)
      (.seq (.region [⟨(some 2), none, true, .mv (.c (.bl false))⟩])
      (.ret))
      (.skip))))))
  (.region [⟨(some 46), none, true, .bin .add .no (.t 15) (.c (.int .i64 1))⟩,
    ⟨(some 15), none, true, .mv (.t 46)⟩])))
def burrowref24_timersl1 : ACode :=
  .seq (.region [⟨(some 51), none, true, .bin .lss .no (.t 50) (.t 49)⟩])
  (.seq (.cond (.t 51)
      (.skip)
      (.exit 2))
  (.seq (.block 3 (.seq (.region [⟨(some 52), none, false, .indexA (.sl 464) (.t 48) (.t 50)⟩,
        ⟨(some 53), none, true, .load true 464 (.t 52)⟩,
        ⟨(some 7), none, false, .alloc (.st 464 [(.ar 1 32 (zr 32 (.int .u8 0))), (.ar 1 32 (zr 32 (.int .u8 0))), (.bl false), (.st 18 [(.st 17 [(.bl false), (.ar 1 16 (zr 16 (.int .u8 0)))]), (.int .i64 0)]), (.int .i64 0), (.ar 1 12 (zr 12 (.int .u8 0))), (.bl false), (.int .i64 0), (.st 100 [(.bl false), (.int .u32 0), (.ar 1 32 (zr 32 (.int .u8 0))), (.st 64 [(.ar 1 32 (zr 32 (.int .u8 0))), (.ar 1 32 (zr 32 (.int .u8 0)))]), (.int .i64 0), (.int .i64 0)]), (.bl false), (.ar 1 16 (zr 16 (.int .u8 0))), (.int .i64 0), (.ar 1 16 (zr 16 (.int .u8 0))), (.st 231 [(.st 77 [(.bl false), (.st 76 [(.int .u32 0), (.int .u32 0), (.ar 1 32 (zr 32 (.int .u8 0))), (.ar 1 32 (zr 32 (.int .u8 0))), (.int .u64 0), (.int .u64 0), (.st 6 [(.bl false), (.int .u64 0), (.ar 1 4 (zr 4 (.int .u64 0)))]), (.int .i64 0), (.bl false)])]), (.st 77 [(.bl false), (.st 76 [(.int .u32 0), (.int .u32 0), (.ar 1 32 (zr 32 (.int .u8 0))), (.ar 1 32 (zr 32 (.int .u8 0))), (.int .u64 0), (.int .u64 0), (.st 6 [(.bl false), (.int .u64 0), (.ar 1 4 (zr 4 (.int .u64 0)))]), (.int .i64 0), (.bl false)])]), (.st 77 [(.bl false), (.st 76 [(.int .u32 0), (.int .u32 0), (.ar 1 32 (zr 32 (.int .u8 0))), (.ar 1 32 (zr 32 (.int .u8 0))), (.int .u64 0), (.int .u64 0), (.st 6 [(.bl false), (.int .u64 0), (.ar 1 4 (zr 4 (.int .u64 0)))]), (.int .i64 0), (.bl false)])])]), (.sl 1 [] true)])⟩,
        ⟨none, none, false, .store 464 (.t 7) (.t 53)⟩])
    (.seq (.region [⟨(some 54), none, true, .fieldA 9 111 (.t 1)⟩,
        ⟨(some 55), none, true, .load false 1 (.t 54)⟩,
        ⟨(some 56), none, true, .fieldA 0 0 (.t 7)⟩,
        ⟨(some 57), none, true, .load true 32 (.t 56)⟩,
        ⟨(some 58), none, false, .callq (.c (.fn (.func I.burrowref14_Has) [] [])) [(.t 55), (.t 57), (.c (.int .i64 1))]⟩,
        ⟨(some 59), none, true, .fieldA 8 98 (.t 7)⟩,
        ⟨(some 60), none, true, .fieldA 0 0 (.t 59)⟩,
        ⟨(some 61), none, true, .load false 1 (.t 60)⟩,
        ⟨(some 62), none, true, .bin .neq .bl (.t 58) (.t 61)⟩])
    (.cond (.t 62)
      (.seq (.region [⟨(some 2), none, true, .mv (.c (.bl false))⟩])
      (.ret))
      (.skip)))))
  (.region [⟨(some 63), none, true, .bin .add .no (.t 50) (.c (.int .i64 1))⟩,
    ⟨(some 50), none, true, .mv (.t 63)⟩])))
def burrowref24_timersc2 : ACode :=
  .seq (.region [⟨(some 2), none, true, .mv (.c (.bl true))⟩])
  (.ret)
def burrowref24_timersc3 : ACode :=
  .seq (.seq (.region [⟨(some 47), none, true, .fieldA 6 108 (.t 1)⟩,
        ⟨(some 48), none, true, .load false 1 (.t 47)⟩,
        ⟨(some 49), none, true, .len (.t 48)⟩,
        ⟨(some 50), none, true, .mv (.c (.int .i64 0))⟩])
    (.block 2 (.loop burrowref24_timersl1)))
  burrowref24_timersc2
def burrowref24_timers : AFun := ⟨64, [.mv (.t 2)],
  .seq (.region [⟨(some 1), none, false, .box (.t 0)⟩,
      ⟨(some 2), none, true, .mv (.c (.bl false))⟩])
  (.seq (.seq (.region [⟨(some 8), none, true, .fieldA 9 111 (.t 1)⟩,
        ⟨(some 9), none, true, .load false 1 (.t 8)⟩,
        ⟨(some 10), none, false, .call (.c (.fn (.func I.burrowref14_ValidTimers) [] [])) [(.t 9)]⟩,
        ⟨(some 11), none, true, .un .not (.t 10)⟩])
    (.cond (.t 11)
      (.seq (.region [⟨(some 2), none, true, .mv (.c (.bl false))⟩])
      (.ret))
      (.skip)))
  (.seq (.seq (.region [⟨(some 12), none, true, .fieldA 9 111 (.t 1)⟩,
        ⟨(some 13), none, true, .load false 1 (.t 12)⟩,
        ⟨(some 14), none, true, .len (.t 13)⟩,
        ⟨(some 15), none, true, .mv (.c (.int .i64 0))⟩])
    (.block 0 (.loop burrowref24_timersl0)))
  burrowref24_timersc3))⟩
/- burrow/burrowref24.load -/
def burrowref24_loadl0 : ACode :=
  .seq (.region [⟨(some 28), none, true, .bin .lss .no (.t 27) (.t 26)⟩])
  (.seq (.cond (.t 28)
      (.skip)
      (.exit 0))
  (.seq (.block 1 (.seq (.region [⟨(some 29), none, true, .mv (.t 27)⟩,
        ⟨(some 30), none, false, .indexA (.sl 1) (.t 25) (.t 27)⟩,
        ⟨(some 31), none, true, .load false 1 (.t 30)⟩,
        ⟨(some 3), none, true, .mv (.t 29)⟩,
        ⟨(some 4), none, true, .mv (.t 31)⟩])
    (.seq (.region [⟨(some 32), none, true, .load true 148 (.t 1)⟩,
        ⟨(some 33), none, true, .mv (.t 4)⟩,
        ⟨(some 34), none, false, .call (.c (.fn (.func I.burrowref24_past) [] [])) [(.t 32), (.t 33)]⟩,
        ⟨(some 35), none, true, .un .not (.t 34)⟩,
        ⟨(some 36), none, true, .mv (.t 35)⟩,
        ⟨(some 37), (some (36, false)), true, .mv (.t 3)⟩,
        ⟨(some 38), (some (36, false)), true, .bin .gtr .no (.t 37) (.c (.int .i64 0))⟩,
        ⟨(some 39), (some (36, false)), true, .mv (.t 38)⟩,
        ⟨(some 40), (some (39, true)), true, .mv (.t 4)⟩,
        ⟨(some 41), (some (39, true)), true, .fieldA 12 145 (.t 1)⟩,
        ⟨(some 42), (some (39, true)), true, .load false 1 (.t 41)⟩,
        ⟨(some 43), (some (39, true)), true, .mv (.t 3)⟩,
        ⟨(some 44), (some (39, true)), true, .bin .sub .no (.t 43) (.c (.int .i64 1))⟩,
        ⟨(some 45), (some (39, true)), false, .indexA (.sl 1) (.t 42) (.t 44)⟩,
        ⟨(some 46), (some (39, true)), false, .load false 1 (.t 45)⟩,
        ⟨(some 47), (some (39, true)), false, .bin .lss .no (.t 40) (.t 46)⟩,
        ⟨(some 48), (some (36, false)), true, .pick (.t 39) (.t 47) (.c (.bl false))⟩,
        ⟨(some 49), none, true, .pick (.t 36) (.c (.bl true)) (.t 48)⟩])
    (.cond (.t 49)
      (.seq (.region [⟨(some 2), none, true, .mv (.c (.bl false))⟩])
      (.ret))
      (.skip)))))
  (.region [⟨(some 50), none, true, .bin .add .no (.t 27) (.c (.int .i64 1))⟩,
    ⟨(some 27), none, true, .mv (.t 50)⟩])))
def burrowref24_loadl1 : ACode :=
  .seq (.region [⟨(some 55), none, true, .bin .lss .no (.t 54) (.t 53)⟩])
  (.seq (.cond (.t 55)
      (.skip)
      (.exit 2))
  (.seq (.block 3 (.seq (.region [⟨(some 56), none, true, .mv (.t 54)⟩,
        ⟨(some 57), none, false, .indexA (.sl 19) (.t 52) (.t 54)⟩,
        ⟨(some 58), none, true, .load true 19 (.t 57)⟩,
        ⟨(some 6), none, false, .alloc (.st 19 [(.st 17 [(.bl false), (.ar 1 16 (zr 16 (.int .u8 0)))]), (.int .i64 0), (.int .i64 0)])⟩,
        ⟨(some 5), none, true, .mv (.t 56)⟩,
        ⟨none, none, false, .store 19 (.t 6) (.t 58)⟩])
    (.seq (.region [⟨(some 59), none, true, .fieldA 0 0 (.t 6)⟩,
        ⟨(some 60), none, true, .load true 17 (.t 59)⟩,
        ⟨(some 61), none, false, .callq (.c (.fn (.func I.burrowref09_Sound) [] [])) [(.t 60)]⟩,
        ⟨(some 62), none, true, .un .not (.t 61)⟩,
        ⟨(some 63), none, true, .mv (.t 62)⟩,
        ⟨(some 64), (some (63, false)), true, .fieldA 1 17 (.t 6)⟩,
        ⟨(some 65), (some (63, false)), true, .load false 1 (.t 64)⟩,
        ⟨(some 66), (some (63, false)), false, .callq (.c (.fn (.func I.burrowref24_within) [] [])) [(.t 65), (.c (.int .i64 0)), (.c (.int .i64 5000))]⟩,
        ⟨(some 67), (some (63, false)), false, .un .not (.t 66)⟩,
        ⟨(some 68), none, true, .pick (.t 63) (.c (.bl true)) (.t 67)⟩,
        ⟨(some 69), none, true, .mv (.t 68)⟩,
        ⟨(some 70), (some (69, false)), true, .load true 148 (.t 1)⟩,
        ⟨(some 71), (some (69, false)), true, .fieldA 2 18 (.t 6)⟩,
        ⟨(some 72), (some (69, false)), true, .load false 1 (.t 71)⟩,
        ⟨(some 73), (some (69, false)), false, .callq (.c (.fn (.func I.burrowref24_past) [] [])) [(.t 70), (.t 72)]⟩,
        ⟨(some 74), (some (69, false)), false, .un .not (.t 73)⟩,
        ⟨(some 75), none, true, .pick (.t 69) (.c (.bl true)) (.t 74)⟩,
        ⟨(some 76), none, true, .mv (.t 75)⟩,
        ⟨(some 77), (some (76, false)), true, .mv (.t 5)⟩,
        ⟨(some 78), (some (76, false)), true, .bin .gtr .no (.t 77) (.c (.int .i64 0))⟩,
        ⟨(some 79), (some (76, false)), true, .mv (.t 78)⟩,
        ⟨(some 80), (some (79, true)), true, .fieldA 13 146 (.t 1)⟩,
        ⟨(some 81), (some (79, true)), true, .load false 1 (.t 80)⟩,
        ⟨(some 82), (some (79, true)), true, .mv (.t 5)⟩,
        ⟨(some 83), (some (79, true)), true, .bin .sub .no (.t 82) (.c (.int .i64 1))⟩,
        ⟨(some 84), (some (79, true)), false, .indexA (.sl 19) (.t 81) (.t 83)⟩,
        ⟨(some 85), (some (79, true)), false, .fieldA 0 0 (.t 84)⟩,
        ⟨(some 86), (some (79, true)), false, .load true 17 (.t 85)⟩,
        ⟨(some 87), (some (79, true)), true, .fieldA 0 0 (.t 6)⟩,
        ⟨(some 88), (some (79, true)), true, .load true 17 (.t 87)⟩,
        ⟨(some 89), (some (79, true)), false, .callq (.c (.fn (.func I.burrowref09_Less) [] [])) [(.t 86), (.t 88)]⟩,
        ⟨(some 90), (some (79, true)), false, .un .not (.t 89)⟩,
        ⟨(some 91), (some (76, false)), true, .pick (.t 79) (.t 90) (.c (.bl false))⟩,
        ⟨(some 92), none, true, .pick (.t 76) (.c (.bl true)) (.t 91)⟩])
    (.cond (.t 92)
      (.seq (.region [⟨(some 2), none, true, .mv (.c (.bl false))⟩])
      (.ret))
      (.skip)))))
  (.region [⟨(some 93), none, true, .bin .add .no (.t 54) (.c (.int .i64 1))⟩,
    ⟨(some 54), none, true, .mv (.t 93)⟩])))
def burrowref24_loadc2 : ACode :=
  .seq (.region [⟨(some 2), none, true, .mv (.c (.bl true))⟩])
  (.ret)
def burrowref24_loadc3 : ACode :=
  .seq (.seq (.region [⟨(some 51), none, true, .fieldA 13 146 (.t 1)⟩,
        ⟨(some 52), none, true, .load false 1 (.t 51)⟩,
        ⟨(some 53), none, true, .len (.t 52)⟩,
        ⟨(some 54), none, true, .mv (.c (.int .i64 0))⟩])
    (.block 2 (.loop burrowref24_loadl1)))
  burrowref24_loadc2
def burrowref24_load : AFun := ⟨94, [.mv (.t 2)],
  .seq (.region [⟨(some 1), none, false, .box (.t 0)⟩,
      ⟨(some 2), none, true, .mv (.c (.bl false))⟩])
  (.seq (.seq (.region [⟨(some 7), none, true, .load true 148 (.t 1)⟩,
        ⟨(some 8), none, true, .fieldA 11 144 (.t 1)⟩,
        ⟨(some 9), none, true, .load false 1 (.t 8)⟩,
        ⟨(some 10), none, false, .call (.c (.fn (.func I.burrowref24_past) [] [])) [(.t 7), (.t 9)]⟩,
        ⟨(some 11), none, true, .un .not (.t 10)⟩,
        ⟨(some 12), none, true, .mv (.t 11)⟩,
        ⟨(some 13), (some (12, false)), true, .fieldA 12 145 (.t 1)⟩,
        ⟨(some 14), (some (12, false)), true, .load false 1 (.t 13)⟩,
        ⟨(some 15), (some (12, false)), true, .len (.t 14)⟩,
        ⟨(some 16), (some (12, false)), true, .bin .gtr .no (.t 15) (.c (.int .i64 64))⟩,
        ⟨(some 17), none, true, .pick (.t 12) (.c (.bl true)) (.t 16)⟩,
        ⟨(some 18), none, true, .mv (.t 17)⟩,
        ⟨(some 19), (some (18, false)), true, .fieldA 13 146 (.t 1)⟩,
        ⟨(some 20), (some (18, false)), true, .load false 1 (.t 19)⟩,
        ⟨(some 21), (some (18, false)), true, .len (.t 20)⟩,
        ⟨(some 22), (some (18, false)), true, .bin .gtr .no (.t 21) (.c (.int .i64 16))⟩,
        ⟨(some 23), none, true, .pick (.t 18) (.c (.bl true)) (.t 22)⟩])
    (.cond (.t 23)
      (.seq (.region [⟨(some 2), none, true, .mv (.c (.bl false))⟩])
      (.ret))
      (.skip)))
  (.seq (.seq (.region [⟨(some 24), none, true, .fieldA 12 145 (.t 1)⟩,
        ⟨(some 25), none, true, .load false 1 (.t 24)⟩,
        ⟨(some 26), none, true, .len (.t 25)⟩,
        ⟨(some 27), none, true, .mv (.c (.int .i64 0))⟩])
    (.block 0 (.loop burrowref24_loadl0)))
  burrowref24_loadc3))⟩
/- burrow/burrowref24.fields -/
def burrowref24_fieldsl0 : ACode :=
  .seq (.region [⟨(some 85), none, true, .bin .lss .no (.t 84) (.t 83)⟩])
  (.seq (.cond (.t 85)
      (.skip)
      (.exit 0))
  (.seq (.block 1 (.seq (.region [⟨(some 86), none, false, .indexA (.sl 1) (.t 82) (.t 84)⟩,
        ⟨(some 87), none, true, .load false 1 (.t 86)⟩,
        ⟨(some 6), none, true, .mv (.t 87)⟩])
    (.seq (.region [⟨(some 89), none, true, .mv (.t 6)⟩,
        ⟨(some 90), none, false, .call (.c (.fn (.func I.burrowref09_Check) [] [])) [(.t 89)]⟩,
        ⟨(some 88), none, true, .mv (.t 90)⟩,
        ⟨(some 91), none, true, .extract 0 (.t 88)⟩,
        ⟨(some 92), none, true, .extract 1 (.t 88)⟩,
        ⟨(some 7), none, false, .alloc (.st 35 [(.st 17 [(.bl false), (.ar 1 16 (zr 16 (.int .u8 0)))]), (.st 17 [(.bl false), (.ar 1 16 (zr 16 (.int .u8 0)))]), (.int .i64 0)])⟩,
        ⟨none, none, false, .store 35 (.t 7) (.t 91)⟩,
        ⟨(some 8), none, true, .mv (.t 92)⟩])
    (.seq (.region [⟨(some 93), none, true, .mv (.t 8)⟩,
        ⟨(some 94), none, true, .bin .neq .no (.t 93) (.c (.int .i64 0))⟩,
        ⟨(some 95), none, true, .mv (.t 94)⟩,
        ⟨(some 96), (some (95, false)), true, .fieldA 2 34 (.t 7)⟩,
        ⟨(some 97), (some (95, false)), true, .load false 1 (.t 96)⟩,
        ⟨(some 98), (some (95, false)), true, .mv (.t 6)⟩,
        ⟨(some 99), (some (95, false)), true, .len (.t 98)⟩,
        ⟨(some 100), (some (95, false)), true, .bin .neq .no (.t 97) (.t 99)⟩,
        ⟨(some 101), none, true, .pick (.t 95) (.c (.bl true)) (.t 100)⟩])
    (.cond (.t 101)
      (.seq (.region [⟨(some 4), none, true, .mv (.c (.bl false))⟩])
      (.ret))
      (.skip))))))
  (.region [⟨(some 102), none, true, .bin .add .no (.t 84) (.c (.int .i64 1))⟩,
    ⟨(some 84), none, true, .mv (.t 102)⟩])))
def burrowref24_fieldsc1 : ACode :=
  .seq (.region [⟨(some 4), none, true, .mv (.c (.bl true))⟩])
  (.ret)
def burrowref24_fields : AFun := ⟨103, [.mv (.t 4)],
  .seq (.region [⟨(some 2), none, false, .box (.t 0)⟩,
      ⟨(some 3), none, false, .box (.t 1)⟩,
      ⟨(some 4), none, true, .mv (.c (.bl false))⟩])
  (.seq (.seq (.region [⟨(some 9), none, true, .fieldA 2 64 (.t 3)⟩,
        ⟨(some 10), none, true, .load false 1 (.t 9)⟩,
        ⟨(some 11), none, true, .mv (.t 10)⟩,
        ⟨(some 12), (some (11, true)), true, .fieldA 3 65 (.t 3)⟩,
        ⟨(some 13), (some (11, true)), true, .load true 18 (.t 12)⟩,
        ⟨(some 14), (some (11, true)), false, .call (.c (.fn (.func I.burrowref13_FormatEndpoint) [] [])) [(.t 13)]⟩,
        ⟨(some 15), (some (11, true)), false, .bin .eql .no (.t 14) (.c (.str []))⟩,
        ⟨(some 16), none, true, .pick (.t 11) (.t 15) (.c (.bl false))⟩,
        ⟨(some 17), none, true, .mv (.t 16)⟩,
        ⟨(some 18), (some (17, false)), true, .fieldA 2 64 (.t 3)⟩,
        ⟨(some 19), (some (17, false)), true, .load false 1 (.t 18)⟩,
        ⟨(some 20), (some (17, false)), true, .un .not (.t 19)⟩,
        ⟨(some 21), (some (17, false)), true, .mv (.t 20)⟩,
        ⟨(some 22), (some (21, true)), true, .fieldA 3 65 (.t 3)⟩,
        ⟨(some 23), (some (21, true)), true, .load true 18 (.t 22)⟩,
        ⟨(some 24), (some (21, true)), false, .build (.st 18 [(.st 17 [(.bl false), (.ar 1 16 (zr 16 (.int .u8 0)))]), (.int .i64 0)]) []⟩,
        ⟨(some 25), (some (21, true)), false, .bin .neq (.sh (.st [(.st [.b, (.ar 16 (.i .u8))]), (.i .i64)])) (.t 23) (.t 24)⟩,
        ⟨(some 26), (some (17, false)), true, .pick (.t 21) (.t 25) (.c (.bl false))⟩,
        ⟨(some 27), none, true, .pick (.t 17) (.c (.bl true)) (.t 26)⟩,
        ⟨(some 28), none, true, .mv (.t 27)⟩,
        ⟨(some 29), (some (28, false)), true, .fieldA 4 83 (.t 3)⟩,
        ⟨(some 30), (some (28, false)), true, .load false 1 (.t 29)⟩,
        ⟨(some 31), (some (28, false)), false, .call (.c (.fn (.func I.burrowref13_Timed) [] [])) [(.t 30)]⟩,
        ⟨(some 32), (some (28, false)), false, .un .not (.t 31)⟩,
        ⟨(some 33), none, true, .pick (.t 28) (.c (.bl true)) (.t 32)⟩])
    (.cond (.t 33)
      (.seq (.region [⟨(some 4), none, true, .mv (.c (.bl false))⟩])
      (.ret))
      (.skip)))
  (.seq (.seq (.region [⟨(some 34), none, true, .load true 148 (.t 2)⟩,
        ⟨(some 35), none, true, .fieldA 7 97 (.t 3)⟩,
        ⟨(some 36), none, true, .load false 1 (.t 35)⟩,
        ⟨(some 37), none, false, .call (.c (.fn (.func I.burrowref24_past) [] [])) [(.t 34), (.t 36)]⟩,
        ⟨(some 38), none, true, .un .not (.t 37)⟩,
        ⟨(some 39), none, true, .mv (.t 38)⟩,
        ⟨(some 40), (some (39, false)), true, .fieldA 6 96 (.t 3)⟩,
        ⟨(some 41), (some (39, false)), true, .load false 1 (.t 40)⟩,
        ⟨(some 42), (some (39, false)), true, .un .not (.t 41)⟩,
        ⟨(some 43), (some (39, false)), true, .mv (.t 42)⟩,
        ⟨(some 44), (some (43, true)), true, .fieldA 7 97 (.t 3)⟩,
        ⟨(some 45), (some (43, true)), true, .load false 1 (.t 44)⟩,
        ⟨(some 46), (some (43, true)), true, .bin .neq .no (.t 45) (.c (.int .i64 0))⟩,
        ⟨(some 47), (some (39, false)), true, .pick (.t 43) (.t 46) (.c (.bl false))⟩,
        ⟨(some 48), none, true, .pick (.t 39) (.c (.bl true)) (.t 47)⟩,
        ⟨(some 49), none, true, .mv (.t 48)⟩,
        ⟨(some 50), (some (49, false)), true, .load true 148 (.t 2)⟩,
        ⟨(some 51), (some (49, false)), true, .fieldA 11 215 (.t 3)⟩,
        ⟨(some 52), (some (49, false)), true, .load false 1 (.t 51)⟩,
        ⟨(some 53), (some (49, false)), false, .call (.c (.fn (.func I.burrowref24_past) [] [])) [(.t 50), (.t 52)]⟩,
        ⟨(some 54), (some (49, false)), false, .un .not (.t 53)⟩,
        ⟨(some 55), none, true, .pick (.t 49) (.c (.bl true)) (.t 54)⟩,
        ⟨(some 56), none, true, .mv (.t 55)⟩,
        ⟨(some 57), (some (56, false)), true, .fieldA 9 198 (.t 3)⟩,
        ⟨(some 58), (some (56, false)), true, .load false 1 (.t 57)⟩,
        ⟨(some 59), (some (56, false)), true, .un .not (.t 58)⟩,
        ⟨(some 60), (some (56, false)), true, .mv (.t 59)⟩,
        ⟨(some 61), (some (60, true)), true, .fieldA 11 215 (.t 3)⟩,
        ⟨(some 62), (some (60, true)), true, .load false 1 (.t 61)⟩,
        ⟨(some 63), (some (60, true)), true, .bin .neq .no (.t 62) (.c (.int .i64 0))⟩,
        ⟨(some 64), (some (60, true)), true, .mv (.t 63)⟩,
        ⟨(some 65), (some (64, false)), true, .fieldA 10 199 (.t 3)⟩,
        ⟨(some 66), (some (64, false)), true, .load true 16 (.t 65)⟩,
        ⟨(some 67), (some (64, false)), false, .build (.ar 1 16 (zr 16 (.int .u8 0))) []⟩,
        ⟨(some 68), (some (64, false)), false, .bin .neq (.sh (.ar 16 (.i .u8))) (.t 66) (.t 67)⟩,
        ⟨(some 69), (some (60, true)), true, .pick (.t 64) (.c (.bl true)) (.t 68)⟩,
        ⟨(some 70), (some (56, false)), true, .pick (.t 60) (.t 69) (.c (.bl false))⟩,
        ⟨(some 71), none, true, .pick (.t 56) (.c (.bl true)) (.t 70)⟩,
        ⟨(some 72), none, true, .mv (.t 71)⟩,
        ⟨(some 73), (some (72, false)), true, .fieldA 14 463 (.t 3)⟩,
        ⟨(some 74), (some (72, false)), true, .load false 1 (.t 73)⟩,
        ⟨(some 75), (some (72, false)), true, .len (.t 74)⟩,
        ⟨(some 76), (some (72, false)), true, .fieldA 0 0 (.t 2)⟩,
        ⟨(some 77), (some (72, false)), true, .fieldA 9 9 (.t 76)⟩,
        ⟨(some 78), (some (72, false)), true, .load false 1 (.t 77)⟩,
        ⟨(some 79), (some (72, false)), true, .bin .gtr .no (.t 75) (.t 78)⟩,
        ⟨(some 80), none, true, .pick (.t 72) (.c (.bl true)) (.t 79)⟩])
    (.cond (.t 80)
      (.seq (.region [⟨(some 4), none, true, .mv (.c (.bl false))⟩])
      (.ret))
      (.skip)))
  (.seq (.seq (.region [⟨(some 81), none, true, .fieldA 14 463 (.t 3)⟩,
        ⟨(some 82), none, true, .load false 1 (.t 81)⟩,
        ⟨(some 83), none, true, .len (.t 82)⟩,
        ⟨(some 84), none, true, .mv (.c (.int .i64 0))⟩])
    (.block 0 (.loop burrowref24_fieldsl0)))
  burrowref24_fieldsc1)))⟩
/- burrow/burrowref24.hand -/

def burrowref24_hand : AFun := ⟨35, [.mv (.t 4)],
  .seq (.region [⟨(some 2), none, false, .box (.t 0)⟩,
      ⟨(some 3), none, false, .box (.t 1)⟩,
      ⟨(some 4), none, true, .mv (.c (.bl false))⟩])
  (.seq (.region [⟨(some 6), none, true, .fieldA 8 98 (.t 3)⟩,
      ⟨(some 7), none, true, .load true 100 (.t 6)⟩,
      ⟨(some 5), none, false, .alloc (.st 100 [(.bl false), (.int .u32 0), (.ar 1 32 (zr 32 (.int .u8 0))), (.st 64 [(.ar 1 32 (zr 32 (.int .u8 0))), (.ar 1 32 (zr 32 (.int .u8 0)))]), (.int .i64 0), (.int .i64 0)])⟩,
      ⟨none, none, false, .store 100 (.t 5) (.t 7)⟩])
  (.seq (.seq (.region [⟨(some 8), none, true, .fieldA 0 0 (.t 5)⟩,
        ⟨(some 9), none, true, .load false 1 (.t 8)⟩,
        ⟨(some 10), none, true, .un .not (.t 9)⟩])
    (.cond (.t 10)
      (.seq (.region [⟨(some 11), none, true, .load true 100 (.t 5)⟩,
          ⟨(some 12), none, false, .build (.st 100 [(.bl false), (.int .u32 0), (.ar 1 32 (zr 32 (.int .u8 0))), (.st 64 [(.ar 1 32 (zr 32 (.int .u8 0))), (.ar 1 32 (zr 32 (.int .u8 0)))]), (.int .i64 0), (.int .i64 0)]) []⟩,
          ⟨(some 13), none, true, .bin .eql (.sh (.st [.b, (.i .u32), (.ar 32 (.i .u8)), (.st [(.ar 32 (.i .u8)), (.ar 32 (.i .u8))]), (.i .i64), (.i .i64)])) (.t 11) (.t 12)⟩,
          ⟨(some 4), none, true, .mv (.t 13)⟩])
      (.ret))
      (.skip)))
  (.seq (.region [⟨(some 14), none, true, .fieldA 4 98 (.t 5)⟩,
      ⟨(some 15), none, true, .load false 1 (.t 14)⟩,
      ⟨(some 16), none, true, .fieldA 5 99 (.t 5)⟩,
      ⟨(some 17), none, true, .load false 1 (.t 16)⟩,
      ⟨(some 18), none, true, .bin .leq .no (.t 15) (.t 17)⟩,
      ⟨(some 19), none, true, .mv (.t 18)⟩,
      ⟨(some 20), (some (19, true)), true, .load true 148 (.t 2)⟩,
      ⟨(some 21), (some (19, true)), true, .fieldA 4 98 (.t 5)⟩,
      ⟨(some 22), (some (19, true)), true, .load false 1 (.t 21)⟩,
      ⟨(some 23), (some (19, true)), false, .call (.c (.fn (.func I.burrowref24_past) [] [])) [(.t 20), (.t 22)]⟩,
      ⟨(some 24), none, true, .pick (.t 19) (.t 23) (.c (.bl false))⟩,
      ⟨(some 25), none, true, .mv (.t 24)⟩,
      ⟨(some 26), (some (25, true)), true, .load true 148 (.t 2)⟩,
      ⟨(some 27), (some (25, true)), true, .fieldA 5 99 (.t 5)⟩,
      ⟨(some 28), (some (25, true)), true, .load false 1 (.t 27)⟩,
      ⟨(some 29), (some (25, true)), false, .call (.c (.fn (.func I.burrowref24_past) [] [])) [(.t 26), (.t 28)]⟩,
      ⟨(some 30), none, true, .pick (.t 25) (.t 29) (.c (.bl false))⟩,
      ⟨(some 31), none, true, .mv (.t 30)⟩,
      ⟨(some 32), (some (31, true)), true, .fieldA 2 64 (.t 3)⟩,
      ⟨(some 33), (some (31, true)), true, .load false 1 (.t 32)⟩,
      ⟨(some 34), none, true, .pick (.t 31) (.t 33) (.c (.bl false))⟩,
      ⟨(some 4), none, true, .mv (.t 34)⟩])
  (.ret))))⟩
/- burrow/burrowref24.ring -/
def burrowref24_ringl0 : ACode :=
  .seq (.seq (.region [⟨(some 7), none, true, .mv (.t 5)⟩,
        ⟨(some 8), none, true, .bin .leq .no (.t 7) (.c (.int .i64 3))⟩])
    (.cond (.t 8)
      (.skip)
      (.exit 0)))
  (.seq (.block 1 (.seq (.region [⟨(some 11), none, true, .fieldA 13 232 (.t 3)⟩,
        ⟨(some 12), none, true, .load true 231 (.t 11)⟩,
        ⟨(some 13), none, true, .mv (.t 5)⟩,
        ⟨(some 14), none, false, .call (.c (.fn (.func I.burrowref22_Get) [] [])) [(.t 12), (.t 13)]⟩,
        ⟨(some 6), none, false, .alloc (.st 77 [(.bl false), (.st 76 [(.int .u32 0), (.int .u32 0), (.ar 1 32 (zr 32 (.int .u8 0))), (.ar 1 32 (zr 32 (.int .u8 0))), (.int .u64 0), (.int .u64 0), (.st 6 [(.bl false), (.int .u64 0), (.ar 1 4 (zr 4 (.int .u64 0)))]), (.int .i64 0), (.bl false)])])⟩,
        ⟨none, none, false, .store 77 (.t 6) (.t 14)⟩])
    (.seq (.region [⟨(some 15), none, true, .fieldA 0 0 (.t 6)⟩,
        ⟨(some 16), none, true, .load false 1 (.t 15)⟩,
        ⟨(some 17), none, true, .mv (.t 16)⟩,
        ⟨(some 18), (some (17, true)), true, .load true 148 (.t 2)⟩,
        ⟨(some 19), (some (17, true)), true, .fieldA 1 1 (.t 6)⟩,
        ⟨(some 20), (some (17, true)), true, .load true 76 (.t 19)⟩,
        ⟨(some 21), (some (17, true)), false, .call (.c (.fn (.func I.burrowref24_sound) [] [])) [(.t 18), (.t 20)]⟩,
        ⟨(some 22), (some (17, true)), false, .un .not (.t 21)⟩,
        ⟨(some 23), none, true, .pick (.t 17) (.t 22) (.c (.bl false))⟩,
        ⟨(some 24), none, true, .mv (.t 23)⟩,
        ⟨(some 25), (some (24, false)), true, .fieldA 0 0 (.t 6)⟩,
        ⟨(some 26), (some (24, false)), true, .load false 1 (.t 25)⟩,
        ⟨(some 27), (some (24, false)), true, .un .not (.t 26)⟩,
        ⟨(some 28), (some (24, false)), true, .mv (.t 27)⟩,
        ⟨(some 29), (some (28, true)), true, .load true 77 (.t 6)⟩,
        ⟨(some 30), (some (28, true)), false, .build (.st 77 [(.bl false), (.st 76 [(.int .u32 0), (.int .u32 0), (.ar 1 32 (zr 32 (.int .u8 0))), (.ar 1 32 (zr 32 (.int .u8 0))), (.int .u64 0), (.int .u64 0), (.st 6 [(.bl false), (.int .u64 0), (.ar 1 4 (zr 4 (.int .u64 0)))]), (.int .i64 0), (.bl false)])]) []⟩,
        ⟨(some 31), (some (28, true)), false, .bin .neq (.sh (.st [.b, (.st [(.i .u32), (.i .u32), (.ar 32 (.i .u8)), (.ar 32 (.i .u8)), (.i .u64), (.i .u64), (.st [.b, (.i .u64), (.ar 4 (.i .u64))]), (.i .i64), .b])])) (.t 29) (.t 30)⟩,
        ⟨(some 32), (some (24, false)), true, .pick (.t 28) (.t 31) (.c (.bl false))⟩,
        ⟨(some 33), none, true, .pick (.t 24) (.c (.bl true)) (.t 32)⟩])
    (.cond (.t 33)
      (.seq (.region [⟨(some 4), none, true, .mv (.c (.bl false))⟩])
      (.ret))
      (.skip)))))
  (.region [⟨(some 9), none, true, .mv (.t 5)⟩,
    ⟨(some 10), none, true, .bin .add .no (.t 9) (.c (.int .i64 1))⟩,
    ⟨(some 5), none, true, .mv (.t 10)⟩]))
def burrowref24_ringc1 : ACode :=
  .seq (.region [⟨(some 4), none, true, .mv (.c (.bl true))⟩])
  (.ret)
def burrowref24_ring : AFun := ⟨34, [.mv (.t 4)],
  .seq (.region [⟨(some 2), none, false, .box (.t 0)⟩,
      ⟨(some 3), none, false, .box (.t 1)⟩,
      ⟨(some 4), none, true, .mv (.c (.bl false))⟩])
  (.seq (.seq (.region [⟨(some 5), none, true, .mv (.c (.int .i64 1))⟩])
    (.block 0 (.loop burrowref24_ringl0)))
  burrowref24_ringc1)⟩
/- burrow/burrowref14.ValidRoutes -/
def burrowref14_ValidRoutesl0 : ACode :=
  .seq (.region [⟨(some 8), none, true, .bin .lss .no (.t 7) (.t 6)⟩])
  (.seq (.cond (.t 8)
      (.skip)
      (.exit 0))
  (.seq (.block 1 (.seq (.region [⟨(some 9), none, true, .mv (.t 7)⟩,
        ⟨(some 10), none, false, .indexA (.sl 50) (.t 5) (.t 7)⟩,
        ⟨(some 11), none, true, .load true 50 (.t 10)⟩,
        ⟨(some 4), none, false, .alloc (.st 50 [(.st 18 [(.st 17 [(.bl false), (.ar 1 16 (zr 16 (.int .u8 0)))]), (.int .i64 0)]), (.ar 1 32 (zr 32 (.int .u8 0)))])⟩,
        ⟨(some 3), none, true, .mv (.t 9)⟩,
        ⟨none, none, false, .store 50 (.t 4) (.t 11)⟩])
    (.seq (.region [⟨(some 12), none, true, .fieldA 0 0 (.t 4)⟩,
        ⟨(some 13), none, true, .load true 18 (.t 12)⟩,
        ⟨(some 14), none, false, .callq (.c (.fn (.func I.burrowref09_Valid) [] [])) [(.t 13)]⟩,
        ⟨(some 15), none, true, .un .not (.t 14)⟩,
        ⟨(some 16), none, true, .mv (.t 15)⟩,
        ⟨(some 17), (some (16, false)), true, .mv (.t 3)⟩,
        ⟨(some 18), (some (16, false)), true, .bin .gtr .no (.t 17) (.c (.int .i64 0))⟩,
        ⟨(some 19), (some (16, false)), true, .mv (.t 18)⟩,
        ⟨(some 20), (some (19, true)), true, .mv (.t 0)⟩,
        ⟨(some 21), (some (19, true)), true, .mv (.t 3)⟩,
        ⟨(some 22), (some (19, true)), true, .bin .sub .no (.t 21) (.c (.int .i64 1))⟩,
        ⟨(some 23), (some (19, true)), false, .indexA (.sl 50) (.t 20) (.t 22)⟩,
        ⟨(some 24), (some (19, true)), false, .fieldA 0 0 (.t 23)⟩,
        ⟨(some 25), (some (19, true)), false, .load true 18 (.t 24)⟩,
        ⟨(some 26), (some (19, true)), true, .fieldA 0 0 (.t 4)⟩,
        ⟨(some 27), (some (19, true)), true, .load true 18 (.t 26)⟩,
        ⟨(some 28), (some (19, true)), false, .callq (.c (.fn (.func I.burrowref14_before) [] [])) [(.t 25), (.t 27)]⟩,
        ⟨(some 29), (some (19, true)), false, .un .not (.t 28)⟩,
        ⟨(some 30), (some (16, false)), true, .pick (.t 19) (.t 29) (.c (.bl false))⟩,
        ⟨(some 31), none, true, .pick (.t 16) (.c (.bl true)) (.t 30)⟩])
    (.cond (.t 31)
      (.seq (.region [⟨(some 2), none, true, .mv (.c (.bl false))⟩])
      (.ret))
      (.skip)))))
  (.region [⟨(some 32), none, true, .bin .add .no (.t 7) (.c (.int .i64 1))⟩,
    ⟨(some 7), none, true, .mv (.t 32)⟩])))
def burrowref14_ValidRoutesc1 : ACode :=
  .seq (.region [⟨(some 33), none, true, .mv (.t 0)⟩,
      ⟨(some 34), none, true, .len (.t 33)⟩,
      ⟨(some 35), none, true, .bin .leq .no (.t 34) (.c (.int .i64 16))⟩,
      ⟨(some 2), none, true, .mv (.t 35)⟩])
  (.ret)
def burrowref14_ValidRoutes : AFun := ⟨36, [.mv (.t 2)],
  .seq (.region [⟨(some 2), none, true, .mv (.c (.bl false))⟩])
  (.seq (.seq (.region [⟨(some 5), none, true, .mv (.t 0)⟩,
        ⟨(some 6), none, true, .len (.t 5)⟩,
        ⟨(some 7), none, true, .mv (.c (.int .i64 0))⟩])
    (.block 0 (.loop burrowref14_ValidRoutesl0)))
  burrowref14_ValidRoutesc1)⟩
/- burrow/burrowref14.ValidSlots -/
def burrowref14_ValidSlotsl0 : ACode :=
  .seq (.region [⟨(some 8), none, true, .bin .lss .no (.t 7) (.t 6)⟩])
  (.seq (.cond (.t 8)
      (.skip)
      (.exit 0))
  (.seq (.block 1 (.seq (.region [⟨(some 9), none, true, .mv (.t 7)⟩,
        ⟨(some 10), none, false, .indexA (.sl 34) (.t 5) (.t 7)⟩,
        ⟨(some 11), none, true, .load true 34 (.t 10)⟩,
        ⟨(some 4), none, false, .alloc (.st 34 [(.int .u32 0), (.ar 1 32 (zr 32 (.int .u8 0))), (.bl false)])⟩,
        ⟨(some 3), none, true, .mv (.t 9)⟩,
        ⟨none, none, false, .store 34 (.t 4) (.t 11)⟩])
    (.seq (.region [⟨(some 12), none, true, .fieldA 0 0 (.t 4)⟩,
        ⟨(some 13), none, true, .load false 1 (.t 12)⟩,
        ⟨(some 14), none, true, .bin .eql .no (.t 13) (.c (.int .u32 0))⟩,
        ⟨(some 15), none, true, .mv (.t 14)⟩,
        ⟨(some 16), (some (15, false)), true, .mv (.t 3)⟩,
        ⟨(some 17), (some (15, false)), true, .bin .gtr .no (.t 16) (.c (.int .i64 0))⟩,
        ⟨(some 18), (some (15, false)), true, .mv (.t 17)⟩,
        ⟨(some 19), (some (18, true)), true, .fieldA 0 0 (.t 4)⟩,
        ⟨(some 20), (some (18, true)), true, .load false 1 (.t 19)⟩,
        ⟨(some 21), (some (18, true)), true, .mv (.t 0)⟩,
        ⟨(some 22), (some (18, true)), true, .mv (.t 3)⟩,
        ⟨(some 23), (some (18, true)), true, .bin .sub .no (.t 22) (.c (.int .i64 1))⟩,
        ⟨(some 24), (some (18, true)), false, .indexA (.sl 34) (.t 21) (.t 23)⟩,
        ⟨(some 25), (some (18, true)), false, .fieldA 0 0 (.t 24)⟩,
        ⟨(some 26), (some (18, true)), false, .load false 1 (.t 25)⟩,
        ⟨(some 27), (some (18, true)), false, .bin .leq .no (.t 20) (.t 26)⟩,
        ⟨(some 28), (some (15, false)), true, .pick (.t 18) (.t 27) (.c (.bl false))⟩,
        ⟨(some 29), none, true, .pick (.t 15) (.c (.bl true)) (.t 28)⟩])
    (.cond (.t 29)
      (.seq (.region [⟨(some 2), none, true, .mv (.c (.bl false))⟩])
      (.ret))
      (.skip)))))
  (.region [⟨(some 30), none, true, .bin .add .no (.t 7) (.c (.int .i64 1))⟩,
    ⟨(some 7), none, true, .mv (.t 30)⟩])))
def burrowref14_ValidSlotsc1 : ACode :=
  .seq (.region [⟨(some 31), none, true, .mv (.t 0)⟩,
      ⟨(some 32), none, true, .len (.t 31)⟩,
      ⟨(some 33), none, true, .bin .leq .no (.t 32) (.c (.int .i64 32))⟩,
      ⟨(some 2), none, true, .mv (.t 33)⟩])
  (.ret)
def burrowref14_ValidSlots : AFun := ⟨34, [.mv (.t 2)],
  .seq (.region [⟨(some 2), none, true, .mv (.c (.bl false))⟩])
  (.seq (.seq (.region [⟨(some 5), none, true, .mv (.t 0)⟩,
        ⟨(some 6), none, true, .len (.t 5)⟩,
        ⟨(some 7), none, true, .mv (.c (.int .i64 0))⟩])
    (.block 0 (.loop burrowref14_ValidSlotsl0)))
  burrowref14_ValidSlotsc1)⟩
/- burrow/burrowref22.Locals -/

def burrowref22_Locals : AFun := ⟨11, [.mv (.t 2)],
  .seq (.region [⟨(some 1), none, false, .box (.t 0)⟩,
      ⟨(some 2), none, true, .mv (.c (.sl 1 [] true))⟩])
  (.seq (.region [⟨(some 3), none, true, .fieldA 0 0 (.t 1)⟩,
      ⟨(some 4), none, true, .load true 77 (.t 3)⟩,
      ⟨(some 5), none, true, .fieldA 1 77 (.t 1)⟩,
      ⟨(some 6), none, true, .load true 77 (.t 5)⟩,
      ⟨(some 7), none, true, .fieldA 2 154 (.t 1)⟩,
      ⟨(some 8), none, true, .load true 77 (.t 7)⟩,
      ⟨(some 9), none, false, .buildSlice false 77 (.st 77 [(.bl false), (.st 76 [(.int .u32 0), (.int .u32 0), (.ar 1 32 (zr 32 (.int .u8 0))), (.ar 1 32 (zr 32 (.int .u8 0))), (.int .u64 0), (.int .u64 0), (.st 6 [(.bl false), (.int .u64 0), (.ar 1 4 (zr 4 (.int .u64 0)))]), (.int .i64 0), (.bl false)])]) 3 [(0, (.t 4)), (1, (.t 6)), (2, (.t 8))]⟩,
      ⟨(some 10), none, false, .call (.c (.fn (.func I.burrowref22_locals) [] [])) [(.t 9)]⟩,
      ⟨(some 2), none, true, .mv (.t 10)⟩])
  (.ret))⟩
/- burrow/burrowref14.ValidTimers -/
def burrowref14_ValidTimersl0 : ACode :=
  .seq (.region [⟨(some 51), none, true, .bin .lss .no (.t 50) (.t 49)⟩])
  (.seq (.cond (.t 51)
      (.skip)
      (.exit 2))
  (.seq (.block 3 (.seq (.region [⟨(some 52), none, false, .indexA (.sl 34) (.t 48) (.t 50)⟩,
        ⟨(some 53), none, true, .load true 34 (.t 52)⟩,
        ⟨(some 6), none, false, .alloc (.st 34 [(.int .i64 0), (.ar 1 32 (zr 32 (.int .u8 0))), (.int .i64 0)])⟩,
        ⟨none, none, false, .store 34 (.t 6) (.t 53)⟩])
    (.seq (.region [⟨(some 54), none, true, .fieldA 1 1 (.t 4)⟩,
        ⟨(some 55), none, true, .load true 32 (.t 54)⟩,
        ⟨(some 56), none, true, .fieldA 1 1 (.t 6)⟩,
        ⟨(some 57), none, true, .load true 32 (.t 56)⟩,
        ⟨(some 58), none, true, .bin .eql (.sh (.ar 32 (.i .u8))) (.t 55) (.t 57)⟩,
        ⟨(some 59), none, true, .mv (.t 58)⟩,
        ⟨(some 60), (some (59, true)), true, .fieldA 2 33 (.t 4)⟩,
        ⟨(some 61), (some (59, true)), true, .load false 1 (.t 60)⟩,
        ⟨(some 62), (some (59, true)), true, .fieldA 2 33 (.t 6)⟩,
        ⟨(some 63), (some (59, true)), true, .load false 1 (.t 62)⟩,
        ⟨(some 64), (some (59, true)), true, .bin .eql .no (.t 61) (.t 63)⟩,
        ⟨(some 65), none, true, .pick (.t 59) (.t 64) (.c (.bl false))⟩])
    (.cond (.t 65)
      (.seq (.region [⟨(some 2), none, true, .mv (.c (.bl false))⟩])
      (.ret))
      (.skip)))))
  (.region [⟨(some 66), none, true, .bin .add .no (.t 50) (.c (.int .i64 1))⟩,
    ⟨(some 50), none, true, .mv (.t 66)⟩])))
def burrowref14_ValidTimersc1 : ACode :=
  .region [⟨(some 67), none, true, .bin .add .no (.t 9) (.c (.int .i64 1))⟩,
    ⟨(some 9), none, true, .mv (.t 67)⟩]
def burrowref14_ValidTimersl2 : ACode :=
  .seq (.region [⟨(some 10), none, true, .bin .lss .no (.t 9) (.t 8)⟩])
  (.seq (.cond (.t 10)
      (.skip)
      (.exit 0))
  (.seq (.block 1 (.seq (.region [⟨(some 11), none, true, .mv (.t 9)⟩,
        ⟨(some 12), none, false, .indexA (.sl 34) (.t 7) (.t 9)⟩,
        ⟨(some 13), none, true, .load true 34 (.t 12)⟩,
        ⟨(some 4), none, false, .alloc (.st 34 [(.int .i64 0), (.ar 1 32 (zr 32 (.int .u8 0))), (.int .i64 0)])⟩,
        ⟨(some 3), none, true, .mv (.t 11)⟩,
        ⟨none, none, false, .store 34 (.t 4) (.t 13)⟩])
    (.seq (.seq (.region [⟨(some 14), none, true, .fieldA 2 33 (.t 4)⟩,
          ⟨(some 15), none, true, .load false 1 (.t 14)⟩,
          ⟨(some 16), none, true, .bin .lss .no (.t 15) (.c (.int .i64 1))⟩,
          ⟨(some 17), none, true, .mv (.t 16)⟩,
          ⟨(some 18), (some (17, false)), true, .fieldA 2 33 (.t 4)⟩,
          ⟨(some 19), (some (17, false)), true, .load false 1 (.t 18)⟩,
          ⟨(some 20), (some (17, false)), true, .bin .gtr .no (.t 19) (.c (.int .i64 5))⟩,
          ⟨(some 21), none, true, .pick (.t 17) (.c (.bl true)) (.t 20)⟩,
          ⟨(some 22), none, true, .mv (.t 21)⟩,
          ⟨(some 23), (some (22, false)), true, .fieldA 0 0 (.t 4)⟩,
          ⟨(some 24), (some (22, false)), true, .load false 1 (.t 23)⟩,
          ⟨(some 25), (some (22, false)), true, .bin .lss .no (.t 24) (.c (.int .i64 0))⟩,
          ⟨(some 26), none, true, .pick (.t 22) (.c (.bl true)) (.t 25)⟩,
          ⟨(some 27), none, true, .mv (.t 26)⟩,
          ⟨(some 28), (some (27, false)), true, .fieldA 0 0 (.t 4)⟩,
          ⟨(some 29), (some (27, false)), true, .load false 1 (.t 28)⟩,
          ⟨(some 30), (some (27, false)), true, .bin .gtr .no (.t 29) (.c (.int .i64 4398046511104))⟩,
          ⟨(some 31), none, true, .pick (.t 27) (.c (.bl true)) (.t 30)⟩,
          ⟨(some 32), none, true, .mv (.t 31)⟩,
          ⟨(some 33), (some (32, false)), true, .mv (.t 3)⟩,
          ⟨(some 34), (some (32, false)), true, .bin .gtr .no (.t 33) (.c (.int .i64 0))⟩,
          ⟨(some 35), (some (32, false)), true, .mv (.t 34)⟩,
          ⟨(some 36), (some (35, true)), true, .mv (.t 0)⟩,
          ⟨(some 37), (some (35, true)), true, .mv (.t 3)⟩,
          ⟨(some 38), (some (35, true)), true, .bin .sub .no (.t 37) (.c (.int .i64 1))⟩,
          ⟨(some 39), (some (35, true)), false, .indexA (.sl 34) (.t 36) (.t 38)⟩,
          ⟨(some 40), (some (35, true)), false, .load true 34 (.t 39)⟩,
          ⟨(some 41), (some (35, true)), true, .load true 34 (.t 4)⟩,
          ⟨(some 42), (some (35, true)), false, .callq (.c (.fn (.func I.burrowref14_LessTimer) [] [])) [(.t 40), (.t 41)]⟩,
          ⟨(some 43), (some (35, true)), false, .un .not (.t 42)⟩,
          ⟨(some 44), (some (32, false)), true, .pick (.t 35) (.t 43) (.c (.bl false))⟩,
          ⟨(some 45), none, true, .pick (.t 32) (.c (.bl true)) (.t 44)⟩])
      (.cond (.t 45)
        (.seq (.region [⟨(some 2), none, true, .mv (.c (.bl false))⟩])
        (.ret))
        (.skip)))
    (.seq (.region [⟨(some 46), none, true, .mv (.t 0)⟩,
        ⟨(some 47), none, true, .mv (.t 3)⟩,
        ⟨(some 48), none, false, .slice (.sl 34) (.t 46) none (some (.t 47)) none⟩,
        ⟨(some 49), none, true, .len (.t 48)⟩,
        ⟨(some 50), none, true, .mv (.c (.int .i64 0))⟩])
    (.block 2 (.loop burrowref14_ValidTimersl0))))))
  burrowref14_ValidTimersc1))
def burrowref14_ValidTimersc3 : ACode :=
  .seq (.region [⟨(some 2), none, true, .mv (.c (.bl true))⟩])
  (.ret)
def burrowref14_ValidTimers : AFun := ⟨68, [.mv (.t 2)],
  .seq (.region [⟨(some 2), none, true, .mv (.c (.bl false))⟩])
  (.seq (.seq (.region [⟨(some 7), none, true, .mv (.t 0)⟩,
        ⟨(some 8), none, true, .len (.t 7)⟩,
        ⟨(some 9), none, true, .mv (.c (.int .i64 0))⟩])
    (.block 0 (.loop burrowref14_ValidTimersl2)))
  burrowref14_ValidTimersc3)⟩
/- burrow/burrowref14.Has -/
def burrowref14_Hasl0 : ACode :=
  .seq (.region [⟨(some 12), none, true, .bin .lss .no (.t 11) (.t 10)⟩])
  (.seq (.cond (.t 12)
      (.skip)
      (.exit 0))
  (.seq (.block 1 (.seq (.region [⟨(some 13), none, false, .indexA (.sl 34) (.t 9) (.t 11)⟩,
        ⟨(some 14), none, true, .load true 34 (.t 13)⟩,
        ⟨(some 8), none, false, .alloc (.st 34 [(.int .i64 0), (.ar 1 32 (zr 32 (.int .u8 0))), (.int .i64 0)])⟩,
        ⟨none, none, false, .store 34 (.t 8) (.t 14)⟩])
    (.seq (.region [⟨(some 15), none, true, .fieldA 1 1 (.t 8)⟩,
        ⟨(some 16), none, true, .load true 32 (.t 15)⟩,
        ⟨(some 17), none, true, .load true 32 (.t 4)⟩,
        ⟨(some 18), none, true, .bin .eql (.sh (.ar 32 (.i .u8))) (.t 16) (.t 17)⟩,
        ⟨(some 19), none, true, .mv (.t 18)⟩,
        ⟨(some 20), (some (19, true)), true, .fieldA 2 33 (.t 8)⟩,
        ⟨(some 21), (some (19, true)), true, .load false 1 (.t 20)⟩,
        ⟨(some 22), (some (19, true)), true, .mv (.t 2)⟩,
        ⟨(some 23), (some (19, true)), true, .bin .eql .no (.t 21) (.t 22)⟩,
        ⟨(some 24), none, true, .pick (.t 19) (.t 23) (.c (.bl false))⟩])
    (.cond (.t 24)
      (.seq (.region [⟨(some 6), none, true, .mv (.c (.bl true))⟩])
      (.ret))
      (.skip)))))
  (.region [⟨(some 25), none, true, .bin .add .no (.t 11) (.c (.int .i64 1))⟩,
    ⟨(some 11), none, true, .mv (.t 25)⟩])))
def burrowref14_Hasc1 : ACode :=
  .seq (.region [⟨(some 6), none, true, .mv (.c (.bl false))⟩])
  (.ret)
def burrowref14_Has : AFun := ⟨26, [.mv (.t 6)],
  .seq (.region [⟨(some 4), none, false, .box (.t 1)⟩,
      ⟨(some 6), none, true, .mv (.c (.bl false))⟩])
  (.seq (.seq (.region [⟨(some 9), none, true, .mv (.t 0)⟩,
        ⟨(some 10), none, true, .len (.t 9)⟩,
        ⟨(some 11), none, true, .mv (.c (.int .i64 0))⟩])
    (.block 0 (.loop burrowref14_Hasl0)))
  burrowref14_Hasc1)⟩
/- burrow/burrowref13.FormatEndpoint -/

def burrowref13_FormatEndpoint : AFun := ⟨31, [.mv (.t 2)],
  .seq (.region [⟨(some 1), none, false, .box (.t 0)⟩,
      ⟨(some 2), none, true, .mv (.c (.str []))⟩])
  (.seq (.region [⟨(some 4), none, true, .fieldA 0 0 (.t 1)⟩,
      ⟨(some 5), none, true, .load true 17 (.t 4)⟩,
      ⟨(some 6), none, false, .call (.c (.fn (.func I.burrowref13_FormatAddr) [] [])) [(.t 5)]⟩,
      ⟨(some 3), none, true, .mv (.t 6)⟩])
  (.seq (.seq (.region [⟨(some 7), none, true, .mv (.t 3)⟩,
        ⟨(some 8), none, true, .bin .eql .no (.t 7) (.c (.str []))⟩,
        ⟨(some 9), none, true, .mv (.t 8)⟩,
        ⟨(some 10), (some (9, false)), true, .fieldA 1 17 (.t 1)⟩,
        ⟨(some 11), (some (9, false)), true, .load false 1 (.t 10)⟩,
        ⟨(some 12), (some (9, false)), true, .bin .lss .no (.t 11) (.c (.int .i64 1))⟩,
        ⟨(some 13), none, true, .pick (.t 9) (.c (.bl true)) (.t 12)⟩,
        ⟨(some 14), none, true, .mv (.t 13)⟩,
        ⟨(some 15), (some (14, false)), true, .fieldA 1 17 (.t 1)⟩,
        ⟨(some 16), (some (14, false)), true, .load false 1 (.t 15)⟩,
        ⟨(some 17), (some (14, false)), true, .bin .gtr .no (.t 16) (.c (.int .i64 65535))⟩,
        ⟨(some 18), none, true, .pick (.t 14) (.c (.bl true)) (.t 17)⟩])
    (.cond (.t 18)
      (.seq (.region [⟨(some 2), none, true, .mv (.c (.str []))⟩])
      (.ret))
      (.skip)))
  (.seq (.seq (.region [⟨(some 19), none, true, .fieldA 0 0 (.t 1)⟩,
        ⟨(some 20), none, true, .fieldA 0 0 (.t 19)⟩,
        ⟨(some 21), none, true, .load false 1 (.t 20)⟩])
    (.cond (.t 21)
      (.region [⟨(some 22), none, true, .mv (.t 3)⟩,
        ⟨(some 23), none, true, .bin .add .no (.c (.str [91])) (.t 22)⟩,
        ⟨(some 24), none, true, .bin .add .no (.t 23) (.c (.str [93]))⟩,
        ⟨(some 3), none, true, .mv (.t 24)⟩])
      (.skip)))
  (.seq (.region [⟨(some 25), none, true, .mv (.t 3)⟩,
      ⟨(some 26), none, true, .bin .add .no (.t 25) (.c (.str [58]))⟩,
      ⟨(some 27), none, true, .fieldA 1 17 (.t 1)⟩,
      ⟨(some 28), none, true, .load false 1 (.t 27)⟩,
      ⟨(some 29), none, false, .call (.c (.fn (.func I.burrowref13_Decimal) [] [])) [(.t 28)]⟩,
      ⟨(some 30), none, true, .bin .add .no (.t 26) (.t 29)⟩,
      ⟨(some 2), none, true, .mv (.t 30)⟩])
  (.ret)))))⟩
/- burrow/burrowref13.Timed -/

def burrowref13_Timed : AFun := ⟨13, [.mv (.t 2)],
  .seq (.region [⟨(some 2), none, true, .mv (.c (.bl false))⟩])
  (.seq (.region [⟨(some 3), none, true, .mv (.t 0)⟩,
      ⟨(some 4), none, true, .bin .eql .no (.t 3) (.c (.int .i64 0))⟩,
      ⟨(some 5), none, true, .mv (.t 4)⟩,
      ⟨(some 6), (some (5, false)), true, .mv (.t 0)⟩,
      ⟨(some 7), (some (5, false)), true, .bin .geq .no (.t 6) (.c (.int .i64 1000))⟩,
      ⟨(some 8), (some (5, false)), true, .mv (.t 7)⟩,
      ⟨(some 9), (some (8, true)), true, .mv (.t 0)⟩,
      ⟨(some 10), (some (8, true)), true, .bin .leq .no (.t 9) (.c (.int .i64 1073741824))⟩,
      ⟨(some 11), (some (5, false)), true, .pick (.t 8) (.t 10) (.c (.bl false))⟩,
      ⟨(some 12), none, true, .pick (.t 5) (.c (.bl true)) (.t 11)⟩,
      ⟨(some 2), none, true, .mv (.t 12)⟩])
  (.ret))⟩
/- burrow/burrowref13.FormatAddr -/
def burrowref13_FormatAddrl0 : ACode :=
  .seq (.seq (.region [⟨(some 12), none, true, .mv (.t 4)⟩,
        ⟨(some 13), none, true, .bin .lss .no (.t 12) (.c (.int .i64 4))⟩])
    (.cond (.t 13)
      (.skip)
      (.exit 0)))
  (.seq (.block 1 (.region [⟨(some 16), none, true, .mv (.t 3)⟩,
      ⟨(some 17), none, true, .mv (.t 4)⟩,
      ⟨(some 18), none, true, .fieldA 1 1 (.t 1)⟩,
      ⟨(some 19), none, false, .indexA (.ar 16 1) (.t 18) (.t 17)⟩,
      ⟨(some 20), none, true, .load false 1 (.t 19)⟩,
      ⟨(some 21), none, true, .convI .i64 (.t 20)⟩,
      ⟨(some 22), none, false, .call (.c (.fn (.func I.burrowref13_Decimal) [] [])) [(.t 21)]⟩,
      ⟨(some 23), none, true, .bin .add .no (.c (.str [46])) (.t 22)⟩,
      ⟨(some 24), none, true, .bin .add .no (.t 16) (.t 23)⟩,
      ⟨(some 3), none, true, .mv (.t 24)⟩]))
  (.region [⟨(some 14), none, true, .mv (.t 4)⟩,
    ⟨(some 15), none, true, .bin .add .no (.t 14) (.c (.int .i64 1))⟩,
    ⟨(some 4), none, true, .mv (.t 15)⟩]))
def burrowref13_FormatAddrc1 : ACode :=
  .seq (.region [⟨(some 25), none, true, .mv (.t 3)⟩,
      ⟨(some 26), none, false, .slice .str (.t 25) (some (.c (.int .i64 1))) none none⟩,
      ⟨(some 2), none, true, .mv (.t 26)⟩])
  (.ret)
def burrowref13_FormatAddrl2 : ACode :=
  .seq (.seq (.region [⟨(some 27), none, true, .mv (.t 5)⟩,
        ⟨(some 28), none, true, .bin .lss .no (.t 27) (.c (.int .i64 8))⟩])
    (.cond (.t 28)
      (.skip)
      (.exit 2)))
  (.seq (.block 3 (.region [⟨(some 31), none, true, .mv (.t 3)⟩,
      ⟨(some 32), none, true, .mv (.t 5)⟩,
      ⟨(some 33), none, true, .bin .mul .no (.c (.int .i64 2)) (.t 32)⟩,
      ⟨(some 34), none, true, .fieldA 1 1 (.t 1)⟩,
      ⟨(some 35), none, false, .indexA (.ar 16 1) (.t 34) (.t 33)⟩,
      ⟨(some 36), none, true, .load false 1 (.t 35)⟩,
      ⟨(some 37), none, true, .convI .i64 (.t 36)⟩,
      ⟨(some 38), none, false, .bin .shl .no (.t 37) (.c (.int .u64 8))⟩,
      ⟨(some 39), none, true, .mv (.t 5)⟩,
      ⟨(some 40), none, true, .bin .mul .no (.c (.int .i64 2)) (.t 39)⟩,
      ⟨(some 41), none, true, .bin .add .no (.t 40) (.c (.int .i64 1))⟩,
      ⟨(some 42), none, true, .fieldA 1 1 (.t 1)⟩,
      ⟨(some 43), none, false, .indexA (.ar 16 1) (.t 42) (.t 41)⟩,
      ⟨(some 44), none, true, .load false 1 (.t 43)⟩,
      ⟨(some 45), none, true, .convI .i64 (.t 44)⟩,
      ⟨(some 46), none, true, .bin .add .no (.t 38) (.t 45)⟩,
      ⟨(some 47), none, false, .callq (.c (.fn (.func I.burrowref13_group) [] [])) [(.t 46)]⟩,
      ⟨(some 48), none, true, .bin .add .no (.c (.str [58])) (.t 47)⟩,
      ⟨(some 49), none, true, .bin .add .no (.t 31) (.t 48)⟩,
      ⟨(some 3), none, true, .mv (.t 49)⟩]))
  (.region [⟨(some 29), none, true, .mv (.t 5)⟩,
    ⟨(some 30), none, true, .bin .add .no (.t 29) (.c (.int .i64 1))⟩,
    ⟨(some 5), none, true, .mv (.t 30)⟩]))
def burrowref13_FormatAddrc3 : ACode :=
  .seq (.region [⟨(some 50), none, true, .mv (.t 3)⟩,
      ⟨(some 51), none, false, .slice .str (.t 50) (some (.c (.int .i64 1))) none none⟩,
      ⟨(some 2), none, true, .mv (.t 51)⟩])
  (.ret)
def burrowref13_FormatAddrc4 : ACode :=
  .seq (.seq (.region [⟨(some 5), none, true, .mv (.c (.int .i64 0))⟩])
    (.block 2 (.loop burrowref13_FormatAddrl2)))
  burrowref13_FormatAddrc3
def burrowref13_FormatAddr : AFun := ⟨52, [.mv (.t 2)],
  .seq (.region [⟨(some 1), none, false, .box (.t 0)⟩,
      ⟨(some 2), none, true, .mv (.c (.str []))⟩])
  (.seq (.seq (.region [⟨(some 6), none, true, .load true 17 (.t 1)⟩,
        ⟨(some 7), none, false, .call (.c (.fn (.func I.burrowref09_Sound) [] [])) [(.t 6)]⟩,
        ⟨(some 8), none, true, .un .not (.t 7)⟩])
    (.cond (.t 8)
      (.seq (.region [⟨(some 2), none, true, .mv (.c (.str []))⟩])
      (.ret))
      (.skip)))
  (.seq (.region [⟨(some 3), none, true, .mv (.c (.str []))⟩])
  (.seq (.seq (.region [⟨(some 9), none, true, .fieldA 0 0 (.t 1)⟩,
        ⟨(some 10), none, true, .load false 1 (.t 9)⟩,
        ⟨(some 11), none, true, .un .not (.t 10)⟩])
    (.cond (.t 11)
      (.seq (.seq (.region [⟨(some 4), none, true, .mv (.c (.int .i64 0))⟩])
        (.block 0 (.loop burrowref13_FormatAddrl0)))
      burrowref13_FormatAddrc1)
      (.skip)))
  burrowref13_FormatAddrc4)))⟩
/- burrow/burrowref13.Decimal -/

def burrowref13_Decimal : AFun := ⟨20, [.mv (.t 2)],
  .seq (.region [⟨(some 2), none, true, .mv (.c (.str []))⟩])
  (.seq (.seq (.region [⟨(some 3), none, true, .mv (.t 0)⟩,
        ⟨(some 4), none, true, .bin .lss .no (.t 3) (.c (.int .i64 10))⟩])
    (.cond (.t 4)
      (.seq (.region [⟨(some 5), none, true, .mv (.t 0)⟩,
          ⟨(some 6), none, true, .bin .add .no (.c (.int .i64 48)) (.t 5)⟩,
          ⟨(some 7), none, true, .convI .u8 (.t 6)⟩,
          ⟨(some 8), none, false, .buildSlice false 1 (.int .u8 0) 1 [(0, (.t 7))]⟩,
          ⟨(some 9), none, true, .convS (.t 8)⟩,
          ⟨(some 2), none, true, .mv (.t 9)⟩])
      (.ret))
      (.skip)))
  (.seq (.region [⟨(some 10), none, true, .mv (.t 0)⟩,
      ⟨(some 11), none, false, .bin .quo .no (.t 10) (.c (.int .i64 10))⟩,
      ⟨(some 12), none, false, .callq (.c (.fn (.func I.burrowref13_Decimal) [] [])) [(.t 11)]⟩,
      ⟨(some 13), none, true, .mv (.t 0)⟩,
      ⟨(some 14), none, false, .bin .rem .no (.t 13) (.c (.int .i64 10))⟩,
      ⟨(some 15), none, true, .bin .add .no (.c (.int .i64 48)) (.t 14)⟩,
      ⟨(some 16), none, true, .convI .u8 (.t 15)⟩,
      ⟨(some 17), none, false, .buildSlice false 1 (.int .u8 0) 1 [(0, (.t 16))]⟩,
      ⟨(some 18), none, true, .convS (.t 17)⟩,
      ⟨(some 19), none, true, .bin .add .no (.t 12) (.t 18)⟩,
      ⟨(some 2), none, true, .mv (.t 19)⟩])
  (.ret)))⟩
end Go.Ab.F
