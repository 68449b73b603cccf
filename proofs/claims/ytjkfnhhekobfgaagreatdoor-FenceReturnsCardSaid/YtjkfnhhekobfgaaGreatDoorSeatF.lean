/- The program's functions as the abstract reading has them, and their numbers. Written by program. No condition. -/
import Derived.Test.YtjkfnhhekobfgaaGreatDoorA4
namespace Go.Ab.I
def burrowlaw29_FenceReturns : FuncId := 4
def burrowmake_Daemon : FuncId := 5
def burrowcase_New : FuncId := 6
def burrowref24_Copy : FuncId := 7
def burrowref24_Check : FuncId := 10
def fence_Reserve : FuncId := 13
def burrowref25_Same : FuncId := 14
def fence_Lift : FuncId := 15
def daemon_Valid : FuncId := 16
def burrowmake_Sessions : FuncId := 17
def burrowlaw29_begun : FuncId := 18
def burrowcase_Codes_Rules : FuncId := 19
def burrowcase_Codes_Key : FuncId := 20
def burrowcase_Codes_Big : FuncId := 21
def burrowcase_Codes_Next : FuncId := 22
def burrowmake_Peer : FuncId := 23
def burrowmake_At : FuncId := 24
def burrowref14_Set : FuncId := 25
def burrowref14_InsertRoute : FuncId := 26
def burrowcase_Masked : FuncId := 27
def burrowcase_Host : FuncId := 28
def burrowref24_Install : FuncId := 29
def burrowmake_Session : FuncId := 30
def burrowcase_Codes_Bool : FuncId := 31
def burrowref24_ValidRules : FuncId := 33
def burrowref24_within : FuncId := 34
def burrowref24_peers : FuncId := 35
def burrowref24_each : FuncId := 36
def burrowref24_routes : FuncId := 37
def burrowref24_slots : FuncId := 38
def burrowref24_timers : FuncId := 39
def burrowref24_load : FuncId := 40
def own_Daemon : FuncId := 41
def fence_sessions : FuncId := 42
def fence_Edge : FuncId := 43
def burrowref25_SamePeer : FuncId := 44
def burrowref25_sameLists : FuncId := 45
def rules_Check : FuncId := 46
def burrowref22_Get : FuncId := 47
def burrowcase_Codes_Bytes : FuncId := 48
def burrowcase_Codes_Left : FuncId := 49
def burrowref14_Cancel : FuncId := 50
def burrowref14_LessTimer : FuncId := 51
def burrowref09_Valid : FuncId := 52
def burrowref14_before : FuncId := 53
def burrowref24_Valid : FuncId := 54
def burrowref24_find : FuncId := 55
def burrowref14_FindSlot : FuncId := 56
def burrowref24_sound : FuncId := 57
def burrowref22_Begin : FuncId := 58
def burrowref22_Answer : FuncId := 59
def burrowref24_machine_drop : FuncId := 60
def burrowref14_Take : FuncId := 61
def burrowref24_machine_set : FuncId := 62
def burrowref22_New : FuncId := 63
def burrowref14_AcceptWindow : FuncId := 64
def rules_All : FuncId := 65
def burrowref24_fields : FuncId := 66
def burrowref24_hand : FuncId := 67
def burrowref24_ring : FuncId := 68
def burrowref14_ValidRoutes : FuncId := 69
def burrowref14_ValidSlots : FuncId := 70
def burrowref22_Locals : FuncId := 71
def burrowref14_ValidTimers : FuncId := 72
def burrowref14_Has : FuncId := 73
def burrowref24_past : FuncId := 74
def burrowref09_Sound : FuncId := 75
def burrowref09_Less : FuncId := 76
def slices_Clone_api_Peer_api_Peer : FuncId := 77
def own_Bytes : FuncId := 78
def slices_Clone_api_Route_api_Route : FuncId := 79
def slices_Clone_api_Slot_api_Slot : FuncId := 80
def slices_Clone_api_Timer_api_Timer : FuncId := 81
def slices_Clone_int64_int64 : FuncId := 82
def slices_Clone_api_Bucket_api_Bucket : FuncId := 83
def fence_sessions_1 : FuncId := 84
def burrowref09_width : FuncId := 85
def burrowref09_bit : FuncId := 86
def burrowref22_locals : FuncId := 87
def burrowref22_clean : FuncId := 88
def burrowref14_DropSlot : FuncId := 89
def burrowref14_CheckWindow : FuncId := 90
def rules_numbers : FuncId := 91
def rules_peers : FuncId := 92
def rules_fields : FuncId := 93
def rules_hands : FuncId := 94
def rules_sessions : FuncId := 95
def rules_routing : FuncId := 96
def rules_slots : FuncId := 97
def rules_timers : FuncId := 98
def rules_load : FuncId := 99
def burrowref13_FormatEndpoint : FuncId := 100
def burrowref13_Timed : FuncId := 101
def burrowref09_Check : FuncId := 102
def slices_Clone_byte_byte : FuncId := 103
def slices_Clone_byte_byte_1 : FuncId := 104
def rules_Rules : FuncId := 105
def rules_within : FuncId := 106
def bytes_Compare : FuncId := 107
def rules_every : FuncId := 108
def rules_fields_1 : FuncId := 109
def config_FormatEndpoint : FuncId := 110
def slices_ContainsFunc_byte_byte : FuncId := 111
def rules_fields_1_1 : FuncId := 112
def rules_hands_1 : FuncId := 114
def rules_sessions_1 : FuncId := 115
def ring_Get : FuncId := 116
def rules_Session : FuncId := 117
def routes_Valid : FuncId := 118
def slices_ContainsFunc_api_Route_api_Route : FuncId := 119
def rules_routing_1 : FuncId := 120
def rules_known : FuncId := 121
def index_Valid : FuncId := 122
def slices_Equal_api_Slot_api_Slot : FuncId := 123
def rules_Slots : FuncId := 124
def wheel_Valid : FuncId := 125
def slices_ContainsFunc_api_Timer_api_Timer : FuncId := 126
def rules_timers_1 : FuncId := 127
def rules_timers_2 : FuncId := 128
def wheel_Has : FuncId := 129
def slices_IsSorted_int64_int64 : FuncId := 130
def slices_ContainsFunc_int64_int64 : FuncId := 131
def rules_load_1 : FuncId := 132
def inner_Contains : FuncId := 133
def inner_Less : FuncId := 134
def burrowref13_FormatAddr : FuncId := 135
def burrowref13_Decimal : FuncId := 136
def slices_ContainsFunc_api_Peer_api_Peer : FuncId := 140
def rules_every_1 : FuncId := 141
def config_FormatAddr : FuncId := 142
def strconv_Itoa : FuncId := 143
def slices_IndexFunc_byte_byte : FuncId := 144
def ring_ring_places : FuncId := 146
def inner_Valid : FuncId := 147
def routes_less : FuncId := 148
def slices_IndexFunc_api_Route_api_Route : FuncId := 149
def rules_known_1 : FuncId := 150
def ring_Locals : FuncId := 151
def slices_SortStableFunc_api_Slot_api_Slot : FuncId := 152
def rules_Slots_1 : FuncId := 153
def wheel_Less : FuncId := 154
def slices_IndexFunc_api_Timer_api_Timer : FuncId := 155
def wheel_Has_1 : FuncId := 156
def wheel_timer_of : FuncId := 157
def cmp_Less_int64 : FuncId := 158
def slices_IndexFunc_int64_int64 : FuncId := 159
def inner_valid : FuncId := 160
def inner_cut : FuncId := 161
def burrowref13_group : FuncId := 162
def slices_IndexFunc_api_Peer_api_Peer : FuncId := 164
def config_valid : FuncId := 165
def strconv_FormatInt : FuncId := 166
def strings_Join : FuncId := 167
def ring_ring_previous : FuncId := 172
def ring_ring_current : FuncId := 173
def ring_ring_next : FuncId := 174
def ring_locals : FuncId := 175
def slices_stableCmpFunc_api_Slot : FuncId := 176
def wheel_timer_before : FuncId := 177
def slices_insertionSortCmpFunc_api_Slot : FuncId := 183
def slices_symMergeCmpFunc_api_Slot : FuncId := 184
end Go.Ab.I
namespace Go.Ab.F
open Go.Ab
abbrev o (d : Nat) (k : AK) : AO := ⟨some d, none, true, k⟩
abbrev u (d : Nat) (k : AK) : AO := ⟨some d, none, false, k⟩
abbrev g (d j : Nat) (b m : Bool) (k : AK) : AO := ⟨some d, some (j, b), m, k⟩
abbrev m (d n : Nat) : AO := ⟨some d, none, true, .mv (.t n)⟩
abbrev l (d n : Nat) : AO := ⟨some d, none, true, .load false 1 (.t n)⟩
abbrev f (d i j n : Nat) : AO := ⟨some d, none, true, .fieldA i j (.t n)⟩
abbrev h (d j a b n : Nat) : AO := ⟨some d, some (j, true), true, .fieldA a b (.t n)⟩
abbrev k (d j : Nat) (b : Bool) (n : Nat) : AO := ⟨some d, some (j, b), true, .load false 1 (.t n)⟩
abbrev c (d : Nat) (i : FuncId) (a : List AX) : AO := ⟨some d, none, false, .call (.c (.fn (.func i) [] [])) a⟩
def burrowlaw29_FenceReturnsl0 : ACode :=
 .seq (.region [o 58 (.bin .lss .no (.t 57) (.t 56))])
 (.seq (.cond (.t 58)
 (.skip)
 (.exit 0))
 (.seq (.block 1 (.seq (.region [m 59 57,
 m 12 59])
 (.seq (.seq (.region [m 60 11,
 m 61 12,
 u 62 (.indexA (.sl 76) (.t 60) (.t 61)),
 f 63 4 66 62,
 l 64 63,
 m 65 10,
 m 66 12,
 u 67 (.indexA (.sl 76) (.t 65) (.t 66)),
 f 68 4 66 67,
 l 69 68,
 o 70 (.bin .lss .no (.t 64) (.t 69))])
 (.cond (.t 70)
 (.seq (.region [o 4 (.mv (.c (.bl false)))])
 (.ret))
 (.skip)))
 (.seq (.region [m 71 11,
 m 72 12,
 m 73 10,
 m 74 12,
 u 75 (.indexA (.sl 76) (.t 73) (.t 74)),
 f 76 4 66 75,
 l 77 76,
 u 78 (.indexA (.sl 76) (.t 71) (.t 72)),
 f 79 4 66 78,
 ⟨none, none, false, .store 1 (.t 79) (.t 77)⟩])
 (.seq (.region [m 80 10,
 m 81 12,
 u 82 (.indexA (.sl 76) (.t 80) (.t 81)),
 o 83 (.load true 76 (.t 82)),
 m 84 11,
 m 85 12,
 u 86 (.indexA (.sl 76) (.t 84) (.t 85)),
 o 87 (.load true 76 (.t 86)),
 o 88 (.bin .neq (.sh (.st [(.i .u32), (.i .u32), (.ar 32 (.i .u8)), (.ar 32 (.i .u8)), (.i .u64), (.i .u64), (.st [.b, (.i .u64), (.ar 4 (.i .u64))]), (.i .i64), .b])) (.t 83) (.t 87))])
 (.cond (.t 88)
 (.seq (.region [o 4 (.mv (.c (.bl false)))])
 (.ret))
 (.skip)))))))
 (.region [o 89 (.bin .add .no (.t 57) (.c (.int .i64 1))),
 m 57 89])))
def burrowlaw29_FenceReturnsc1 : ACode :=
 .seq (.region [o 90 (.load true 148 (.t 9)),
 o 91 (.load true 148 (.t 5)),
 u 92 (.callq (.c (.fn (.func I.burrowref25_Same) [] [])) [(.t 90), (.t 91)]),
 m 93 92,
 g 94 93 true true (.load true 148 (.t 8)),
 g 95 93 true false (.callq (.c (.fn (.func I.fence_Lift) [] [])) [(.t 94)]),
 g 96 93 true true (.load true 148 (.t 5)),
 g 97 93 true false (.callq (.c (.fn (.func I.burrowref25_Same) [] [])) [(.t 95), (.t 96)]),
 o 98 (.pick (.t 93) (.t 97) (.c (.bl false))),
 m 99 98,
 g 100 99 true false (.callq (.c (.fn (.func I.burrowlaw29_begun) [] [])) []),
 o 101 (.pick (.t 99) (.t 100) (.c (.bl false))),
 m 4 101])
 (.ret)
def burrowlaw29_FenceReturns : AFun := ⟨102, [.mv (.t 4)],
 .seq (.region [o 4 (.mv (.c (.bl false)))])
 (.seq (.region [m 13 0,
 c 14 I.burrowcase_New [(.t 13), (.c (.int .i64 160))],
 c 15 I.burrowmake_Daemon [(.t 14)],
 u 5 (.alloc (.st 148 [(.st 10 [(.int .u64 0), (.int .u64 0), (.int .i64 0), (.int .i64 0), (.int .i64 0), (.int .i64 0), (.int .i64 0), (.int .i64 0), (.int .i64 0), (.int .i64 0)]), (.ar 1 32 (zr 32 (.int .u8 0))), (.ar 1 32 (zr 32 (.int .u8 0))), (.int .i64 0), (.ar 1 32 (zr 32 (.int .u8 0))), (.int .i64 0), (.sl 464 [] true), (.sl 50 [] true), (.sl 34 [] true), (.sl 34 [] true), (.ar 1 32 (zr 32 (.int .u8 0))), (.int .i64 0), (.sl 1 [] true), (.sl 19 [] true), (.int .i64 0)])),
 ⟨none, none, false, .store 148 (.t 5) (.t 15)⟩])
 (.seq (.region [o 17 (.load true 148 (.t 5)),
 m 18 1,
 c 19 I.fence_Reserve [(.t 17), (.t 18)],
 m 16 19,
 o 20 (.extract 0 (.t 16)),
 o 21 (.extract 1 (.t 16)),
 u 6 (.alloc (.st 148 [(.st 10 [(.int .u64 0), (.int .u64 0), (.int .i64 0), (.int .i64 0), (.int .i64 0), (.int .i64 0), (.int .i64 0), (.int .i64 0), (.int .i64 0), (.int .i64 0)]), (.ar 1 32 (zr 32 (.int .u8 0))), (.ar 1 32 (zr 32 (.int .u8 0))), (.int .i64 0), (.ar 1 32 (zr 32 (.int .u8 0))), (.int .i64 0), (.sl 464 [] true), (.sl 50 [] true), (.sl 34 [] true), (.sl 34 [] true), (.ar 1 32 (zr 32 (.int .u8 0))), (.int .i64 0), (.sl 1 [] true), (.sl 19 [] true), (.int .i64 0)])),
 u 7 (.alloc (.st 148 [(.st 10 [(.int .u64 0), (.int .u64 0), (.int .i64 0), (.int .i64 0), (.int .i64 0), (.int .i64 0), (.int .i64 0), (.int .i64 0), (.int .i64 0), (.int .i64 0)]), (.ar 1 32 (zr 32 (.int .u8 0))), (.ar 1 32 (zr 32 (.int .u8 0))), (.int .i64 0), (.ar 1 32 (zr 32 (.int .u8 0))), (.int .i64 0), (.sl 464 [] true), (.sl 50 [] true), (.sl 34 [] true), (.sl 34 [] true), (.ar 1 32 (zr 32 (.int .u8 0))), (.int .i64 0), (.sl 1 [] true), (.sl 19 [] true), (.int .i64 0)])),
 ⟨none, none, false, .store 148 (.t 6) (.t 20)⟩,
 ⟨none, none, false, .store 148 (.t 7) (.t 21)⟩])
 (.seq (.seq (.region [o 22 (.load true 148 (.t 6)),
 u 23 (.callq (.c (.fn (.func I.fence_Lift) [] [])) [(.t 22)]),
 o 24 (.load true 148 (.t 5)),
 u 25 (.callq (.c (.fn (.func I.burrowref25_Same) [] [])) [(.t 23), (.t 24)]),
 o 26 (.un .not (.t 25)),
 m 27 26,
 g 28 27 false true (.load true 148 (.t 7)),
 g 29 27 false false (.callq (.c (.fn (.func I.daemon_Valid) [] [])) [(.t 28)]),
 g 30 27 false false (.un .not (.t 29)),
 o 31 (.pick (.t 27) (.c (.bl true)) (.t 30)),
 m 32 31,
 g 33 32 false true (.fieldA 6 108 (.t 7)),
 k 34 32 false 33,
 g 35 32 false true (.len (.t 34)),
 g 36 32 false true (.fieldA 6 108 (.t 5)),
 k 37 32 false 36,
 g 38 32 false true (.len (.t 37)),
 g 39 32 false true (.bin .neq .no (.t 35) (.t 38)),
 o 40 (.pick (.t 32) (.c (.bl true)) (.t 39))])
 (.cond (.t 40)
 (.seq (.region [o 4 (.mv (.c (.bl false)))])
 (.ret))
 (.skip)))
 (.seq (.region [o 42 (.load true 148 (.t 5)),
 c 43 I.fence_Reserve [(.t 42), (.c (.int .u64 0))],
 m 41 43,
 o 44 (.extract 0 (.t 41)),
 o 45 (.extract 1 (.t 41)),
 u 8 (.alloc (.st 148 [(.st 10 [(.int .u64 0), (.int .u64 0), (.int .i64 0), (.int .i64 0), (.int .i64 0), (.int .i64 0), (.int .i64 0), (.int .i64 0), (.int .i64 0), (.int .i64 0)]), (.ar 1 32 (zr 32 (.int .u8 0))), (.ar 1 32 (zr 32 (.int .u8 0))), (.int .i64 0), (.ar 1 32 (zr 32 (.int .u8 0))), (.int .i64 0), (.sl 464 [] true), (.sl 50 [] true), (.sl 34 [] true), (.sl 34 [] true), (.ar 1 32 (zr 32 (.int .u8 0))), (.int .i64 0), (.sl 1 [] true), (.sl 19 [] true), (.int .i64 0)])),
 u 9 (.alloc (.st 148 [(.st 10 [(.int .u64 0), (.int .u64 0), (.int .i64 0), (.int .i64 0), (.int .i64 0), (.int .i64 0), (.int .i64 0), (.int .i64 0), (.int .i64 0), (.int .i64 0)]), (.ar 1 32 (zr 32 (.int .u8 0))), (.ar 1 32 (zr 32 (.int .u8 0))), (.int .i64 0), (.ar 1 32 (zr 32 (.int .u8 0))), (.int .i64 0), (.sl 464 [] true), (.sl 50 [] true), (.sl 34 [] true), (.sl 34 [] true), (.ar 1 32 (zr 32 (.int .u8 0))), (.int .i64 0), (.sl 1 [] true), (.sl 19 [] true), (.int .i64 0)])),
 ⟨none, none, false, .store 148 (.t 8) (.t 44)⟩,
 ⟨none, none, false, .store 148 (.t 9) (.t 45)⟩])
 (.seq (.region [o 46 (.load true 148 (.t 5)),
 u 47 (.callq (.c (.fn (.func I.burrowmake_Sessions) [] [])) [(.t 46)]),
 o 48 (.load true 148 (.t 7)),
 c 49 I.burrowmake_Sessions [(.t 48)],
 m 10 47,
 m 11 49])
 (.seq (.seq (.region [m 50 10,
 o 51 (.len (.t 50)),
 m 52 11,
 o 53 (.len (.t 52)),
 o 54 (.bin .neq .no (.t 51) (.t 53))])
 (.cond (.t 54)
 (.seq (.region [o 4 (.mv (.c (.bl false)))])
 (.ret))
 (.skip)))
 (.seq (.seq (.region [m 55 10,
 o 56 (.len (.t 55)),
 o 57 (.mv (.c (.int .i64 0)))])
 (.block 0 (.loop burrowlaw29_FenceReturnsl0)))
 burrowlaw29_FenceReturnsc1)))))))⟩
def burrowmake_Daemonl0 : ACode :=
 .seq (.seq (.region [m 38 5,
 m 39 4,
 o 40 (.bin .lss .no (.t 38) (.t 39))])
 (.cond (.t 40)
 (.skip)
 (.exit 0)))
 (.seq (.block 1 (.seq (.region [m 43 5,
 c 44 I.burrowmake_Peer [(.t 43)],
 m 45 0,
 c 46 I.burrowcase_Codes_Next [(.t 45), (.c (.int .i64 8))],
 o 47 (.bin .gtr .no (.t 46) (.c (.int .i64 0))),
 u 48 (.build (.st 464 [(.ar 1 32 (zr 32 (.int .u8 0))), (.ar 1 32 (zr 32 (.int .u8 0))), (.bl false), (.st 18 [(.st 17 [(.bl false), (.ar 1 16 (zr 16 (.int .u8 0)))]), (.int .i64 0)]), (.int .i64 0), (.ar 1 12 (zr 12 (.int .u8 0))), (.bl false), (.int .i64 0), (.st 100 [(.bl false), (.int .u32 0), (.ar 1 32 (zr 32 (.int .u8 0))), (.st 64 [(.ar 1 32 (zr 32 (.int .u8 0))), (.ar 1 32 (zr 32 (.int .u8 0)))]), (.int .i64 0), (.int .i64 0)]), (.bl false), (.ar 1 16 (zr 16 (.int .u8 0))), (.int .i64 0), (.ar 1 16 (zr 16 (.int .u8 0))), (.st 231 [(.st 77 [(.bl false), (.st 76 [(.int .u32 0), (.int .u32 0), (.ar 1 32 (zr 32 (.int .u8 0))), (.ar 1 32 (zr 32 (.int .u8 0))), (.int .u64 0), (.int .u64 0), (.st 6 [(.bl false), (.int .u64 0), (.ar 1 4 (zr 4 (.int .u64 0)))]), (.int .i64 0), (.bl false)])]), (.st 77 [(.bl false), (.st 76 [(.int .u32 0), (.int .u32 0), (.ar 1 32 (zr 32 (.int .u8 0))), (.ar 1 32 (zr 32 (.int .u8 0))), (.int .u64 0), (.int .u64 0), (.st 6 [(.bl false), (.int .u64 0), (.ar 1 4 (zr 4 (.int .u64 0)))]), (.int .i64 0), (.bl false)])]), (.st 77 [(.bl false), (.st 76 [(.int .u32 0), (.int .u32 0), (.ar 1 32 (zr 32 (.int .u8 0))), (.ar 1 32 (zr 32 (.int .u8 0))), (.int .u64 0), (.int .u64 0), (.st 6 [(.bl false), (.int .u64 0), (.ar 1 4 (zr 4 (.int .u64 0)))]), (.int .i64 0), (.bl false)])])]), (.sl 1 [] true)]) [(0, (.t 44)), (2, (.t 47))]),
 u 6 (.alloc (.st 464 [(.ar 1 32 (zr 32 (.int .u8 0))), (.ar 1 32 (zr 32 (.int .u8 0))), (.bl false), (.st 18 [(.st 17 [(.bl false), (.ar 1 16 (zr 16 (.int .u8 0)))]), (.int .i64 0)]), (.int .i64 0), (.ar 1 12 (zr 12 (.int .u8 0))), (.bl false), (.int .i64 0), (.st 100 [(.bl false), (.int .u32 0), (.ar 1 32 (zr 32 (.int .u8 0))), (.st 64 [(.ar 1 32 (zr 32 (.int .u8 0))), (.ar 1 32 (zr 32 (.int .u8 0)))]), (.int .i64 0), (.int .i64 0)]), (.bl false), (.ar 1 16 (zr 16 (.int .u8 0))), (.int .i64 0), (.ar 1 16 (zr 16 (.int .u8 0))), (.st 231 [(.st 77 [(.bl false), (.st 76 [(.int .u32 0), (.int .u32 0), (.ar 1 32 (zr 32 (.int .u8 0))), (.ar 1 32 (zr 32 (.int .u8 0))), (.int .u64 0), (.int .u64 0), (.st 6 [(.bl false), (.int .u64 0), (.ar 1 4 (zr 4 (.int .u64 0)))]), (.int .i64 0), (.bl false)])]), (.st 77 [(.bl false), (.st 76 [(.int .u32 0), (.int .u32 0), (.ar 1 32 (zr 32 (.int .u8 0))), (.ar 1 32 (zr 32 (.int .u8 0))), (.int .u64 0), (.int .u64 0), (.st 6 [(.bl false), (.int .u64 0), (.ar 1 4 (zr 4 (.int .u64 0)))]), (.int .i64 0), (.bl false)])]), (.st 77 [(.bl false), (.st 76 [(.int .u32 0), (.int .u32 0), (.ar 1 32 (zr 32 (.int .u8 0))), (.ar 1 32 (zr 32 (.int .u8 0))), (.int .u64 0), (.int .u64 0), (.st 6 [(.bl false), (.int .u64 0), (.ar 1 4 (zr 4 (.int .u64 0)))]), (.int .i64 0), (.bl false)])])]), (.sl 1 [] true)])),
 ⟨none, none, false, .store 464 (.t 6) (.t 48)⟩])
 (.seq (.seq (.region [f 49 2 64 6,
 l 50 49])
 (.cond (.t 50)
 (.region [m 51 5,
 c 52 I.burrowmake_At [(.t 51)],
 f 53 3 65 6,
 ⟨none, none, false, .store 18 (.t 53) (.t 52)⟩])
 (.skip)))
 (.seq (.seq (.region [m 54 0,
 c 55 I.burrowcase_Codes_Next [(.t 54), (.c (.int .i64 4))],
 o 56 (.bin .eql .no (.t 55) (.c (.int .i64 1)))])
 (.cond (.t 56)
 (.seq (.region [m 57 0,
 c 58 I.burrowcase_Codes_Next [(.t 57), (.c (.int .i64 30))],
 o 59 (.bin .add .no (.c (.int .i64 1)) (.t 58)),
 o 60 (.bin .mul .no (.c (.int .i64 1000)) (.t 59)),
 f 61 4 83 6,
 ⟨none, none, false, .store 1 (.t 61) (.t 60)⟩])
 (.regionD [f 62 9 111 3,
 l 63 62,
 f 64 5 107 3,
 l 65 64,
 o 66 (.bin .add .no (.t 65) (.c (.int .i64 1))),
 m 67 0,
 c 68 I.burrowcase_Codes_Next [(.t 67), (.c (.int .i64 200))],
 o 69 (.bin .mul .no (.t 68) (.c (.int .i64 10))),
 o 70 (.bin .add .no (.t 66) (.t 69)),
 f 71 0 0 6,
 o 72 (.load true 32 (.t 71)),
 u 73 (.build (.st 34 [(.int .i64 0), (.ar 1 32 (zr 32 (.int .u8 0))), (.int .i64 0)]) [(0, (.t 70)), (1, (.t 72)), (2, (.c (.int .i64 4)))]),
 u 74 (.callq (.c (.fn (.func I.burrowref14_Set) [] [])) [(.t 63), (.t 73)]),
 f 75 9 111 3,
 ⟨none, none, false, .store 1 (.t 75) (.t 74)⟩] [0, 1, 2, 3, 4, 5, 9, 10, 6, 7, 8, 11, 12, 13, 14] [0, 1, 2, 3, 9, 10, 6]))
 (.skip)))
 (.seq (.region [f 76 6 108 3,
 l 77 76,
 o 78 (.load true 464 (.t 6)),
 u 79 (.buildSlice false 464 (.st 464 [(.ar 1 32 (zr 32 (.int .u8 0))), (.ar 1 32 (zr 32 (.int .u8 0))), (.bl false), (.st 18 [(.st 17 [(.bl false), (.ar 1 16 (zr 16 (.int .u8 0)))]), (.int .i64 0)]), (.int .i64 0), (.ar 1 12 (zr 12 (.int .u8 0))), (.bl false), (.int .i64 0), (.st 100 [(.bl false), (.int .u32 0), (.ar 1 32 (zr 32 (.int .u8 0))), (.st 64 [(.ar 1 32 (zr 32 (.int .u8 0))), (.ar 1 32 (zr 32 (.int .u8 0)))]), (.int .i64 0), (.int .i64 0)]), (.bl false), (.ar 1 16 (zr 16 (.int .u8 0))), (.int .i64 0), (.ar 1 16 (zr 16 (.int .u8 0))), (.st 231 [(.st 77 [(.bl false), (.st 76 [(.int .u32 0), (.int .u32 0), (.ar 1 32 (zr 32 (.int .u8 0))), (.ar 1 32 (zr 32 (.int .u8 0))), (.int .u64 0), (.int .u64 0), (.st 6 [(.bl false), (.int .u64 0), (.ar 1 4 (zr 4 (.int .u64 0)))]), (.int .i64 0), (.bl false)])]), (.st 77 [(.bl false), (.st 76 [(.int .u32 0), (.int .u32 0), (.ar 1 32 (zr 32 (.int .u8 0))), (.ar 1 32 (zr 32 (.int .u8 0))), (.int .u64 0), (.int .u64 0), (.st 6 [(.bl false), (.int .u64 0), (.ar 1 4 (zr 4 (.int .u64 0)))]), (.int .i64 0), (.bl false)])]), (.st 77 [(.bl false), (.st 76 [(.int .u32 0), (.int .u32 0), (.ar 1 32 (zr 32 (.int .u8 0))), (.ar 1 32 (zr 32 (.int .u8 0))), (.int .u64 0), (.int .u64 0), (.st 6 [(.bl false), (.int .u64 0), (.ar 1 4 (zr 4 (.int .u64 0)))]), (.int .i64 0), (.bl false)])])]), (.sl 1 [] true)]) 1 [(0, (.t 78))]),
 u 80 (.append 464 808 false (.t 77) (.t 79)),
 f 81 6 108 3,
 ⟨none, none, false, .store 1 (.t 81) (.t 80)⟩])
 (.region [f 83 7 109 3,
 l 84 83,
 m 85 5,
 o 86 (.bin .add .no (.t 85) (.c (.int .i64 1))),
 u 87 (.callq (.c (.fn (.func I.burrowcase_Host) [] [])) [(.t 86), (.c (.int .i64 0))]),
 u 88 (.callq (.c (.fn (.func I.burrowcase_Masked) [] [])) [(.t 87), (.c (.int .i64 16))]),
 f 89 0 0 6,
 o 90 (.load true 32 (.t 89)),
 u 91 (.callq (.c (.fn (.func I.burrowref14_InsertRoute) [] [])) [(.t 84), (.t 88), (.t 90)]),
 m 82 91,
 o 92 (.extract 0 (.t 82)),
 o 93 (.extract 1 (.t 82)),
 f 94 7 109 3,
 ⟨none, none, false, .store 1 (.t 94) (.t 92)⟩]))))))
 (.region [m 41 5,
 o 42 (.bin .add .no (.t 41) (.c (.int .i64 1))),
 m 5 42]))
def burrowmake_Daemonl1 : ACode :=
 .seq (.seq (.region [m 102 8,
 o 103 (.bin .gtr .no (.t 102) (.c (.int .i64 0)))])
 (.cond (.t 103)
 (.skip)
 (.exit 4)))
 (.seq (.block 5 (.regionD [o 107 (.load true 148 (.t 3)),
 m 108 7,
 u 109 (.callq (.c (.fn (.func I.burrowmake_Peer) [] [])) [(.t 108)]),
 m 110 0,
 o 111 (.load true 148 (.t 3)),
 m 112 7,
 o 113 (.bin .mul .no (.c (.int .i64 10)) (.t 112)),
 m 114 8,
 o 115 (.bin .add .no (.t 113) (.t 114)),
 o 116 (.convI .u32 (.t 115)),
 c 117 I.burrowmake_Session [(.t 110), (.t 111), (.t 116)],
 m 118 0,
 c 119 I.burrowcase_Codes_Bool [(.t 118)],
 u 120 (.callq (.c (.fn (.func I.burrowref24_Install) [] [])) [(.t 107), (.t 109), (.t 117), (.t 119)]),
 m 106 120,
 o 121 (.extract 0 (.t 106)),
 o 122 (.extract 1 (.t 106)),
 ⟨none, none, false, .store 148 (.t 3) (.t 121)⟩] [0, 1, 2, 3, 4, 5, 6, 7, 8, 9, 11, 10, 12, 13, 14, 15, 16, 17] [0, 10, 12]))
 (.region [m 104 8,
 o 105 (.bin .sub .no (.t 104) (.c (.int .i64 1))),
 m 8 105]))
def burrowmake_Daemonc2 : ACode :=
 .region [m 98 7,
 o 99 (.bin .add .no (.t 98) (.c (.int .i64 1))),
 m 7 99]
def burrowmake_Daemonl3 : ACode :=
 .seq (.seq (.region [m 95 7,
 m 96 4,
 o 97 (.bin .lss .no (.t 95) (.t 96))])
 (.cond (.t 97)
 (.skip)
 (.exit 2)))
 (.seq (.block 3 (.seq (.region [m 100 0,
 c 101 I.burrowcase_Codes_Next [(.t 100), (.c (.int .i64 4))],
 m 8 101])
 (.block 4 (.loop burrowmake_Daemonl1))))
 burrowmake_Daemonc2)
def burrowmake_Daemonc4 : ACode :=
 .seq (.region [o 123 (.load true 148 (.t 3)),
 ⟨none, none, false, .store 148 (.t 2) (.t 123)⟩])
 (.ret)
def burrowmake_Daemonc5 : ACode :=
 .seq (.seq (.region [o 7 (.mv (.c (.int .i64 0)))])
 (.block 2 (.loop burrowmake_Daemonl3)))
 burrowmake_Daemonc4
def burrowmake_Daemon : AFun := ⟨124, [.load true 148 (.t 2)],
 .seq (.region [u 2 (.alloc (.st 148 [(.st 10 [(.int .u64 0), (.int .u64 0), (.int .i64 0), (.int .i64 0), (.int .i64 0), (.int .i64 0), (.int .i64 0), (.int .i64 0), (.int .i64 0), (.int .i64 0)]), (.ar 1 32 (zr 32 (.int .u8 0))), (.ar 1 32 (zr 32 (.int .u8 0))), (.int .i64 0), (.ar 1 32 (zr 32 (.int .u8 0))), (.int .i64 0), (.sl 464 [] true), (.sl 50 [] true), (.sl 34 [] true), (.sl 34 [] true), (.ar 1 32 (zr 32 (.int .u8 0))), (.int .i64 0), (.sl 1 [] true), (.sl 19 [] true), (.int .i64 0)]))])
 (.seq (.region [m 9 0,
 c 10 I.burrowcase_Codes_Rules [(.t 9)],
 m 11 0,
 c 12 I.burrowcase_Codes_Key [(.t 11)],
 m 13 0,
 c 14 I.burrowcase_Codes_Key [(.t 13)],
 m 15 0,
 c 16 I.burrowcase_Codes_Big [(.t 15), (.c (.int .i64 65536))],
 m 17 0,
 c 18 I.burrowcase_Codes_Key [(.t 17)],
 m 19 0,
 c 20 I.burrowcase_Codes_Big [(.t 19), (.c (.int .i64 16777216))],
 u 21 (.build (.st 148 [(.st 10 [(.int .u64 0), (.int .u64 0), (.int .i64 0), (.int .i64 0), (.int .i64 0), (.int .i64 0), (.int .i64 0), (.int .i64 0), (.int .i64 0), (.int .i64 0)]), (.ar 1 32 (zr 32 (.int .u8 0))), (.ar 1 32 (zr 32 (.int .u8 0))), (.int .i64 0), (.ar 1 32 (zr 32 (.int .u8 0))), (.int .i64 0), (.sl 464 [] true), (.sl 50 [] true), (.sl 34 [] true), (.sl 34 [] true), (.ar 1 32 (zr 32 (.int .u8 0))), (.int .i64 0), (.sl 1 [] true), (.sl 19 [] true), (.int .i64 0)]) [(0, (.t 10)), (1, (.t 12)), (2, (.t 14)), (3, (.t 16)), (4, (.t 18)), (5, (.t 20))]),
 u 3 (.alloc (.st 148 [(.st 10 [(.int .u64 0), (.int .u64 0), (.int .i64 0), (.int .i64 0), (.int .i64 0), (.int .i64 0), (.int .i64 0), (.int .i64 0), (.int .i64 0), (.int .i64 0)]), (.ar 1 32 (zr 32 (.int .u8 0))), (.ar 1 32 (zr 32 (.int .u8 0))), (.int .i64 0), (.ar 1 32 (zr 32 (.int .u8 0))), (.int .i64 0), (.sl 464 [] true), (.sl 50 [] true), (.sl 34 [] true), (.sl 34 [] true), (.ar 1 32 (zr 32 (.int .u8 0))), (.int .i64 0), (.sl 1 [] true), (.sl 19 [] true), (.int .i64 0)])),
 ⟨none, none, false, .store 148 (.t 3) (.t 21)⟩])
 (.seq (.regionD [m 22 0,
 c 23 I.burrowcase_Codes_Key [(.t 22)],
 f 24 5 107 3,
 l 25 24,
 m 26 0,
 c 27 I.burrowcase_Codes_Next [(.t 26), (.c (.int .i64 2))],
 f 28 5 107 3,
 l 29 28,
 o 30 (.mm false [(.t 29), (.c (.int .i64 20000))]),
 o 31 (.bin .mul .no (.t 27) (.t 30)),
 o 32 (.bin .sub .no (.t 25) (.t 31)),
 f 33 10 112 3,
 ⟨none, none, false, .store 32 (.t 33) (.t 23)⟩,
 f 34 11 144 3,
 ⟨none, none, false, .store 1 (.t 34) (.t 32)⟩] [0, 2, 3, 4, 6, 7, 8, 1, 11, 5, 9, 10, 12, 13, 14] [2, 3, 6, 7, 11, 1, 5])
 (.seq (.region [m 35 0,
 c 36 I.burrowcase_Codes_Next [(.t 35), (.c (.int .i64 2))],
 o 37 (.bin .add .no (.c (.int .i64 2)) (.t 36)),
 m 4 37])
 (.seq (.seq (.region [o 5 (.mv (.c (.int .i64 0)))])
 (.block 0 (.loop burrowmake_Daemonl0)))
 burrowmake_Daemonc5))))⟩
def burrowcase_New : AFun := ⟨13, [.mv (.t 4)],
 .seq (.region [o 4 (.mv (.c .np))])
 (.seq (.region [m 5 0,
 m 6 0,
 o 7 (.len (.t 6)),
 m 8 1,
 o 9 (.mm false [(.t 7), (.t 8)]),
 u 10 (.slice (.sl 1) (.t 5) none (some (.t 9)) none),
 u 11 (.build (.st 2 [(.sl 1 [] true), (.int .i64 0)]) [(0, (.t 10))]),
 u 12 (.box (.t 11)),
 m 4 12])
 (.ret))⟩
def burrowref24_Copyl0 : ACode :=
 .seq (.region [o 25 (.bin .lss .no (.t 24) (.t 23))])
 (.seq (.cond (.t 25)
 (.skip)
 (.exit 2))
 (.seq (.block 3 (.seq (.region [u 26 (.indexA (.sl 1) (.t 22) (.t 24)),
 l 27 26,
 m 6 27])
 (.region [m 28 4,
 u 29 (.buildSlice false 1 (.int .u8 0) 0 []),
 m 30 6,
 u 31 (.append 1 1 false (.t 29) (.t 30)),
 u 32 (.buildSlice false 1 (.sl 1 [] true) 1 [(0, (.t 31))]),
 u 33 (.append 1 24 false (.t 28) (.t 32)),
 m 4 33])))
 (.region [o 34 (.bin .add .no (.t 24) (.c (.int .i64 1))),
 m 24 34])))
def burrowref24_Copyc1 : ACode :=
 .region [f 35 6 108 1,
 l 36 35,
 m 37 3,
 m 38 4,
 u 39 (.indexA (.sl 464) (.t 36) (.t 37)),
 f 40 14 463 39,
 ⟨none, none, false, .store 1 (.t 40) (.t 38)⟩]
def burrowref24_Copyc2 : ACode :=
 .region [o 41 (.bin .add .no (.t 14) (.c (.int .i64 1))),
 m 14 41]
def burrowref24_Copyl3 : ACode :=
 .seq (.region [o 15 (.bin .lss .no (.t 14) (.t 13))])
 (.seq (.cond (.t 15)
 (.skip)
 (.exit 0))
 (.seq (.block 1 (.seq (.region [m 16 14,
 m 3 16])
 (.seq (.region [o 4 (.mv (.c (.sl 1 [] true)))])
 (.seq (.seq (.region [f 17 6 108 1,
 l 18 17,
 m 19 3,
 u 20 (.indexA (.sl 464) (.t 18) (.t 19)),
 f 21 14 463 20,
 l 22 21,
 o 23 (.len (.t 22)),
 o 24 (.mv (.c (.int .i64 0)))])
 (.block 2 (.loop burrowref24_Copyl0)))
 burrowref24_Copyc1))))
 burrowref24_Copyc2))
def burrowref24_Copyc4 : ACode :=
 .seq (.regionD [f 42 7 109 1,
 l 43 42,
 u 44 (.append 50 64 false (.c (.sl 0 [] true)) (.t 43)),
 f 45 8 110 1,
 l 46 45,
 u 47 (.append 34 40 false (.c (.sl 0 [] true)) (.t 46)),
 f 48 7 109 1,
 ⟨none, none, false, .store 1 (.t 48) (.t 44)⟩,
 f 49 8 110 1,
 ⟨none, none, false, .store 1 (.t 49) (.t 47)⟩] [0, 1, 3, 4, 2, 6, 5, 7, 8, 9] [3, 4, 6, 2, 5])
 (.seq (.regionD [f 50 9 111 1,
 l 51 50,
 u 52 (.append 34 48 false (.c (.sl 0 [] true)) (.t 51)),
 f 53 12 145 1,
 l 54 53,
 u 55 (.append 1 8 false (.c (.sl 0 [] true)) (.t 54)),
 f 56 9 111 1,
 ⟨none, none, false, .store 1 (.t 56) (.t 52)⟩,
 f 57 12 145 1,
 ⟨none, none, false, .store 1 (.t 57) (.t 55)⟩] [0, 1, 3, 4, 2, 6, 5, 7, 8, 9] [3, 4, 6, 2, 5])
 (.seq (.region [f 58 13 146 1,
 l 59 58,
 u 60 (.append 19 40 false (.c (.sl 0 [] true)) (.t 59)),
 f 61 13 146 1,
 ⟨none, none, false, .store 1 (.t 61) (.t 60)⟩])
 (.seq (.region [o 62 (.load true 148 (.t 1)),
 ⟨none, none, false, .store 148 (.t 2) (.t 62)⟩])
 (.ret))))
def burrowref24_Copy : AFun := ⟨63, [.load true 148 (.t 2)],
 .seq (.region [u 1 (.box (.t 0)),
 u 2 (.alloc (.st 148 [(.st 10 [(.int .u64 0), (.int .u64 0), (.int .i64 0), (.int .i64 0), (.int .i64 0), (.int .i64 0), (.int .i64 0), (.int .i64 0), (.int .i64 0), (.int .i64 0)]), (.ar 1 32 (zr 32 (.int .u8 0))), (.ar 1 32 (zr 32 (.int .u8 0))), (.int .i64 0), (.ar 1 32 (zr 32 (.int .u8 0))), (.int .i64 0), (.sl 464 [] true), (.sl 50 [] true), (.sl 34 [] true), (.sl 34 [] true), (.ar 1 32 (zr 32 (.int .u8 0))), (.int .i64 0), (.sl 1 [] true), (.sl 19 [] true), (.int .i64 0)]))])
 (.seq (.region [f 7 6 108 1,
 l 8 7,
 u 9 (.append 464 808 false (.c (.sl 0 [] true)) (.t 8)),
 f 10 6 108 1,
 ⟨none, none, false, .store 1 (.t 10) (.t 9)⟩])
 (.seq (.seq (.region [f 11 6 108 1,
 l 12 11,
 o 13 (.len (.t 12)),
 o 14 (.mv (.c (.int .i64 0)))])
 (.block 0 (.loop burrowref24_Copyl3)))
 burrowref24_Copyc4))⟩
def burrowref24_Check : AFun := ⟨58, [.mv (.t 2)],
 .seq (.region [u 1 (.box (.t 0)),
 o 2 (.mv (.c (.int .i64 0)))])
 (.seq (.block 0 (.seq (.region [f 4 0 0 1,
 o 5 (.load true 10 (.t 4)),
 c 6 I.burrowref24_ValidRules [(.t 5)],
 o 7 (.un .not (.t 6)),
 m 8 7,
 g 9 8 false true (.fieldA 5 107 (.t 1)),
 k 10 8 false 9,
 g 11 8 false false (.call (.c (.fn (.func I.burrowref24_within) [] [])) [(.t 10), (.c (.int .i64 0)), (.c (.int .i64 1099511627776))]),
 g 12 8 false false (.un .not (.t 11)),
 o 13 (.pick (.t 8) (.c (.bl true)) (.t 12)),
 m 14 13,
 g 15 14 false true (.fieldA 3 74 (.t 1)),
 k 16 14 false 15,
 g 17 14 false false (.call (.c (.fn (.func I.burrowref24_within) [] [])) [(.t 16), (.c (.int .i64 0)), (.c (.int .i64 65535))]),
 g 18 14 false false (.un .not (.t 17)),
 o 19 (.pick (.t 14) (.c (.bl true)) (.t 18)),
 m 20 19,
 g 21 20 false true (.fieldA 14 147 (.t 1)),
 k 22 20 false 21,
 g 23 20 false false (.call (.c (.fn (.func I.burrowref24_within) [] [])) [(.t 22), (.c (.int .i64 0)), (.c (.int .i64 1099511627776))]),
 g 24 20 false false (.un .not (.t 23)),
 o 25 (.pick (.t 20) (.c (.bl true)) (.t 24)),
 m 3 25])
 (.cond (.t 3)
 (.seq (.region [o 2 (.mv (.c (.int .i64 1)))])
 (.ret))
 (.seq (.region [o 27 (.load true 148 (.t 1)),
 c 28 I.burrowref24_peers [(.t 27)],
 o 29 (.un .not (.t 28)),
 m 26 29])
 (.cond (.t 26)
 (.seq (.region [o 2 (.mv (.c (.int .i64 2)))])
 (.ret))
 (.seq (.region [o 31 (.load true 148 (.t 1)),
 c 32 I.burrowref24_each [(.t 31), (.c (.int .i64 3))],
 o 33 (.un .not (.t 32)),
 m 30 33])
 (.cond (.t 30)
 (.seq (.region [o 2 (.mv (.c (.int .i64 3)))])
 (.ret))
 (.seq (.region [o 35 (.load true 148 (.t 1)),
 c 36 I.burrowref24_each [(.t 35), (.c (.int .i64 4))],
 o 37 (.un .not (.t 36)),
 m 34 37])
 (.cond (.t 34)
 (.seq (.region [o 2 (.mv (.c (.int .i64 4)))])
 (.ret))
 (.seq (.region [o 39 (.load true 148 (.t 1)),
 c 40 I.burrowref24_each [(.t 39), (.c (.int .i64 5))],
 o 41 (.un .not (.t 40)),
 m 38 41])
 (.cond (.t 38)
 (.seq (.region [o 2 (.mv (.c (.int .i64 5)))])
 (.ret))
 (.seq (.region [o 43 (.load true 148 (.t 1)),
 c 44 I.burrowref24_routes [(.t 43)],
 o 45 (.un .not (.t 44)),
 m 42 45])
 (.cond (.t 42)
 (.seq (.region [o 2 (.mv (.c (.int .i64 6)))])
 (.ret))
 (.seq (.region [o 47 (.load true 148 (.t 1)),
 c 48 I.burrowref24_slots [(.t 47)],
 o 49 (.un .not (.t 48)),
 m 46 49])
 (.cond (.t 46)
 (.seq (.region [o 2 (.mv (.c (.int .i64 7)))])
 (.ret))
 (.seq (.region [o 51 (.load true 148 (.t 1)),
 c 52 I.burrowref24_timers [(.t 51)],
 o 53 (.un .not (.t 52)),
 m 50 53])
 (.cond (.t 50)
 (.seq (.region [o 2 (.mv (.c (.int .i64 8)))])
 (.ret))
 (.seq (.region [o 55 (.load true 148 (.t 1)),
 c 56 I.burrowref24_load [(.t 55)],
 o 57 (.un .not (.t 56)),
 m 54 57])
 (.cond (.t 54)
 (.seq (.region [o 2 (.mv (.c (.int .i64 9)))])
 (.ret))
 (.skip))))))))))))))))))))
 (.seq (.region [o 2 (.mv (.c (.int .i64 0)))])
 (.ret)))⟩
def fence_Reserver0 : ACode :=
 .block 1 (.region [m 16 8,
 m 17 8,
 o 18 (.nilCheck (.t 17)),
 o 19 (.load true 76 (.t 18)),
 f 20 0 0 2,
 o 21 (.load true 10 (.t 20)),
 l 22 3,
 u 23 (.callq (.c (.fn (.func I.fence_Edge) [] [])) [(.t 19), (.t 21), (.t 22)]),
 o 24 (.nilCheck (.t 16)),
 f 25 5 67 24,
 ⟨none, none, false, .store 1 (.t 25) (.t 23)⟩])
def fence_Reserver1 : ACode :=
 .block 3 (.regionD [m 28 9,
 m 29 9,
 m 30 9,
 o 31 (.nilCheck (.t 30)),
 o 32 (.load true 76 (.t 31)),
 f 33 0 0 2,
 o 34 (.load true 10 (.t 33)),
 l 35 3,
 u 36 (.callq (.c (.fn (.func I.fence_Edge) [] [])) [(.t 32), (.t 34), (.t 35)]),
 f 37 0 0 2,
 f 38 1 1 37,
 l 39 38,
 o 40 (.nilCheck (.t 28)),
 f 41 4 66 40,
 ⟨none, none, false, .store 1 (.t 41) (.t 36)⟩,
 o 42 (.nilCheck (.t 29)),
 f 43 5 67 42,
 ⟨none, none, false, .store 1 (.t 43) (.t 39)⟩] [0, 1, 2, 3, 4, 5, 6, 7, 8, 9, 10, 11, 12, 13, 14, 15, 16, 17] [9, 10, 11, 14])
def fence_Reservec2 : ACode :=
 .seq (.regionD [o 44 (.load true 148 (.t 6)),
 o 45 (.load true 148 (.t 7)),
 ⟨none, none, false, .store 148 (.t 4) (.t 44)⟩,
 ⟨none, none, false, .store 148 (.t 5) (.t 45)⟩] [0, 1, 2, 3] [1, 2])
 (.ret)
def fence_Reservec3 : ACode :=
 .seq (.seq (.region [c 26 I.fence_sessions [(.t 7)]])
 (.block 2 (.rangeF (.t 26) [27] (.region [m 9 27]) fence_Reserver1)))
 fence_Reservec2
def fence_Reserve : AFun := ⟨46, [.load true 148 (.t 4), .load true 148 (.t 5)],
 .seq (.region [u 2 (.box (.t 0)),
 u 3 (.box (.t 1)),
 u 4 (.alloc (.st 148 [(.st 10 [(.int .u64 0), (.int .u64 0), (.int .i64 0), (.int .i64 0), (.int .i64 0), (.int .i64 0), (.int .i64 0), (.int .i64 0), (.int .i64 0), (.int .i64 0)]), (.ar 1 32 (zr 32 (.int .u8 0))), (.ar 1 32 (zr 32 (.int .u8 0))), (.int .i64 0), (.ar 1 32 (zr 32 (.int .u8 0))), (.int .i64 0), (.sl 464 [] true), (.sl 50 [] true), (.sl 34 [] true), (.sl 34 [] true), (.ar 1 32 (zr 32 (.int .u8 0))), (.int .i64 0), (.sl 1 [] true), (.sl 19 [] true), (.int .i64 0)])),
 u 5 (.alloc (.st 148 [(.st 10 [(.int .u64 0), (.int .u64 0), (.int .i64 0), (.int .i64 0), (.int .i64 0), (.int .i64 0), (.int .i64 0), (.int .i64 0), (.int .i64 0), (.int .i64 0)]), (.ar 1 32 (zr 32 (.int .u8 0))), (.ar 1 32 (zr 32 (.int .u8 0))), (.int .i64 0), (.ar 1 32 (zr 32 (.int .u8 0))), (.int .i64 0), (.sl 464 [] true), (.sl 50 [] true), (.sl 34 [] true), (.sl 34 [] true), (.ar 1 32 (zr 32 (.int .u8 0))), (.int .i64 0), (.sl 1 [] true), (.sl 19 [] true), (.int .i64 0)]))])
 (.seq (.regionD [o 10 (.load true 148 (.t 2)),
 c 11 I.own_Daemon [(.t 10)],
 o 12 (.load true 148 (.t 2)),
 c 13 I.own_Daemon [(.t 12)],
 u 6 (.alloc (.st 148 [(.st 10 [(.int .u64 0), (.int .u64 0), (.int .i64 0), (.int .i64 0), (.int .i64 0), (.int .i64 0), (.int .i64 0), (.int .i64 0), (.int .i64 0), (.int .i64 0)]), (.ar 1 32 (zr 32 (.int .u8 0))), (.ar 1 32 (zr 32 (.int .u8 0))), (.int .i64 0), (.ar 1 32 (zr 32 (.int .u8 0))), (.int .i64 0), (.sl 464 [] true), (.sl 50 [] true), (.sl 34 [] true), (.sl 34 [] true), (.ar 1 32 (zr 32 (.int .u8 0))), (.int .i64 0), (.sl 1 [] true), (.sl 19 [] true), (.int .i64 0)])),
 u 7 (.alloc (.st 148 [(.st 10 [(.int .u64 0), (.int .u64 0), (.int .i64 0), (.int .i64 0), (.int .i64 0), (.int .i64 0), (.int .i64 0), (.int .i64 0), (.int .i64 0), (.int .i64 0)]), (.ar 1 32 (zr 32 (.int .u8 0))), (.ar 1 32 (zr 32 (.int .u8 0))), (.int .i64 0), (.ar 1 32 (zr 32 (.int .u8 0))), (.int .i64 0), (.sl 464 [] true), (.sl 50 [] true), (.sl 34 [] true), (.sl 34 [] true), (.ar 1 32 (zr 32 (.int .u8 0))), (.int .i64 0), (.sl 1 [] true), (.sl 19 [] true), (.int .i64 0)])),
 ⟨none, none, false, .store 148 (.t 6) (.t 11)⟩,
 ⟨none, none, false, .store 148 (.t 7) (.t 13)⟩] [0, 2, 1, 3, 4, 5, 6, 7] [0, 2, 1, 4, 5])
 (.seq (.seq (.region [c 14 I.fence_sessions [(.t 6)]])
 (.block 0 (.rangeF (.t 14) [15] (.region [m 8 15]) fence_Reserver0)))
 fence_Reservec3))⟩
def burrowref25_Samel0 : ACode :=
 .seq (.region [o 80 (.bin .lss .no (.t 79) (.t 78))])
 (.seq (.cond (.t 80)
 (.skip)
 (.exit 0))
 (.seq (.block 1 (.seq (.region [m 81 79,
 m 5 81])
 (.seq (.region [f 82 6 108 2,
 l 83 82,
 m 84 5,
 u 85 (.indexA (.sl 464) (.t 83) (.t 84)),
 o 86 (.load true 464 (.t 85)),
 f 87 6 108 3,
 l 88 87,
 m 89 5,
 u 90 (.indexA (.sl 464) (.t 88) (.t 89)),
 o 91 (.load true 464 (.t 90)),
 u 92 (.callq (.c (.fn (.func I.burrowref25_SamePeer) [] [])) [(.t 86), (.t 91)]),
 o 93 (.un .not (.t 92))])
 (.cond (.t 93)
 (.seq (.region [o 4 (.mv (.c (.bl false)))])
 (.ret))
 (.skip)))))
 (.region [o 94 (.bin .add .no (.t 79) (.c (.int .i64 1))),
 m 79 94])))
def burrowref25_Samec1 : ACode :=
 .seq (.region [o 95 (.load true 148 (.t 2)),
 o 96 (.load true 148 (.t 3)),
 c 97 I.burrowref25_sameLists [(.t 95), (.t 96)],
 m 4 97])
 (.ret)
def burrowref25_Same : AFun := ⟨98, [.mv (.t 4)],
 .seq (.region [u 2 (.box (.t 0)),
 u 3 (.box (.t 1)),
 o 4 (.mv (.c (.bl false)))])
 (.seq (.seq (.region [f 6 0 0 2,
 o 7 (.load true 10 (.t 6)),
 f 8 0 0 3,
 o 9 (.load true 10 (.t 8)),
 o 10 (.bin .neq (.sh (.st [(.i .u64), (.i .u64), (.i .i64), (.i .i64), (.i .i64), (.i .i64), (.i .i64), (.i .i64), (.i .i64), (.i .i64)])) (.t 7) (.t 9)),
 m 11 10,
 g 12 11 false true (.fieldA 1 10 (.t 2)),
 g 13 11 false true (.load true 32 (.t 12)),
 g 14 11 false true (.fieldA 1 10 (.t 3)),
 g 15 11 false true (.load true 32 (.t 14)),
 g 16 11 false true (.bin .neq (.sh (.ar 32 (.i .u8))) (.t 13) (.t 15)),
 o 17 (.pick (.t 11) (.c (.bl true)) (.t 16)),
 m 18 17,
 g 19 18 false true (.fieldA 2 42 (.t 2)),
 g 20 18 false true (.load true 32 (.t 19)),
 g 21 18 false true (.fieldA 2 42 (.t 3)),
 g 22 18 false true (.load true 32 (.t 21)),
 g 23 18 false true (.bin .neq (.sh (.ar 32 (.i .u8))) (.t 20) (.t 22)),
 o 24 (.pick (.t 18) (.c (.bl true)) (.t 23)),
 m 25 24,
 g 26 25 false true (.fieldA 3 74 (.t 2)),
 k 27 25 false 26,
 g 28 25 false true (.fieldA 3 74 (.t 3)),
 k 29 25 false 28,
 g 30 25 false true (.bin .neq .no (.t 27) (.t 29)),
 o 31 (.pick (.t 25) (.c (.bl true)) (.t 30)),
 m 32 31,
 g 33 32 false true (.fieldA 4 75 (.t 2)),
 g 34 32 false true (.load true 32 (.t 33)),
 g 35 32 false true (.fieldA 4 75 (.t 3)),
 g 36 32 false true (.load true 32 (.t 35)),
 g 37 32 false true (.bin .neq (.sh (.ar 32 (.i .u8))) (.t 34) (.t 36)),
 o 38 (.pick (.t 32) (.c (.bl true)) (.t 37)),
 m 39 38,
 g 40 39 false true (.fieldA 5 107 (.t 2)),
 k 41 39 false 40,
 g 42 39 false true (.fieldA 5 107 (.t 3)),
 k 43 39 false 42,
 g 44 39 false true (.bin .neq .no (.t 41) (.t 43)),
 o 45 (.pick (.t 39) (.c (.bl true)) (.t 44)),
 m 46 45,
 g 47 46 false true (.fieldA 10 112 (.t 2)),
 g 48 46 false true (.load true 32 (.t 47)),
 g 49 46 false true (.fieldA 10 112 (.t 3)),
 g 50 46 false true (.load true 32 (.t 49)),
 g 51 46 false true (.bin .neq (.sh (.ar 32 (.i .u8))) (.t 48) (.t 50)),
 o 52 (.pick (.t 46) (.c (.bl true)) (.t 51)),
 m 53 52,
 g 54 53 false true (.fieldA 11 144 (.t 2)),
 k 55 53 false 54,
 g 56 53 false true (.fieldA 11 144 (.t 3)),
 k 57 53 false 56,
 g 58 53 false true (.bin .neq .no (.t 55) (.t 57)),
 o 59 (.pick (.t 53) (.c (.bl true)) (.t 58)),
 m 60 59,
 g 61 60 false true (.fieldA 14 147 (.t 2)),
 k 62 60 false 61,
 g 63 60 false true (.fieldA 14 147 (.t 3)),
 k 64 60 false 63,
 g 65 60 false true (.bin .neq .no (.t 62) (.t 64)),
 o 66 (.pick (.t 60) (.c (.bl true)) (.t 65)),
 m 67 66,
 g 68 67 false true (.fieldA 6 108 (.t 2)),
 k 69 67 false 68,
 g 70 67 false true (.len (.t 69)),
 g 71 67 false true (.fieldA 6 108 (.t 3)),
 k 72 67 false 71,
 g 73 67 false true (.len (.t 72)),
 g 74 67 false true (.bin .neq .no (.t 70) (.t 73)),
 o 75 (.pick (.t 67) (.c (.bl true)) (.t 74))])
 (.cond (.t 75)
 (.seq (.region [o 4 (.mv (.c (.bl false)))])
 (.ret))
 (.skip)))
 (.seq (.seq (.region [f 76 6 108 2,
 l 77 76,
 o 78 (.len (.t 77)),
 o 79 (.mv (.c (.int .i64 0)))])
 (.block 0 (.loop burrowref25_Samel0)))
 burrowref25_Samec1))⟩
def fence_Liftr0 : ACode :=
 .block 1 (.region [m 8 3,
 f 9 0 0 1,
 f 10 1 1 9,
 l 11 10,
 o 12 (.nilCheck (.t 8)),
 f 13 5 67 12,
 ⟨none, none, false, .store 1 (.t 13) (.t 11)⟩])
def fence_Liftc1 : ACode :=
 .seq (.region [o 14 (.load true 148 (.t 1)),
 ⟨none, none, false, .store 148 (.t 2) (.t 14)⟩])
 (.ret)
def fence_Lift : AFun := ⟨15, [.load true 148 (.t 2)],
 .seq (.region [u 1 (.box (.t 0)),
 u 2 (.alloc (.st 148 [(.st 10 [(.int .u64 0), (.int .u64 0), (.int .i64 0), (.int .i64 0), (.int .i64 0), (.int .i64 0), (.int .i64 0), (.int .i64 0), (.int .i64 0), (.int .i64 0)]), (.ar 1 32 (zr 32 (.int .u8 0))), (.ar 1 32 (zr 32 (.int .u8 0))), (.int .i64 0), (.ar 1 32 (zr 32 (.int .u8 0))), (.int .i64 0), (.sl 464 [] true), (.sl 50 [] true), (.sl 34 [] true), (.sl 34 [] true), (.ar 1 32 (zr 32 (.int .u8 0))), (.int .i64 0), (.sl 1 [] true), (.sl 19 [] true), (.int .i64 0)]))])
 (.seq (.region [o 4 (.load true 148 (.t 1)),
 c 5 I.own_Daemon [(.t 4)],
 ⟨none, none, false, .store 148 (.t 1) (.t 5)⟩])
 (.seq (.seq (.region [c 6 I.fence_sessions [(.t 1)]])
 (.block 0 (.rangeF (.t 6) [7] (.region [m 3 7]) fence_Liftr0)))
 fence_Liftc1))⟩
def daemon_Valid : AFun := ⟨6, [.mv (.t 2)],
 .seq (.region [u 1 (.box (.t 0)),
 o 2 (.mv (.c (.bl false)))])
 (.seq (.region [o 3 (.load true 148 (.t 1)),
 c 4 I.rules_Check [(.t 3)],
 o 5 (.bin .eql .no (.t 4) (.c (.int .i64 0))),
 m 2 5])
 (.ret))⟩
def burrowmake_Sessionsl0 : ACode :=
 .seq (.seq (.region [m 15 6,
 o 16 (.bin .leq .no (.t 15) (.c (.int .i64 3)))])
 (.cond (.t 16)
 (.skip)
 (.exit 2)))
 (.seq (.block 3 (.seq (.region [f 19 13 232 5,
 o 20 (.load true 231 (.t 19)),
 m 21 6,
 c 22 I.burrowref22_Get [(.t 20), (.t 21)],
 u 7 (.alloc (.st 77 [(.bl false), (.st 76 [(.int .u32 0), (.int .u32 0), (.ar 1 32 (zr 32 (.int .u8 0))), (.ar 1 32 (zr 32 (.int .u8 0))), (.int .u64 0), (.int .u64 0), (.st 6 [(.bl false), (.int .u64 0), (.ar 1 4 (zr 4 (.int .u64 0)))]), (.int .i64 0), (.bl false)])])),
 ⟨none, none, false, .store 77 (.t 7) (.t 22)⟩])
 (.seq (.region [f 23 0 0 7,
 l 24 23])
 (.cond (.t 24)
 (.region [m 25 3,
 f 26 1 1 7,
 o 27 (.load true 76 (.t 26)),
 u 28 (.buildSlice false 76 (.st 76 [(.int .u32 0), (.int .u32 0), (.ar 1 32 (zr 32 (.int .u8 0))), (.ar 1 32 (zr 32 (.int .u8 0))), (.int .u64 0), (.int .u64 0), (.st 6 [(.bl false), (.int .u64 0), (.ar 1 4 (zr 4 (.int .u64 0)))]), (.int .i64 0), (.bl false)]) 1 [(0, (.t 27))]),
 u 29 (.append 76 152 false (.t 25) (.t 28)),
 m 3 29])
 (.skip)))))
 (.region [m 17 6,
 o 18 (.bin .add .no (.t 17) (.c (.int .i64 1))),
 m 6 18]))
def burrowmake_Sessionsc1 : ACode :=
 .region [o 30 (.bin .add .no (.t 11) (.c (.int .i64 1))),
 m 11 30]
def burrowmake_Sessionsl2 : ACode :=
 .seq (.region [o 12 (.bin .lss .no (.t 11) (.t 10))])
 (.seq (.cond (.t 12)
 (.skip)
 (.exit 0))
 (.seq (.block 1 (.seq (.region [u 13 (.indexA (.sl 464) (.t 9) (.t 11)),
 o 14 (.load true 464 (.t 13)),
 u 5 (.alloc (.st 464 [(.ar 1 32 (zr 32 (.int .u8 0))), (.ar 1 32 (zr 32 (.int .u8 0))), (.bl false), (.st 18 [(.st 17 [(.bl false), (.ar 1 16 (zr 16 (.int .u8 0)))]), (.int .i64 0)]), (.int .i64 0), (.ar 1 12 (zr 12 (.int .u8 0))), (.bl false), (.int .i64 0), (.st 100 [(.bl false), (.int .u32 0), (.ar 1 32 (zr 32 (.int .u8 0))), (.st 64 [(.ar 1 32 (zr 32 (.int .u8 0))), (.ar 1 32 (zr 32 (.int .u8 0)))]), (.int .i64 0), (.int .i64 0)]), (.bl false), (.ar 1 16 (zr 16 (.int .u8 0))), (.int .i64 0), (.ar 1 16 (zr 16 (.int .u8 0))), (.st 231 [(.st 77 [(.bl false), (.st 76 [(.int .u32 0), (.int .u32 0), (.ar 1 32 (zr 32 (.int .u8 0))), (.ar 1 32 (zr 32 (.int .u8 0))), (.int .u64 0), (.int .u64 0), (.st 6 [(.bl false), (.int .u64 0), (.ar 1 4 (zr 4 (.int .u64 0)))]), (.int .i64 0), (.bl false)])]), (.st 77 [(.bl false), (.st 76 [(.int .u32 0), (.int .u32 0), (.ar 1 32 (zr 32 (.int .u8 0))), (.ar 1 32 (zr 32 (.int .u8 0))), (.int .u64 0), (.int .u64 0), (.st 6 [(.bl false), (.int .u64 0), (.ar 1 4 (zr 4 (.int .u64 0)))]), (.int .i64 0), (.bl false)])]), (.st 77 [(.bl false), (.st 76 [(.int .u32 0), (.int .u32 0), (.ar 1 32 (zr 32 (.int .u8 0))), (.ar 1 32 (zr 32 (.int .u8 0))), (.int .u64 0), (.int .u64 0), (.st 6 [(.bl false), (.int .u64 0), (.ar 1 4 (zr 4 (.int .u64 0)))]), (.int .i64 0), (.bl false)])])]), (.sl 1 [] true)])),
 ⟨none, none, false, .store 464 (.t 5) (.t 14)⟩])
 (.seq (.region [o 6 (.mv (.c (.int .i64 1)))])
 (.block 2 (.loop burrowmake_Sessionsl0)))))
 burrowmake_Sessionsc1))
def burrowmake_Sessionsc3 : ACode :=
 .seq (.region [m 31 3,
 m 2 31])
 (.ret)
def burrowmake_Sessions : AFun := ⟨32, [.mv (.t 2)],
 .seq (.region [u 1 (.box (.t 0)),
 o 2 (.mv (.c (.sl 76 [] true)))])
 (.seq (.region [o 3 (.mv (.c (.sl 76 [] true)))])
 (.seq (.seq (.region [f 8 6 108 1,
 l 9 8,
 o 10 (.len (.t 9)),
 o 11 (.mv (.c (.int .i64 0)))])
 (.block 0 (.loop burrowmake_Sessionsl2)))
 burrowmake_Sessionsc3))⟩
def burrowlaw29_begun : AFun := ⟨5, [.mv (.t 0)],
 .seq (.region [o 0 (.mv (.c (.bl false)))])
 (.seq (.region [u 1 (.build (.st 76 [(.int .u32 0), (.int .u32 0), (.ar 1 32 (zr 32 (.int .u8 0))), (.ar 1 32 (zr 32 (.int .u8 0))), (.int .u64 0), (.int .u64 0), (.st 6 [(.bl false), (.int .u64 0), (.ar 1 4 (zr 4 (.int .u64 0)))]), (.int .i64 0), (.bl false)]) [(4, (.c (.int .u64 10)))]),
 u 2 (.build (.st 10 [(.int .u64 0), (.int .u64 0), (.int .i64 0), (.int .i64 0), (.int .i64 0), (.int .i64 0), (.int .i64 0), (.int .i64 0), (.int .i64 0), (.int .i64 0)]) [(1, (.c (.int .u64 50)))]),
 c 3 I.fence_Edge [(.t 1), (.t 2), (.c (.int .u64 100))],
 o 4 (.bin .eql .no (.t 3) (.c (.int .u64 50))),
 m 0 4])
 (.ret))⟩
def burrowcase_Codes_Rules : AFun := ⟨54, [.load true 10 (.t 2)],
 .seq (.region [u 2 (.alloc (.st 10 [(.int .u64 0), (.int .u64 0), (.int .i64 0), (.int .i64 0), (.int .i64 0), (.int .i64 0), (.int .i64 0), (.int .i64 0), (.int .i64 0), (.int .i64 0)]))])
 (.seq (.region [m 4 0,
 c 5 I.burrowcase_Codes_Next [(.t 4), (.c (.int .i64 40))],
 o 6 (.convI .u64 (.t 5)),
 o 7 (.bin .add .no (.c (.int .u64 1)) (.t 6)),
 m 8 0,
 c 9 I.burrowcase_Codes_Next [(.t 8), (.c (.int .i64 20))],
 o 10 (.bin .mul .no (.t 9) (.c (.int .i64 1000))),
 o 11 (.bin .add .no (.c (.int .i64 20000)) (.t 10)),
 m 12 0,
 c 13 I.burrowcase_Codes_Next [(.t 12), (.c (.int .i64 5))],
 o 14 (.bin .mul .no (.t 13) (.c (.int .i64 500))),
 o 15 (.bin .add .no (.c (.int .i64 1000)) (.t 14)),
 m 16 0,
 c 17 I.burrowcase_Codes_Next [(.t 16), (.c (.int .i64 5))],
 o 18 (.bin .mul .no (.t 17) (.c (.int .i64 1000))),
 o 19 (.bin .add .no (.c (.int .i64 2000)) (.t 18)),
 m 20 0,
 c 21 I.burrowcase_Codes_Next [(.t 20), (.c (.int .i64 6))],
 o 22 (.bin .add .no (.c (.int .i64 1)) (.t 21)),
 m 23 0,
 c 24 I.burrowcase_Codes_Next [(.t 23), (.c (.int .i64 8))],
 o 25 (.bin .add .no (.c (.int .i64 1)) (.t 24)),
 u 26 (.build (.st 10 [(.int .u64 0), (.int .u64 0), (.int .i64 0), (.int .i64 0), (.int .i64 0), (.int .i64 0), (.int .i64 0), (.int .i64 0), (.int .i64 0), (.int .i64 0)]) [(0, (.t 7)), (2, (.t 11)), (5, (.t 15)), (6, (.t 19)), (7, (.c (.int .i64 30000))), (8, (.t 22)), (9, (.t 25))]),
 u 3 (.alloc (.st 10 [(.int .u64 0), (.int .u64 0), (.int .i64 0), (.int .i64 0), (.int .i64 0), (.int .i64 0), (.int .i64 0), (.int .i64 0), (.int .i64 0), (.int .i64 0)])),
 ⟨none, none, false, .store 10 (.t 3) (.t 26)⟩])
 (.seq (.regionD [f 27 0 0 3,
 l 28 27,
 m 29 0,
 c 30 I.burrowcase_Codes_Next [(.t 29), (.c (.int .i64 60))],
 o 31 (.convI .u64 (.t 30)),
 o 32 (.bin .add .no (.t 28) (.t 31)),
 f 33 1 1 3,
 ⟨none, none, false, .store 1 (.t 33) (.t 32)⟩] [0, 1, 2, 3, 4, 5, 6, 7] [0, 1, 3])
 (.seq (.regionD [f 34 2 2 3,
 l 35 34,
 m 36 0,
 c 37 I.burrowcase_Codes_Next [(.t 36), (.c (.int .i64 40))],
 o 38 (.bin .mul .no (.t 37) (.c (.int .i64 1000))),
 o 39 (.bin .add .no (.t 35) (.t 38)),
 f 40 3 3 3,
 ⟨none, none, false, .store 1 (.t 40) (.t 39)⟩] [0, 1, 2, 3, 4, 5, 6, 7] [0, 1, 3])
 (.seq (.regionD [f 41 5 5 3,
 l 42 41,
 m 43 0,
 c 44 I.burrowcase_Codes_Next [(.t 43), (.c (.int .i64 5))],
 o 45 (.bin .add .no (.c (.int .i64 1)) (.t 44)),
 o 46 (.bin .mul .no (.t 42) (.t 45)),
 f 47 4 4 3,
 ⟨none, none, false, .store 1 (.t 47) (.t 46)⟩] [0, 1, 2, 3, 4, 5, 6, 7] [0, 1, 3])
 (.seq (.seq (.region [m 48 0,
 c 49 I.burrowcase_Codes_Next [(.t 48), (.c (.int .i64 4))],
 o 50 (.bin .eql .no (.t 49) (.c (.int .i64 0)))])
 (.cond (.t 50)
 (.region [f 51 0 0 3,
 ⟨none, none, false, .store 1 (.t 51) (.c (.int .u64 1152921504606846976))⟩,
 f 52 1 1 3,
 ⟨none, none, false, .store 1 (.t 52) (.c (.int .u64 18446744073709543423))⟩])
 (.skip)))
 (.seq (.region [o 53 (.load true 10 (.t 3)),
 ⟨none, none, false, .store 10 (.t 2) (.t 53)⟩])
 (.ret)))))))⟩
def burrowcase_Codes_Key : AFun := ⟨9, [.load true 32 (.t 2)],
 .seq (.region [u 2 (.alloc (.ar 1 32 (zr 32 (.int .u8 0))))])
 (.seq (.region [u 3 (.alloc (.ar 1 32 (zr 32 (.int .u8 0))))])
 (.seq (.regionD [u 4 (.slice (.ar 32 1) (.t 3) none none none),
 m 5 0,
 c 6 I.burrowcase_Codes_Bytes [(.t 5), (.c (.int .i64 32))],
 u 7 (.copy 1 (.t 4) (.t 6))] [0, 1, 2, 3] [0, 2])
 (.seq (.region [o 8 (.load true 32 (.t 3)),
 ⟨none, none, false, .store 32 (.t 2) (.t 8)⟩])
 (.ret))))⟩
def burrowcase_Codes_Big : AFun := ⟨19, [.mv (.t 4)],
 .seq (.region [o 4 (.mv (.c (.int .i64 0)))])
 (.seq (.seq (.region [m 5 1,
 o 6 (.bin .lss .no (.t 5) (.c (.int .i64 1)))])
 (.cond (.t 6)
 (.seq (.region [o 4 (.mv (.c (.int .i64 0)))])
 (.ret))
 (.skip)))
 (.seq (.region [m 7 0,
 c 8 I.burrowcase_Codes_Next [(.t 7), (.c (.int .i64 256))],
 u 9 (.bin .shl .no (.t 8) (.c (.int .u64 16))),
 m 10 0,
 c 11 I.burrowcase_Codes_Next [(.t 10), (.c (.int .i64 256))],
 u 12 (.bin .shl .no (.t 11) (.c (.int .u64 8))),
 o 13 (.bin .or .no (.t 9) (.t 12)),
 m 14 0,
 c 15 I.burrowcase_Codes_Next [(.t 14), (.c (.int .i64 256))],
 o 16 (.bin .or .no (.t 13) (.t 15)),
 m 17 1,
 u 18 (.bin .rem .no (.t 16) (.t 17)),
 m 4 18])
 (.ret)))⟩
def burrowcase_Codes_Next : AFun := ⟨33, [.mv (.t 4)],
 .seq (.region [o 4 (.mv (.c (.int .i64 0)))])
 (.seq (.seq (.region [m 5 0,
 c 6 I.burrowcase_Codes_Left [(.t 5)],
 o 7 (.un .not (.t 6)),
 m 8 7,
 g 9 8 false true (.mv (.t 1)),
 g 10 8 false true (.bin .lss .no (.t 9) (.c (.int .i64 1))),
 o 11 (.pick (.t 8) (.c (.bl true)) (.t 10))])
 (.cond (.t 11)
 (.seq (.region [o 4 (.mv (.c (.int .i64 0)))])
 (.ret))
 (.skip)))
 (.seq (.region [m 12 0,
 o 13 (.nilCheck (.t 12)),
 f 14 1 1 13,
 l 15 14,
 o 16 (.bin .add .no (.t 15) (.c (.int .i64 1))),
 o 17 (.nilCheck (.t 12)),
 f 18 1 1 17,
 ⟨none, none, false, .store 1 (.t 18) (.t 16)⟩])
 (.seq (.region [m 19 0,
 o 20 (.nilCheck (.t 19)),
 f 21 0 0 20,
 l 22 21,
 m 23 0,
 o 24 (.nilCheck (.t 23)),
 f 25 1 1 24,
 l 26 25,
 o 27 (.bin .sub .no (.t 26) (.c (.int .i64 1))),
 u 28 (.indexA (.sl 1) (.t 22) (.t 27)),
 l 29 28,
 o 30 (.convI .i64 (.t 29)),
 m 31 1,
 u 32 (.bin .rem .no (.t 30) (.t 31)),
 m 4 32])
 (.ret))))⟩
def burrowmake_Peer : AFun := ⟨8, [.load true 32 (.t 2)],
 .seq (.region [u 2 (.alloc (.ar 1 32 (zr 32 (.int .u8 0))))])
 (.seq (.region [m 3 0,
 o 4 (.bin .add .no (.t 3) (.c (.int .i64 1))),
 o 5 (.bin .mul .no (.c (.int .i64 40)) (.t 4)),
 o 6 (.convI .u8 (.t 5)),
 u 7 (.build (.ar 1 32 (zr 32 (.int .u8 0))) [(0, (.t 6)), (1, (.c (.int .u8 9))), (2, (.c (.int .u8 7)))]),
 ⟨none, none, false, .store 32 (.t 2) (.t 7)⟩])
 (.ret))⟩
def burrowmake_At : AFun := ⟨11, [.load true 18 (.t 2)],
 .seq (.region [u 2 (.alloc (.st 18 [(.st 17 [(.bl false), (.ar 1 16 (zr 16 (.int .u8 0)))]), (.int .i64 0)]))])
 (.seq (.region [m 3 0,
 o 4 (.bin .add .no (.t 3) (.c (.int .i64 1))),
 o 5 (.convI .u8 (.t 4)),
 u 6 (.build (.ar 1 16 (zr 16 (.int .u8 0))) [(0, (.c (.int .u8 192))), (1, (.c (.int .u8 0))), (2, (.c (.int .u8 2))), (3, (.t 5))]),
 u 7 (.build (.st 17 [(.bl false), (.ar 1 16 (zr 16 (.int .u8 0)))]) [(1, (.t 6))]),
 m 8 0,
 o 9 (.bin .add .no (.c (.int .i64 1000)) (.t 8)),
 u 10 (.build (.st 18 [(.st 17 [(.bl false), (.ar 1 16 (zr 16 (.int .u8 0)))]), (.int .i64 0)]) [(0, (.t 7)), (1, (.t 9))]),
 ⟨none, none, false, .store 18 (.t 2) (.t 10)⟩])
 (.ret))⟩
def burrowref14_Setl0 : ACode :=
 .seq (.seq (.region [m 13 6,
 m 14 5,
 o 15 (.len (.t 14)),
 o 16 (.bin .lss .no (.t 13) (.t 15)),
 m 17 16,
 g 18 17 true true (.load true 34 (.t 3)),
 g 19 17 true true (.mv (.t 5)),
 g 20 17 true true (.mv (.t 6)),
 g 21 17 true false (.indexA (.sl 34) (.t 19) (.t 20)),
 g 22 17 true false (.load true 34 (.t 21)),
 g 23 17 true false (.callq (.c (.fn (.func I.burrowref14_LessTimer) [] [])) [(.t 18), (.t 22)]),
 g 24 17 true false (.un .not (.t 23)),
 o 25 (.pick (.t 17) (.t 24) (.c (.bl false)))])
 (.cond (.t 25)
 (.skip)
 (.exit 0)))
 (.block 1 (.region [m 26 6,
 o 27 (.bin .add .no (.t 26) (.c (.int .i64 1))),
 m 6 27]))
def burrowref14_Setc1 : ACode :=
 .seq (.regionD [m 28 5,
 m 29 6,
 m 30 6,
 u 31 (.slice (.sl 34) (.t 28) none (some (.t 29)) (some (.t 30))),
 o 32 (.load true 34 (.t 3)),
 u 33 (.buildSlice true 34 (.st 34 [(.int .i64 0), (.ar 1 32 (zr 32 (.int .u8 0))), (.int .i64 0)]) 1 [(0, (.t 32))]),
 m 34 5,
 m 35 6,
 u 36 (.slice (.sl 34) (.t 34) (some (.t 35)) none none),
 u 37 (.append 34 48 false (.t 33) (.t 36)),
 u 38 (.append 34 48 false (.t 31) (.t 37)),
 m 4 38] [0, 1, 2, 3, 4, 6, 7, 8, 5, 9, 10, 11] [3, 8, 5, 9])
 (.ret)
def burrowref14_Set : AFun := ⟨39, [.mv (.t 4)],
 .seq (.region [u 3 (.box (.t 1)),
 o 4 (.mv (.c (.sl 34 [] true)))])
 (.seq (.region [m 7 0,
 f 8 1 1 3,
 o 9 (.load true 32 (.t 8)),
 f 10 2 33 3,
 l 11 10,
 c 12 I.burrowref14_Cancel [(.t 7), (.t 9), (.t 11)],
 m 5 12])
 (.seq (.region [o 6 (.mv (.c (.int .i64 0)))])
 (.seq (.block 0 (.loop burrowref14_Setl0))
 burrowref14_Setc1)))⟩
def burrowref14_InsertRoutel0 : ACode :=
 .seq (.region [o 19 (.bin .lss .no (.t 18) (.t 17))])
 (.seq (.cond (.t 19)
 (.skip)
 (.exit 0))
 (.seq (.block 1 (.seq (.region [m 20 18,
 m 9 20])
 (.seq (.region [m 21 8,
 m 22 9,
 u 23 (.indexA (.sl 50) (.t 21) (.t 22)),
 f 24 0 0 23,
 o 25 (.load true 18 (.t 24)),
 o 26 (.load true 18 (.t 4)),
 o 27 (.bin .eql (.sh (.st [(.st [.b, (.ar 16 (.i .u8))]), (.i .i64)])) (.t 25) (.t 26))])
 (.cond (.t 27)
 (.seq (.region [m 28 8,
 m 29 9,
 o 30 (.load true 32 (.t 5)),
 u 31 (.indexA (.sl 50) (.t 28) (.t 29)),
 f 32 1 18 31,
 ⟨none, none, false, .store 32 (.t 32) (.t 30)⟩])
 (.seq (.region [m 33 8,
 m 6 33,
 o 7 (.mv (.c (.int .i64 0)))])
 (.ret)))
 (.skip)))))
 (.region [o 34 (.bin .add .no (.t 18) (.c (.int .i64 1))),
 m 18 34])))
def burrowref14_InsertRoutel1 : ACode :=
 .seq (.seq (.region [m 38 10,
 m 39 8,
 o 40 (.len (.t 39)),
 o 41 (.bin .lss .no (.t 38) (.t 40)),
 m 42 41,
 g 43 42 true true (.load true 18 (.t 4)),
 g 44 42 true true (.mv (.t 8)),
 g 45 42 true true (.mv (.t 10)),
 g 46 42 true false (.indexA (.sl 50) (.t 44) (.t 45)),
 g 47 42 true false (.fieldA 0 0 (.t 46)),
 g 48 42 true false (.load true 18 (.t 47)),
 g 49 42 true false (.callq (.c (.fn (.func I.burrowref14_before) [] [])) [(.t 43), (.t 48)]),
 g 50 42 true false (.un .not (.t 49)),
 o 51 (.pick (.t 42) (.t 50) (.c (.bl false)))])
 (.cond (.t 51)
 (.skip)
 (.exit 2)))
 (.block 3 (.region [m 52 10,
 o 53 (.bin .add .no (.t 52) (.c (.int .i64 1))),
 m 10 53]))
def burrowref14_InsertRoutec2 : ACode :=
 .seq (.regionD [m 54 8,
 m 55 10,
 m 56 10,
 u 57 (.slice (.sl 50) (.t 54) none (some (.t 55)) (some (.t 56))),
 o 58 (.load true 18 (.t 4)),
 o 59 (.load true 32 (.t 5)),
 u 60 (.build (.st 50 [(.st 18 [(.st 17 [(.bl false), (.ar 1 16 (zr 16 (.int .u8 0)))]), (.int .i64 0)]), (.ar 1 32 (zr 32 (.int .u8 0)))]) [(0, (.t 58)), (1, (.t 59))]),
 u 61 (.buildSlice true 50 (.st 50 [(.st 18 [(.st 17 [(.bl false), (.ar 1 16 (zr 16 (.int .u8 0)))]), (.int .i64 0)]), (.ar 1 32 (zr 32 (.int .u8 0)))]) 1 [(0, (.t 60))]),
 m 62 8,
 m 63 10,
 u 64 (.slice (.sl 50) (.t 62) (some (.t 63)) none none),
 u 65 (.append 50 64 false (.t 61) (.t 64)),
 u 66 (.append 50 64 false (.t 57) (.t 65)),
 m 6 66,
 o 7 (.mv (.c (.int .i64 0)))] [0, 1, 2, 3, 4, 5, 6, 8, 9, 10, 7, 11, 12, 13, 14] [3, 10, 7, 11])
 (.ret)
def burrowref14_InsertRoutec3 : ACode :=
 .seq (.seq (.region [m 35 0,
 o 36 (.len (.t 35)),
 o 37 (.bin .geq .no (.t 36) (.c (.int .i64 16)))])
 (.cond (.t 37)
 (.seq (.region [o 6 (.mv (.c (.sl 50 [] true))),
 o 7 (.mv (.c (.int .i64 12)))])
 (.ret))
 (.skip)))
 (.seq (.region [o 10 (.mv (.c (.int .i64 0)))])
 (.seq (.block 2 (.loop burrowref14_InsertRoutel1))
 burrowref14_InsertRoutec2))
def burrowref14_InsertRoute : AFun := ⟨67, [.mv (.t 6), .mv (.t 7)],
 .seq (.region [u 4 (.box (.t 1)),
 u 5 (.box (.t 2)),
 o 6 (.mv (.c (.sl 50 [] true))),
 o 7 (.mv (.c (.int .i64 0)))])
 (.seq (.seq (.region [o 11 (.load true 18 (.t 4)),
 c 12 I.burrowref09_Valid [(.t 11)],
 o 13 (.un .not (.t 12))])
 (.cond (.t 13)
 (.seq (.region [o 6 (.mv (.c (.sl 50 [] true))),
 o 7 (.mv (.c (.int .i64 1)))])
 (.ret))
 (.skip)))
 (.seq (.region [m 14 0,
 u 15 (.append 50 64 false (.c (.sl 0 [] true)) (.t 14)),
 m 8 15])
 (.seq (.seq (.region [m 16 8,
 o 17 (.len (.t 16)),
 o 18 (.mv (.c (.int .i64 0)))])
 (.block 0 (.loop burrowref14_InsertRoutel0)))
 burrowref14_InsertRoutec3)))⟩
def burrowcase_Maskedl0 : ACode :=
 .seq (.seq (.region [m 7 5,
 o 8 (.bin .lss .no (.t 7) (.c (.int .i64 128)))])
 (.cond (.t 8)
 (.skip)
 (.exit 0)))
 (.seq (.block 1 (.region [m 11 5,
 u 12 (.bin .quo .no (.t 11) (.c (.int .i64 8))),
 f 13 1 1 2,
 u 14 (.indexA (.ar 16 1) (.t 13) (.t 12)),
 l 15 14,
 m 16 5,
 u 17 (.bin .rem .no (.t 16) (.c (.int .i64 8))),
 u 18 (.bin .shr .no (.c (.int .u8 128)) (.t 17)),
 o 19 (.bin .andNot .no (.t 15) (.t 18)),
 f 20 1 1 2,
 u 21 (.indexA (.ar 16 1) (.t 20) (.t 12)),
 ⟨none, none, false, .store 1 (.t 21) (.t 19)⟩]))
 (.region [m 9 5,
 o 10 (.bin .add .no (.t 9) (.c (.int .i64 1))),
 m 5 10]))
def burrowcase_Maskedc1 : ACode :=
 .seq (.region [o 22 (.load true 17 (.t 2)),
 m 23 1,
 u 24 (.build (.st 18 [(.st 17 [(.bl false), (.ar 1 16 (zr 16 (.int .u8 0)))]), (.int .i64 0)]) [(0, (.t 22)), (1, (.t 23))]),
 ⟨none, none, false, .store 18 (.t 4) (.t 24)⟩])
 (.ret)
def burrowcase_Masked : AFun := ⟨25, [.load true 18 (.t 4)],
 .seq (.region [u 2 (.box (.t 0)),
 u 4 (.alloc (.st 18 [(.st 17 [(.bl false), (.ar 1 16 (zr 16 (.int .u8 0)))]), (.int .i64 0)]))])
 (.seq (.seq (.region [m 6 1,
 m 5 6])
 (.block 0 (.loop burrowcase_Maskedl0)))
 burrowcase_Maskedc1)⟩
def burrowcase_Host : AFun := ⟨11, [.load true 17 (.t 4)],
 .seq (.region [u 4 (.alloc (.st 17 [(.bl false), (.ar 1 16 (zr 16 (.int .u8 0)))]))])
 (.seq (.region [m 5 0,
 o 6 (.convI .u8 (.t 5)),
 m 7 1,
 o 8 (.convI .u8 (.t 7)),
 u 9 (.build (.ar 1 16 (zr 16 (.int .u8 0))) [(0, (.c (.int .u8 10))), (1, (.t 6)), (2, (.c (.int .u8 0))), (3, (.t 8))]),
 u 10 (.build (.st 17 [(.bl false), (.ar 1 16 (zr 16 (.int .u8 0)))]) [(1, (.t 9))]),
 ⟨none, none, false, .store 17 (.t 4) (.t 10)⟩])
 (.ret))⟩
def burrowref24_Install : AFun := ⟨102, [.load true 148 (.t 8), .mv (.t 9)],
 .seq (.region [u 4 (.box (.t 0)),
 u 5 (.box (.t 1)),
 u 6 (.box (.t 2)),
 u 8 (.alloc (.st 148 [(.st 10 [(.int .u64 0), (.int .u64 0), (.int .i64 0), (.int .i64 0), (.int .i64 0), (.int .i64 0), (.int .i64 0), (.int .i64 0), (.int .i64 0), (.int .i64 0)]), (.ar 1 32 (zr 32 (.int .u8 0))), (.ar 1 32 (zr 32 (.int .u8 0))), (.int .i64 0), (.ar 1 32 (zr 32 (.int .u8 0))), (.int .i64 0), (.sl 464 [] true), (.sl 50 [] true), (.sl 34 [] true), (.sl 34 [] true), (.ar 1 32 (zr 32 (.int .u8 0))), (.int .i64 0), (.sl 1 [] true), (.sl 19 [] true), (.int .i64 0)])),
 o 9 (.mv (.c (.int .i64 0)))])
 (.seq (.seq (.region [o 16 (.load true 148 (.t 4)),
 c 17 I.burrowref24_Valid [(.t 16)],
 o 18 (.un .not (.t 17))])
 (.cond (.t 18)
 (.seq (.region [u 19 (.build (.st 148 [(.st 10 [(.int .u64 0), (.int .u64 0), (.int .i64 0), (.int .i64 0), (.int .i64 0), (.int .i64 0), (.int .i64 0), (.int .i64 0), (.int .i64 0), (.int .i64 0)]), (.ar 1 32 (zr 32 (.int .u8 0))), (.ar 1 32 (zr 32 (.int .u8 0))), (.int .i64 0), (.ar 1 32 (zr 32 (.int .u8 0))), (.int .i64 0), (.sl 464 [] true), (.sl 50 [] true), (.sl 34 [] true), (.sl 34 [] true), (.ar 1 32 (zr 32 (.int .u8 0))), (.int .i64 0), (.sl 1 [] true), (.sl 19 [] true), (.int .i64 0)]) []),
 ⟨none, none, false, .store 148 (.t 8) (.t 19)⟩,
 o 9 (.mv (.c (.int .i64 13)))])
 (.ret))
 (.skip)))
 (.seq (.region [o 20 (.load true 148 (.t 4)),
 o 21 (.load true 32 (.t 5)),
 c 22 I.burrowref24_find [(.t 20), (.t 21)],
 m 10 22])
 (.seq (.seq (.region [m 23 10,
 o 24 (.bin .lss .no (.t 23) (.c (.int .i64 0)))])
 (.cond (.t 24)
 (.seq (.region [u 25 (.build (.st 148 [(.st 10 [(.int .u64 0), (.int .u64 0), (.int .i64 0), (.int .i64 0), (.int .i64 0), (.int .i64 0), (.int .i64 0), (.int .i64 0), (.int .i64 0), (.int .i64 0)]), (.ar 1 32 (zr 32 (.int .u8 0))), (.ar 1 32 (zr 32 (.int .u8 0))), (.int .i64 0), (.ar 1 32 (zr 32 (.int .u8 0))), (.int .i64 0), (.sl 464 [] true), (.sl 50 [] true), (.sl 34 [] true), (.sl 34 [] true), (.ar 1 32 (zr 32 (.int .u8 0))), (.int .i64 0), (.sl 1 [] true), (.sl 19 [] true), (.int .i64 0)]) []),
 ⟨none, none, false, .store 148 (.t 8) (.t 25)⟩,
 o 9 (.mv (.c (.int .i64 8)))])
 (.ret))
 (.skip)))
 (.seq (.seq (.region [f 27 8 110 4,
 l 28 27,
 f 29 0 0 6,
 l 30 29,
 c 31 I.burrowref14_FindSlot [(.t 28), (.t 30)],
 m 26 31,
 o 32 (.extract 0 (.t 26)),
 o 33 (.extract 1 (.t 26)),
 u 11 (.alloc (.st 34 [(.int .u32 0), (.ar 1 32 (zr 32 (.int .u8 0))), (.bl false)])),
 ⟨none, none, false, .store 34 (.t 11) (.t 32)⟩,
 m 12 33])
 (.seq (.region [f 34 0 0 6,
 l 35 34,
 o 36 (.bin .eql .no (.t 35) (.c (.int .u32 0))),
 m 37 36,
 g 38 37 false true (.mv (.t 12)),
 o 39 (.pick (.t 37) (.c (.bl true)) (.t 38))])
 (.cond (.t 39)
 (.seq (.region [u 40 (.build (.st 148 [(.st 10 [(.int .u64 0), (.int .u64 0), (.int .i64 0), (.int .i64 0), (.int .i64 0), (.int .i64 0), (.int .i64 0), (.int .i64 0), (.int .i64 0), (.int .i64 0)]), (.ar 1 32 (zr 32 (.int .u8 0))), (.ar 1 32 (zr 32 (.int .u8 0))), (.int .i64 0), (.ar 1 32 (zr 32 (.int .u8 0))), (.int .i64 0), (.sl 464 [] true), (.sl 50 [] true), (.sl 34 [] true), (.sl 34 [] true), (.ar 1 32 (zr 32 (.int .u8 0))), (.int .i64 0), (.sl 1 [] true), (.sl 19 [] true), (.int .i64 0)]) []),
 ⟨none, none, false, .store 148 (.t 8) (.t 40)⟩,
 o 9 (.mv (.c (.int .i64 9)))])
 (.ret))
 (.skip))))
 (.seq (.seq (.region [o 41 (.load true 148 (.t 4)),
 o 42 (.load true 76 (.t 6)),
 c 43 I.burrowref24_sound [(.t 41), (.t 42)],
 o 44 (.un .not (.t 43))])
 (.cond (.t 44)
 (.seq (.region [u 45 (.build (.st 148 [(.st 10 [(.int .u64 0), (.int .u64 0), (.int .i64 0), (.int .i64 0), (.int .i64 0), (.int .i64 0), (.int .i64 0), (.int .i64 0), (.int .i64 0), (.int .i64 0)]), (.ar 1 32 (zr 32 (.int .u8 0))), (.ar 1 32 (zr 32 (.int .u8 0))), (.int .i64 0), (.ar 1 32 (zr 32 (.int .u8 0))), (.int .i64 0), (.sl 464 [] true), (.sl 50 [] true), (.sl 34 [] true), (.sl 34 [] true), (.ar 1 32 (zr 32 (.int .u8 0))), (.int .i64 0), (.sl 1 [] true), (.sl 19 [] true), (.int .i64 0)]) []),
 ⟨none, none, false, .store 148 (.t 8) (.t 45)⟩,
 o 9 (.mv (.c (.int .i64 1)))])
 (.ret))
 (.skip)))
 (.seq (.region [o 46 (.load true 148 (.t 4)),
 c 47 I.burrowref24_Copy [(.t 46)],
 u 48 (.build (.st 149 [(.st 148 [(.st 10 [(.int .u64 0), (.int .u64 0), (.int .i64 0), (.int .i64 0), (.int .i64 0), (.int .i64 0), (.int .i64 0), (.int .i64 0), (.int .i64 0), (.int .i64 0)]), (.ar 1 32 (zr 32 (.int .u8 0))), (.ar 1 32 (zr 32 (.int .u8 0))), (.int .i64 0), (.ar 1 32 (zr 32 (.int .u8 0))), (.int .i64 0), (.sl 464 [] true), (.sl 50 [] true), (.sl 34 [] true), (.sl 34 [] true), (.ar 1 32 (zr 32 (.int .u8 0))), (.int .i64 0), (.sl 1 [] true), (.sl 19 [] true), (.int .i64 0)]), (.sl 86 [] true)]) [(0, (.t 47))]),
 u 13 (.alloc (.st 149 [(.st 148 [(.st 10 [(.int .u64 0), (.int .u64 0), (.int .i64 0), (.int .i64 0), (.int .i64 0), (.int .i64 0), (.int .i64 0), (.int .i64 0), (.int .i64 0), (.int .i64 0)]), (.ar 1 32 (zr 32 (.int .u8 0))), (.ar 1 32 (zr 32 (.int .u8 0))), (.int .i64 0), (.ar 1 32 (zr 32 (.int .u8 0))), (.int .i64 0), (.sl 464 [] true), (.sl 50 [] true), (.sl 34 [] true), (.sl 34 [] true), (.ar 1 32 (zr 32 (.int .u8 0))), (.int .i64 0), (.sl 1 [] true), (.sl 19 [] true), (.int .i64 0)]), (.sl 86 [] true)])),
 ⟨none, none, false, .store 149 (.t 13) (.t 48)⟩])
 (.seq (.region [f 49 0 0 13,
 f 50 6 108 49,
 l 51 50,
 m 52 10,
 u 53 (.indexA (.sl 464) (.t 51) (.t 52)),
 m 14 53])
 (.seq (.region [o 15 (.mv (.c (.sl 1 [] true)))])
 (.seq (.seq (.region [m 54 3])
 (.cond (.t 54)
 (.region [m 56 14,
 m 57 14,
 o 58 (.nilCheck (.t 57)),
 f 59 13 232 58,
 o 60 (.load true 231 (.t 59)),
 o 61 (.load true 76 (.t 6)),
 u 62 (.callq (.c (.fn (.func I.burrowref22_Begin) [] [])) [(.t 60), (.t 61)]),
 m 55 62,
 o 63 (.extract 0 (.t 55)),
 o 64 (.extract 1 (.t 55)),
 o 65 (.nilCheck (.t 56)),
 f 66 13 232 65,
 ⟨none, none, false, .store 231 (.t 66) (.t 63)⟩,
 m 15 64])
 (.region [m 68 14,
 m 69 14,
 o 70 (.nilCheck (.t 69)),
 f 71 13 232 70,
 o 72 (.load true 231 (.t 71)),
 o 73 (.load true 76 (.t 6)),
 u 74 (.callq (.c (.fn (.func I.burrowref22_Answer) [] [])) [(.t 72), (.t 73)]),
 m 67 74,
 o 75 (.extract 0 (.t 67)),
 o 76 (.extract 1 (.t 67)),
 o 77 (.nilCheck (.t 68)),
 f 78 13 232 77,
 ⟨none, none, false, .store 231 (.t 78) (.t 75)⟩,
 m 15 76])))
 (.seq (.region [m 79 15,
 c 80 I.burrowref24_machine_drop [(.t 13), (.t 79)]])
 (.seq (.region [f 82 0 0 13,
 f 83 8 110 82,
 l 84 83,
 f 85 0 0 6,
 l 86 85,
 o 87 (.load true 32 (.t 5)),
 c 88 I.burrowref14_Take [(.t 84), (.t 86), (.t 87), (.c (.bl true))],
 m 81 88,
 o 89 (.extract 0 (.t 81)),
 o 90 (.extract 1 (.t 81)),
 o 91 (.extract 2 (.t 81)),
 f 92 0 0 13,
 f 93 8 110 92,
 ⟨none, none, false, .store 1 (.t 93) (.t 89)⟩])
 (.seq (.region [m 94 10,
 f 95 0 0 4,
 f 96 3 3 95,
 l 97 96,
 o 98 (.bin .mul .no (.c (.int .i64 3)) (.t 97)),
 c 99 I.burrowref24_machine_set [(.t 13), (.t 94), (.c (.int .i64 5)), (.t 98)]])
 (.seq (.region [f 100 0 0 13,
 o 101 (.load true 148 (.t 100)),
 ⟨none, none, false, .store 148 (.t 8) (.t 101)⟩,
 o 9 (.mv (.c (.int .i64 0)))])
 (.ret))))))))))))))⟩
def burrowmake_Sessionl0 : ACode :=
 .seq (.seq (.region [m 67 9,
 o 68 (.bin .gtr .no (.t 67) (.c (.int .i64 0)))])
 (.cond (.t 68)
 (.skip)
 (.exit 1)))
 (.seq (.block 2 (.regionD [f 72 6 68 8,
 o 73 (.load true 6 (.t 72)),
 m 74 0,
 c 75 I.burrowcase_Codes_Next [(.t 74), (.c (.int .i64 8))],
 o 76 (.convI .u64 (.t 75)),
 u 77 (.callq (.c (.fn (.func I.burrowref14_AcceptWindow) [] [])) [(.t 73), (.t 76)]),
 m 71 77,
 o 78 (.extract 0 (.t 71)),
 o 79 (.extract 1 (.t 71)),
 f 80 6 68 8,
 ⟨none, none, false, .store 6 (.t 80) (.t 78)⟩] [0, 1, 2, 3, 4, 5, 6, 7, 8, 9, 10] [0, 1, 3]))
 (.region [m 69 9,
 o 70 (.bin .sub .no (.t 69) (.c (.int .i64 1))),
 m 9 70]))
def burrowmake_Sessionc1 : ACode :=
 .seq (.region [o 81 (.load true 76 (.t 8)),
 ⟨none, none, false, .store 76 (.t 6) (.t 81)⟩])
 (.ret)
def burrowmake_Session : AFun := ⟨82, [.load true 76 (.t 6)],
 .seq (.region [u 4 (.box (.t 1)),
 u 6 (.alloc (.st 76 [(.int .u32 0), (.int .u32 0), (.ar 1 32 (zr 32 (.int .u8 0))), (.ar 1 32 (zr 32 (.int .u8 0))), (.int .u64 0), (.int .u64 0), (.st 6 [(.bl false), (.int .u64 0), (.ar 1 4 (zr 4 (.int .u64 0)))]), (.int .i64 0), (.bl false)]))])
 (.seq (.regionD [f 10 5 107 4,
 l 11 10,
 f 12 5 107 4,
 l 13 12,
 m 14 0,
 c 15 I.burrowcase_Codes_Next [(.t 14), (.c (.int .i64 12))],
 o 16 (.bin .mul .no (.t 15) (.c (.int .i64 5000))),
 o 17 (.mm false [(.t 13), (.t 16)]),
 o 18 (.bin .sub .no (.t 11) (.t 17)),
 m 7 18] [0, 1, 2, 3, 4, 5, 6, 7, 8, 9] [0, 1, 2, 3, 5])
 (.seq (.regionD [m 19 2,
 m 20 2,
 o 21 (.bin .add .no (.c (.int .u32 7000)) (.t 20)),
 m 22 0,
 c 23 I.burrowcase_Codes_Key [(.t 22)],
 m 24 0,
 c 25 I.burrowcase_Codes_Key [(.t 24)],
 m 26 7,
 m 27 0,
 c 28 I.burrowcase_Codes_Bool [(.t 27)],
 f 29 0 0 4,
 f 30 1 1 29,
 l 31 30,
 u 32 (.callq (.c (.fn (.func I.burrowref22_New) [] [])) [(.t 19), (.t 21), (.t 23), (.t 25), (.t 26), (.t 28), (.t 31)]),
 u 8 (.alloc (.st 76 [(.int .u32 0), (.int .u32 0), (.ar 1 32 (zr 32 (.int .u8 0))), (.ar 1 32 (zr 32 (.int .u8 0))), (.int .u64 0), (.int .u64 0), (.st 6 [(.bl false), (.int .u64 0), (.ar 1 4 (zr 4 (.int .u64 0)))]), (.int .i64 0), (.bl false)])),
 ⟨none, none, false, .store 76 (.t 8) (.t 32)⟩] [0, 1, 2, 3, 5, 7, 8, 10, 11, 12, 4, 6, 9, 13, 14, 15] [10, 11, 12, 13, 4, 6, 9, 14])
 (.seq (.region [m 33 2,
 o 34 (.convI .u8 (.t 33)),
 m 35 2,
 o 36 (.convI .u8 (.t 35)),
 f 37 2 2 8,
 u 38 (.indexA (.ar 32 1) (.t 37) (.c (.int .i64 0))),
 ⟨none, none, false, .store 1 (.t 38) (.t 34)⟩,
 f 39 3 34 8,
 u 40 (.indexA (.ar 32 1) (.t 39) (.c (.int .i64 0))),
 ⟨none, none, false, .store 1 (.t 40) (.t 36)⟩])
 (.seq (.region [f 41 2 2 8,
 u 42 (.indexA (.ar 32 1) (.t 41) (.c (.int .i64 1))),
 ⟨none, none, false, .store 1 (.t 42) (.c (.int .u8 1))⟩,
 f 43 3 34 8,
 u 44 (.indexA (.ar 32 1) (.t 43) (.c (.int .i64 1))),
 ⟨none, none, false, .store 1 (.t 44) (.c (.int .u8 2))⟩])
 (.seq (.seq (.region [m 45 0,
 c 46 I.burrowcase_Codes_Next [(.t 45), (.c (.int .i64 4))]])
 (.block 0 (.seq (.region [o 48 (.bin .eql .no (.t 46) (.c (.int .i64 1))),
 m 47 48])
 (.cond (.t 47)
 (.region [m 49 0,
 c 50 I.burrowcase_Codes_Next [(.t 49), (.c (.int .i64 40))],
 o 51 (.convI .u64 (.t 50)),
 f 52 4 66 8,
 ⟨none, none, false, .store 1 (.t 52) (.t 51)⟩])
 (.seq (.region [o 54 (.bin .eql .no (.t 46) (.c (.int .i64 2))),
 m 53 54])
 (.cond (.t 53)
 (.regionD [f 55 5 67 8,
 l 56 55,
 f 57 5 67 8,
 l 58 57,
 m 59 0,
 c 60 I.burrowcase_Codes_Next [(.t 59), (.c (.int .i64 4))],
 o 61 (.convI .u64 (.t 60)),
 o 62 (.mm false [(.t 58), (.t 61)]),
 o 63 (.bin .sub .no (.t 56) (.t 62)),
 f 64 4 66 8,
 ⟨none, none, false, .store 1 (.t 64) (.t 63)⟩] [0, 1, 2, 3, 4, 5, 6, 7, 8, 9, 10] [0, 1, 2, 3, 5])
 (.skip)))))))
 (.seq (.seq (.region [m 65 0,
 c 66 I.burrowcase_Codes_Next [(.t 65), (.c (.int .i64 4))],
 m 9 66])
 (.block 1 (.loop burrowmake_Sessionl0)))
 burrowmake_Sessionc1))))))⟩
def burrowcase_Codes_Bool : AFun := ⟨6, [.mv (.t 2)],
 .seq (.region [o 2 (.mv (.c (.bl false)))])
 (.seq (.region [m 3 0,
 c 4 I.burrowcase_Codes_Next [(.t 3), (.c (.int .i64 2))],
 o 5 (.bin .eql .no (.t 4) (.c (.int .i64 1))),
 m 2 5])
 (.ret))⟩
def burrowref24_ValidRules : AFun := ⟨81, [.mv (.t 2)],
 .seq (.region [u 1 (.box (.t 0)),
 o 2 (.mv (.c (.bl false)))])
 (.seq (.seq (.region [f 3 0 0 1,
 l 4 3,
 o 5 (.bin .lss .no (.t 4) (.c (.int .u64 1))),
 m 6 5,
 g 7 6 false true (.fieldA 0 0 (.t 1)),
 k 8 6 false 7,
 g 9 6 false true (.fieldA 1 1 (.t 1)),
 k 10 6 false 9,
 g 11 6 false true (.bin .gtr .no (.t 8) (.t 10)),
 o 12 (.pick (.t 6) (.c (.bl true)) (.t 11)),
 m 13 12,
 g 14 13 false true (.fieldA 1 1 (.t 1)),
 k 15 13 false 14,
 g 16 13 false true (.bin .gtr .no (.t 15) (.c (.int .u64 18446744073709543423))),
 o 17 (.pick (.t 13) (.c (.bl true)) (.t 16))])
 (.cond (.t 17)
 (.seq (.region [o 2 (.mv (.c (.bl false)))])
 (.ret))
 (.skip)))
 (.seq (.seq (.region [f 18 5 5 1,
 l 19 18,
 c 20 I.burrowref24_within [(.t 19), (.c (.int .i64 1000)), (.c (.int .i64 1073741824))],
 o 21 (.un .not (.t 20)),
 m 22 21,
 g 23 22 false true (.fieldA 6 6 (.t 1)),
 k 24 22 false 23,
 g 25 22 false false (.call (.c (.fn (.func I.burrowref24_within) [] [])) [(.t 24), (.c (.int .i64 1000)), (.c (.int .i64 1073741824))]),
 g 26 22 false false (.un .not (.t 25)),
 o 27 (.pick (.t 22) (.c (.bl true)) (.t 26)),
 m 28 27,
 g 29 28 false true (.fieldA 7 7 (.t 1)),
 k 30 28 false 29,
 g 31 28 false false (.call (.c (.fn (.func I.burrowref24_within) [] [])) [(.t 30), (.c (.int .i64 1)), (.c (.int .i64 1073741824))]),
 g 32 28 false false (.un .not (.t 31)),
 o 33 (.pick (.t 28) (.c (.bl true)) (.t 32)),
 m 34 33,
 g 35 34 false true (.fieldA 2 2 (.t 1)),
 k 36 34 false 35,
 g 37 34 false false (.call (.c (.fn (.func I.burrowref24_within) [] [])) [(.t 36), (.c (.int .i64 1)), (.c (.int .i64 1073741824))]),
 g 38 34 false false (.un .not (.t 37)),
 o 39 (.pick (.t 34) (.c (.bl true)) (.t 38)),
 m 40 39,
 g 41 40 false true (.fieldA 3 3 (.t 1)),
 k 42 40 false 41,
 g 43 40 false false (.call (.c (.fn (.func I.burrowref24_within) [] [])) [(.t 42), (.c (.int .i64 1)), (.c (.int .i64 1073741824))]),
 g 44 40 false false (.un .not (.t 43)),
 o 45 (.pick (.t 40) (.c (.bl true)) (.t 44))])
 (.cond (.t 45)
 (.seq (.region [o 2 (.mv (.c (.bl false)))])
 (.ret))
 (.skip)))
 (.seq (.region [f 46 2 2 1,
 l 47 46,
 f 48 3 3 1,
 l 49 48,
 o 50 (.bin .leq .no (.t 47) (.t 49)),
 m 51 50,
 h 52 51 6 6 1,
 k 53 51 true 52,
 h 54 51 5 5 1,
 k 55 51 true 54,
 g 56 51 true true (.bin .add .no (.t 53) (.t 55)),
 h 57 51 3 3 1,
 k 58 51 true 57,
 g 59 51 true true (.bin .lss .no (.t 56) (.t 58)),
 o 60 (.pick (.t 51) (.t 59) (.c (.bl false))),
 m 61 60,
 h 62 61 4 4 1,
 k 63 61 true 62,
 h 64 61 5 5 1,
 k 65 61 true 64,
 h 66 61 5 5 1,
 k 67 61 true 66,
 g 68 61 true true (.bin .mul .no (.c (.int .i64 20)) (.t 67)),
 g 69 61 true false (.call (.c (.fn (.func I.burrowref24_within) [] [])) [(.t 63), (.t 65), (.t 68)]),
 o 70 (.pick (.t 61) (.t 69) (.c (.bl false))),
 m 71 70,
 h 72 71 8 8 1,
 k 73 71 true 72,
 g 74 71 true false (.call (.c (.fn (.func I.burrowref24_within) [] [])) [(.t 73), (.c (.int .i64 1)), (.c (.int .i64 64))]),
 o 75 (.pick (.t 71) (.t 74) (.c (.bl false))),
 m 76 75,
 h 77 76 9 9 1,
 k 78 76 true 77,
 g 79 76 true false (.call (.c (.fn (.func I.burrowref24_within) [] [])) [(.t 78), (.c (.int .i64 1)), (.c (.int .i64 8))]),
 o 80 (.pick (.t 76) (.t 79) (.c (.bl false))),
 m 2 80])
 (.ret))))⟩
def burrowref24_within : AFun := ⟨15, [.mv (.t 6)],
 .seq (.region [o 6 (.mv (.c (.bl false)))])
 (.seq (.region [m 7 0,
 m 8 1,
 o 9 (.bin .geq .no (.t 7) (.t 8)),
 m 10 9,
 g 11 10 true true (.mv (.t 0)),
 g 12 10 true true (.mv (.t 2)),
 g 13 10 true true (.bin .leq .no (.t 11) (.t 12)),
 o 14 (.pick (.t 10) (.t 13) (.c (.bl false))),
 m 6 14])
 (.ret))⟩
def burrowref24_peersl0 : ACode :=
 .seq (.region [o 9 (.bin .lss .no (.t 8) (.t 7))])
 (.seq (.cond (.t 9)
 (.skip)
 (.exit 0))
 (.seq (.block 1 (.seq (.region [m 10 8,
 u 11 (.indexA (.sl 464) (.t 6) (.t 8)),
 o 12 (.load true 464 (.t 11)),
 u 4 (.alloc (.st 464 [(.ar 1 32 (zr 32 (.int .u8 0))), (.ar 1 32 (zr 32 (.int .u8 0))), (.bl false), (.st 18 [(.st 17 [(.bl false), (.ar 1 16 (zr 16 (.int .u8 0)))]), (.int .i64 0)]), (.int .i64 0), (.ar 1 12 (zr 12 (.int .u8 0))), (.bl false), (.int .i64 0), (.st 100 [(.bl false), (.int .u32 0), (.ar 1 32 (zr 32 (.int .u8 0))), (.st 64 [(.ar 1 32 (zr 32 (.int .u8 0))), (.ar 1 32 (zr 32 (.int .u8 0)))]), (.int .i64 0), (.int .i64 0)]), (.bl false), (.ar 1 16 (zr 16 (.int .u8 0))), (.int .i64 0), (.ar 1 16 (zr 16 (.int .u8 0))), (.st 231 [(.st 77 [(.bl false), (.st 76 [(.int .u32 0), (.int .u32 0), (.ar 1 32 (zr 32 (.int .u8 0))), (.ar 1 32 (zr 32 (.int .u8 0))), (.int .u64 0), (.int .u64 0), (.st 6 [(.bl false), (.int .u64 0), (.ar 1 4 (zr 4 (.int .u64 0)))]), (.int .i64 0), (.bl false)])]), (.st 77 [(.bl false), (.st 76 [(.int .u32 0), (.int .u32 0), (.ar 1 32 (zr 32 (.int .u8 0))), (.ar 1 32 (zr 32 (.int .u8 0))), (.int .u64 0), (.int .u64 0), (.st 6 [(.bl false), (.int .u64 0), (.ar 1 4 (zr 4 (.int .u64 0)))]), (.int .i64 0), (.bl false)])]), (.st 77 [(.bl false), (.st 76 [(.int .u32 0), (.int .u32 0), (.ar 1 32 (zr 32 (.int .u8 0))), (.ar 1 32 (zr 32 (.int .u8 0))), (.int .u64 0), (.int .u64 0), (.st 6 [(.bl false), (.int .u64 0), (.ar 1 4 (zr 4 (.int .u64 0)))]), (.int .i64 0), (.bl false)])])]), (.sl 1 [] true)])),
 m 3 10,
 ⟨none, none, false, .store 464 (.t 4) (.t 12)⟩])
 (.seq (.region [m 13 3,
 o 14 (.bin .gtr .no (.t 13) (.c (.int .i64 0))),
 m 15 14,
 h 16 15 6 108 1,
 k 17 15 true 16,
 g 18 15 true true (.mv (.t 3)),
 g 19 15 true true (.bin .sub .no (.t 18) (.c (.int .i64 1))),
 g 20 15 true false (.indexA (.sl 464) (.t 17) (.t 19)),
 g 21 15 true false (.fieldA 0 0 (.t 20)),
 g 22 15 true false (.slice (.ar 32 1) (.t 21) none none none),
 g 23 15 true false (.convS (.t 22)),
 h 24 15 0 0 4,
 g 25 15 true false (.slice (.ar 32 1) (.t 24) none none none),
 g 26 15 true false (.convS (.t 25)),
 g 27 15 true false (.bin .geq .no (.t 23) (.t 26)),
 o 28 (.pick (.t 15) (.t 27) (.c (.bl false)))])
 (.cond (.t 28)
 (.seq (.region [o 2 (.mv (.c (.bl false)))])
 (.ret))
 (.skip)))))
 (.region [o 29 (.bin .add .no (.t 8) (.c (.int .i64 1))),
 m 8 29])))
def burrowref24_peersc1 : ACode :=
 .seq (.region [f 30 6 108 1,
 l 31 30,
 o 32 (.len (.t 31)),
 o 33 (.bin .leq .no (.t 32) (.c (.int .i64 8))),
 m 2 33])
 (.ret)
def burrowref24_peers : AFun := ⟨34, [.mv (.t 2)],
 .seq (.region [u 1 (.box (.t 0)),
 o 2 (.mv (.c (.bl false)))])
 (.seq (.seq (.region [f 5 6 108 1,
 l 6 5,
 o 7 (.len (.t 6)),
 o 8 (.mv (.c (.int .i64 0)))])
 (.block 0 (.loop burrowref24_peersl0)))
 burrowref24_peersc1)⟩
def burrowref24_eachl0 : ACode :=
 .seq (.region [o 11 (.bin .lss .no (.t 10) (.t 9))])
 (.seq (.cond (.t 11)
 (.skip)
 (.exit 0))
 (.seq (.block 1 (.seq (.region [u 12 (.indexA (.sl 464) (.t 8) (.t 10)),
 o 13 (.load true 464 (.t 12)),
 u 6 (.alloc (.st 464 [(.ar 1 32 (zr 32 (.int .u8 0))), (.ar 1 32 (zr 32 (.int .u8 0))), (.bl false), (.st 18 [(.st 17 [(.bl false), (.ar 1 16 (zr 16 (.int .u8 0)))]), (.int .i64 0)]), (.int .i64 0), (.ar 1 12 (zr 12 (.int .u8 0))), (.bl false), (.int .i64 0), (.st 100 [(.bl false), (.int .u32 0), (.ar 1 32 (zr 32 (.int .u8 0))), (.st 64 [(.ar 1 32 (zr 32 (.int .u8 0))), (.ar 1 32 (zr 32 (.int .u8 0)))]), (.int .i64 0), (.int .i64 0)]), (.bl false), (.ar 1 16 (zr 16 (.int .u8 0))), (.int .i64 0), (.ar 1 16 (zr 16 (.int .u8 0))), (.st 231 [(.st 77 [(.bl false), (.st 76 [(.int .u32 0), (.int .u32 0), (.ar 1 32 (zr 32 (.int .u8 0))), (.ar 1 32 (zr 32 (.int .u8 0))), (.int .u64 0), (.int .u64 0), (.st 6 [(.bl false), (.int .u64 0), (.ar 1 4 (zr 4 (.int .u64 0)))]), (.int .i64 0), (.bl false)])]), (.st 77 [(.bl false), (.st 76 [(.int .u32 0), (.int .u32 0), (.ar 1 32 (zr 32 (.int .u8 0))), (.ar 1 32 (zr 32 (.int .u8 0))), (.int .u64 0), (.int .u64 0), (.st 6 [(.bl false), (.int .u64 0), (.ar 1 4 (zr 4 (.int .u64 0)))]), (.int .i64 0), (.bl false)])]), (.st 77 [(.bl false), (.st 76 [(.int .u32 0), (.int .u32 0), (.ar 1 32 (zr 32 (.int .u8 0))), (.ar 1 32 (zr 32 (.int .u8 0))), (.int .u64 0), (.int .u64 0), (.st 6 [(.bl false), (.int .u64 0), (.ar 1 4 (zr 4 (.int .u64 0)))]), (.int .i64 0), (.bl false)])])]), (.sl 1 [] true)])),
 ⟨none, none, false, .store 464 (.t 6) (.t 13)⟩])
 (.seq (.region [m 14 1,
 o 15 (.bin .eql .no (.t 14) (.c (.int .i64 3))),
 m 16 15,
 g 17 16 true true (.load true 148 (.t 2)),
 g 18 16 true true (.load true 464 (.t 6)),
 g 19 16 true false (.call (.c (.fn (.func I.burrowref24_fields) [] [])) [(.t 17), (.t 18)]),
 g 20 16 true false (.un .not (.t 19)),
 o 21 (.pick (.t 16) (.t 20) (.c (.bl false))),
 m 22 21,
 g 23 22 false true (.mv (.t 1)),
 g 24 22 false true (.bin .eql .no (.t 23) (.c (.int .i64 4))),
 g 25 22 false true (.mv (.t 24)),
 g 26 25 true true (.load true 148 (.t 2)),
 g 27 25 true true (.load true 464 (.t 6)),
 g 28 25 true false (.call (.c (.fn (.func I.burrowref24_hand) [] [])) [(.t 26), (.t 27)]),
 g 29 25 true false (.un .not (.t 28)),
 g 30 22 false true (.pick (.t 25) (.t 29) (.c (.bl false))),
 o 31 (.pick (.t 22) (.c (.bl true)) (.t 30)),
 m 32 31,
 g 33 32 false true (.mv (.t 1)),
 g 34 32 false true (.bin .eql .no (.t 33) (.c (.int .i64 5))),
 g 35 32 false true (.mv (.t 34)),
 g 36 35 true true (.load true 148 (.t 2)),
 g 37 35 true true (.load true 464 (.t 6)),
 g 38 35 true false (.call (.c (.fn (.func I.burrowref24_ring) [] [])) [(.t 36), (.t 37)]),
 g 39 35 true false (.un .not (.t 38)),
 g 40 32 false true (.pick (.t 35) (.t 39) (.c (.bl false))),
 o 41 (.pick (.t 32) (.c (.bl true)) (.t 40))])
 (.cond (.t 41)
 (.seq (.region [o 4 (.mv (.c (.bl false)))])
 (.ret))
 (.skip)))))
 (.region [o 42 (.bin .add .no (.t 10) (.c (.int .i64 1))),
 m 10 42])))
def burrowref24_eachc1 : ACode :=
 .seq (.region [o 4 (.mv (.c (.bl true)))])
 (.ret)
def burrowref24_each : AFun := ⟨43, [.mv (.t 4)],
 .seq (.region [u 2 (.box (.t 0)),
 o 4 (.mv (.c (.bl false)))])
 (.seq (.seq (.region [f 7 6 108 2,
 l 8 7,
 o 9 (.len (.t 8)),
 o 10 (.mv (.c (.int .i64 0)))])
 (.block 0 (.loop burrowref24_eachl0)))
 burrowref24_eachc1)⟩
def burrowref24_routesl0 : ACode :=
 .seq (.region [o 9 (.bin .lss .no (.t 8) (.t 7))])
 (.seq (.cond (.t 9)
 (.skip)
 (.exit 0))
 (.seq (.block 1 (.seq (.region [u 10 (.indexA (.sl 50) (.t 6) (.t 8)),
 o 11 (.load true 50 (.t 10)),
 u 4 (.alloc (.st 50 [(.st 18 [(.st 17 [(.bl false), (.ar 1 16 (zr 16 (.int .u8 0)))]), (.int .i64 0)]), (.ar 1 32 (zr 32 (.int .u8 0)))])),
 ⟨none, none, false, .store 50 (.t 4) (.t 11)⟩])
 (.seq (.region [o 12 (.load true 148 (.t 1)),
 f 13 1 18 4,
 o 14 (.load true 32 (.t 13)),
 c 15 I.burrowref24_find [(.t 12), (.t 14)],
 o 16 (.bin .lss .no (.t 15) (.c (.int .i64 0)))])
 (.cond (.t 16)
 (.seq (.region [o 2 (.mv (.c (.bl false)))])
 (.ret))
 (.skip)))))
 (.region [o 17 (.bin .add .no (.t 8) (.c (.int .i64 1))),
 m 8 17])))
def burrowref24_routesc1 : ACode :=
 .seq (.region [f 18 7 109 1,
 l 19 18,
 c 20 I.burrowref14_ValidRoutes [(.t 19)],
 m 2 20])
 (.ret)
def burrowref24_routes : AFun := ⟨21, [.mv (.t 2)],
 .seq (.region [u 1 (.box (.t 0)),
 o 2 (.mv (.c (.bl false)))])
 (.seq (.seq (.region [f 5 7 109 1,
 l 6 5,
 o 7 (.len (.t 6)),
 o 8 (.mv (.c (.int .i64 0)))])
 (.block 0 (.loop burrowref24_routesl0)))
 burrowref24_routesc1)⟩
def burrowref24_slotsl0 : ACode :=
 .seq (.region [o 60 (.bin .lss .no (.t 59) (.t 58))])
 (.seq (.cond (.t 60)
 (.skip)
 (.exit 2))
 (.seq (.block 3 (.seq (.region [u 61 (.indexA (.sl 1) (.t 57) (.t 59)),
 l 62 61,
 m 9 62])
 (.seq (.region [f 64 8 110 1,
 l 65 64,
 m 66 9,
 c 67 I.burrowref14_FindSlot [(.t 65), (.t 66)],
 m 63 67,
 o 68 (.extract 0 (.t 63)),
 o 69 (.extract 1 (.t 63)),
 u 10 (.alloc (.st 34 [(.int .u32 0), (.ar 1 32 (zr 32 (.int .u8 0))), (.bl false)])),
 ⟨none, none, false, .store 34 (.t 10) (.t 68)⟩,
 m 11 69])
 (.seq (.seq (.region [m 70 11,
 o 71 (.un .not (.t 70)),
 m 72 71,
 g 73 72 false true (.fieldA 2 33 (.t 10)),
 k 74 72 false 73,
 g 75 72 false true (.un .not (.t 74)),
 o 76 (.pick (.t 72) (.c (.bl true)) (.t 75)),
 m 77 76,
 g 78 77 false true (.fieldA 1 1 (.t 10)),
 g 79 77 false true (.load true 32 (.t 78)),
 g 80 77 false true (.fieldA 0 0 (.t 5)),
 g 81 77 false true (.load true 32 (.t 80)),
 g 82 77 false true (.bin .neq (.sh (.ar 32 (.i .u8))) (.t 79) (.t 81)),
 o 83 (.pick (.t 77) (.c (.bl true)) (.t 82))])
 (.cond (.t 83)
 (.seq (.region [o 2 (.mv (.c (.bl false)))])
 (.ret))
 (.skip)))
 (.region [m 84 3,
 o 85 (.bin .add .no (.t 84) (.c (.int .i64 1))),
 m 3 85])))))
 (.region [o 86 (.bin .add .no (.t 59) (.c (.int .i64 1))),
 m 59 86])))
def burrowref24_slotsl1 : ACode :=
 .seq (.region [o 102 (.bin .lss .no (.t 101) (.t 100))])
 (.seq (.cond (.t 102)
 (.skip)
 (.exit 6))
 (.seq (.block 7 (.seq (.region [u 103 (.indexA (.sl 1) (.t 99) (.t 101)),
 l 104 103,
 m 16 104])
 (.seq (.region [m 105 14,
 m 106 16,
 o 107 (.bin .eql .no (.t 105) (.t 106))])
 (.cond (.t 107)
 (.seq (.region [o 2 (.mv (.c (.bl false)))])
 (.ret))
 (.skip)))))
 (.region [o 108 (.bin .add .no (.t 101) (.c (.int .i64 1))),
 m 101 108])))
def burrowref24_slotsc2 : ACode :=
 .region [o 109 (.bin .add .no (.t 92) (.c (.int .i64 1))),
 m 92 109]
def burrowref24_slotsl3 : ACode :=
 .seq (.region [o 93 (.bin .lss .no (.t 92) (.t 91))])
 (.seq (.cond (.t 93)
 (.skip)
 (.exit 4))
 (.seq (.block 5 (.seq (.region [m 94 92,
 u 95 (.indexA (.sl 1) (.t 90) (.t 92)),
 l 96 95,
 m 13 94,
 m 14 96])
 (.seq (.region [m 97 12,
 m 98 13,
 u 99 (.slice (.sl 1) (.t 97) none (some (.t 98)) none),
 o 100 (.len (.t 99)),
 o 101 (.mv (.c (.int .i64 0)))])
 (.block 6 (.loop burrowref24_slotsl1)))))
 burrowref24_slotsc2))
def burrowref24_slotsc4 : ACode :=
 .seq (.region [f 87 13 232 5,
 o 88 (.load true 231 (.t 87)),
 c 89 I.burrowref22_Locals [(.t 88)],
 m 12 89])
 (.seq (.region [m 90 12,
 o 91 (.len (.t 90)),
 o 92 (.mv (.c (.int .i64 0)))])
 (.block 4 (.loop burrowref24_slotsl3)))
def burrowref24_slotsc5 : ACode :=
 .region [o 110 (.bin .add .no (.t 24) (.c (.int .i64 1))),
 m 24 110]
def burrowref24_slotsl6 : ACode :=
 .seq (.region [o 25 (.bin .lss .no (.t 24) (.t 23))])
 (.seq (.cond (.t 25)
 (.skip)
 (.exit 0))
 (.seq (.block 1 (.seq (.region [u 26 (.indexA (.sl 464) (.t 22) (.t 24)),
 o 27 (.load true 464 (.t 26)),
 u 5 (.alloc (.st 464 [(.ar 1 32 (zr 32 (.int .u8 0))), (.ar 1 32 (zr 32 (.int .u8 0))), (.bl false), (.st 18 [(.st 17 [(.bl false), (.ar 1 16 (zr 16 (.int .u8 0)))]), (.int .i64 0)]), (.int .i64 0), (.ar 1 12 (zr 12 (.int .u8 0))), (.bl false), (.int .i64 0), (.st 100 [(.bl false), (.int .u32 0), (.ar 1 32 (zr 32 (.int .u8 0))), (.st 64 [(.ar 1 32 (zr 32 (.int .u8 0))), (.ar 1 32 (zr 32 (.int .u8 0)))]), (.int .i64 0), (.int .i64 0)]), (.bl false), (.ar 1 16 (zr 16 (.int .u8 0))), (.int .i64 0), (.ar 1 16 (zr 16 (.int .u8 0))), (.st 231 [(.st 77 [(.bl false), (.st 76 [(.int .u32 0), (.int .u32 0), (.ar 1 32 (zr 32 (.int .u8 0))), (.ar 1 32 (zr 32 (.int .u8 0))), (.int .u64 0), (.int .u64 0), (.st 6 [(.bl false), (.int .u64 0), (.ar 1 4 (zr 4 (.int .u64 0)))]), (.int .i64 0), (.bl false)])]), (.st 77 [(.bl false), (.st 76 [(.int .u32 0), (.int .u32 0), (.ar 1 32 (zr 32 (.int .u8 0))), (.ar 1 32 (zr 32 (.int .u8 0))), (.int .u64 0), (.int .u64 0), (.st 6 [(.bl false), (.int .u64 0), (.ar 1 4 (zr 4 (.int .u64 0)))]), (.int .i64 0), (.bl false)])]), (.st 77 [(.bl false), (.st 76 [(.int .u32 0), (.int .u32 0), (.ar 1 32 (zr 32 (.int .u8 0))), (.ar 1 32 (zr 32 (.int .u8 0))), (.int .u64 0), (.int .u64 0), (.st 6 [(.bl false), (.int .u64 0), (.ar 1 4 (zr 4 (.int .u64 0)))]), (.int .i64 0), (.bl false)])])]), (.sl 1 [] true)])),
 ⟨none, none, false, .store 464 (.t 5) (.t 27)⟩])
 (.seq (.seq (.region [f 28 8 98 5,
 f 29 0 0 28,
 l 30 29])
 (.cond (.t 30)
 (.seq (.region [f 32 8 110 1,
 l 33 32,
 f 34 8 98 5,
 f 35 1 1 34,
 l 36 35,
 c 37 I.burrowref14_FindSlot [(.t 33), (.t 36)],
 m 31 37,
 o 38 (.extract 0 (.t 31)),
 o 39 (.extract 1 (.t 31)),
 u 6 (.alloc (.st 34 [(.int .u32 0), (.ar 1 32 (zr 32 (.int .u8 0))), (.bl false)])),
 ⟨none, none, false, .store 34 (.t 6) (.t 38)⟩,
 m 7 39])
 (.seq (.seq (.region [m 40 7,
 o 41 (.un .not (.t 40)),
 m 42 41,
 g 43 42 false true (.fieldA 2 33 (.t 6)),
 k 44 42 false 43,
 o 45 (.pick (.t 42) (.c (.bl true)) (.t 44)),
 m 46 45,
 g 47 46 false true (.fieldA 1 1 (.t 6)),
 g 48 46 false true (.load true 32 (.t 47)),
 g 49 46 false true (.fieldA 0 0 (.t 5)),
 g 50 46 false true (.load true 32 (.t 49)),
 g 51 46 false true (.bin .neq (.sh (.ar 32 (.i .u8))) (.t 48) (.t 50)),
 o 52 (.pick (.t 46) (.c (.bl true)) (.t 51))])
 (.cond (.t 52)
 (.seq (.region [o 2 (.mv (.c (.bl false)))])
 (.ret))
 (.skip)))
 (.region [m 53 3,
 o 54 (.bin .add .no (.t 53) (.c (.int .i64 1))),
 m 3 54])))
 (.skip)))
 (.seq (.seq (.region [f 55 13 232 5,
 o 56 (.load true 231 (.t 55)),
 c 57 I.burrowref22_Locals [(.t 56)],
 o 58 (.len (.t 57)),
 o 59 (.mv (.c (.int .i64 0)))])
 (.block 2 (.loop burrowref24_slotsl0)))
 burrowref24_slotsc4))))
 burrowref24_slotsc5))
def burrowref24_slotsc7 : ACode :=
 .seq (.region [m 111 3,
 f 112 8 110 1,
 l 113 112,
 o 114 (.len (.t 113)),
 o 115 (.bin .eql .no (.t 111) (.t 114)),
 m 2 115])
 (.ret)
def burrowref24_slots : AFun := ⟨116, [.mv (.t 2)],
 .seq (.region [u 1 (.box (.t 0)),
 o 2 (.mv (.c (.bl false)))])
 (.seq (.seq (.region [f 17 8 110 1,
 l 18 17,
 c 19 I.burrowref14_ValidSlots [(.t 18)],
 o 20 (.un .not (.t 19))])
 (.cond (.t 20)
 (.seq (.region [o 2 (.mv (.c (.bl false)))])
 (.ret))
 (.skip)))
 (.seq (.region [o 3 (.mv (.c (.int .i64 0)))])
 (.seq (.seq (.region [f 21 6 108 1,
 l 22 21,
 o 23 (.len (.t 22)),
 o 24 (.mv (.c (.int .i64 0)))])
 (.block 0 (.loop burrowref24_slotsl6)))
 burrowref24_slotsc7)))⟩
def burrowref24_timersl0 : ACode :=
 .seq (.region [o 16 (.bin .lss .no (.t 15) (.t 14))])
 (.seq (.cond (.t 16)
 (.skip)
 (.exit 0))
 (.seq (.block 1 (.seq (.region [u 17 (.indexA (.sl 34) (.t 13) (.t 15)),
 o 18 (.load true 34 (.t 17)),
 u 4 (.alloc (.st 34 [(.int .i64 0), (.ar 1 32 (zr 32 (.int .u8 0))), (.int .i64 0)])),
 ⟨none, none, false, .store 34 (.t 4) (.t 18)⟩])
 (.seq (.region [o 19 (.load true 148 (.t 1)),
 f 20 1 1 4,
 o 21 (.load true 32 (.t 20)),
 c 22 I.burrowref24_find [(.t 19), (.t 21)],
 m 5 22])
 (.seq (.region [f 23 0 0 4,
 l 24 23,
 f 25 5 107 1,
 l 26 25,
 o 27 (.bin .leq .no (.t 24) (.t 26)),
 m 28 27,
 g 29 28 false true (.mv (.t 5)),
 g 30 28 false true (.bin .lss .no (.t 29) (.c (.int .i64 0))),
 o 31 (.pick (.t 28) (.c (.bl true)) (.t 30)),
 m 32 31,
 g 33 32 false true (.fieldA 2 33 (.t 4)),
 k 34 32 false 33,
 g 35 32 false true (.bin .eql .no (.t 34) (.c (.int .i64 4))),
 g 36 32 false true (.mv (.t 35)),
 h 37 36 6 108 1,
 k 38 36 true 37,
 g 39 36 true true (.mv (.t 5)),
 g 40 36 true false (.indexA (.sl 464) (.t 38) (.t 39)),
 g 41 36 true false (.fieldA 4 83 (.t 40)),
 g 42 36 true false (.load false 1 (.t 41)),
 g 43 36 true false (.bin .eql .no (.t 42) (.c (.int .i64 0))),
 g 44 32 false true (.pick (.t 36) (.t 43) (.c (.bl false))),
 o 45 (.pick (.t 32) (.c (.bl true)) (.t 44))])
 (.cond (.t 45)
 (.seq (.region [o 2 (.mv (.c (.bl false)))])
 (.ret))
 (.skip))))))
 (.region [o 46 (.bin .add .no (.t 15) (.c (.int .i64 1))),
 m 15 46])))
def burrowref24_timersl1 : ACode :=
 .seq (.region [o 51 (.bin .lss .no (.t 50) (.t 49))])
 (.seq (.cond (.t 51)
 (.skip)
 (.exit 2))
 (.seq (.block 3 (.seq (.region [u 52 (.indexA (.sl 464) (.t 48) (.t 50)),
 o 53 (.load true 464 (.t 52)),
 u 7 (.alloc (.st 464 [(.ar 1 32 (zr 32 (.int .u8 0))), (.ar 1 32 (zr 32 (.int .u8 0))), (.bl false), (.st 18 [(.st 17 [(.bl false), (.ar 1 16 (zr 16 (.int .u8 0)))]), (.int .i64 0)]), (.int .i64 0), (.ar 1 12 (zr 12 (.int .u8 0))), (.bl false), (.int .i64 0), (.st 100 [(.bl false), (.int .u32 0), (.ar 1 32 (zr 32 (.int .u8 0))), (.st 64 [(.ar 1 32 (zr 32 (.int .u8 0))), (.ar 1 32 (zr 32 (.int .u8 0)))]), (.int .i64 0), (.int .i64 0)]), (.bl false), (.ar 1 16 (zr 16 (.int .u8 0))), (.int .i64 0), (.ar 1 16 (zr 16 (.int .u8 0))), (.st 231 [(.st 77 [(.bl false), (.st 76 [(.int .u32 0), (.int .u32 0), (.ar 1 32 (zr 32 (.int .u8 0))), (.ar 1 32 (zr 32 (.int .u8 0))), (.int .u64 0), (.int .u64 0), (.st 6 [(.bl false), (.int .u64 0), (.ar 1 4 (zr 4 (.int .u64 0)))]), (.int .i64 0), (.bl false)])]), (.st 77 [(.bl false), (.st 76 [(.int .u32 0), (.int .u32 0), (.ar 1 32 (zr 32 (.int .u8 0))), (.ar 1 32 (zr 32 (.int .u8 0))), (.int .u64 0), (.int .u64 0), (.st 6 [(.bl false), (.int .u64 0), (.ar 1 4 (zr 4 (.int .u64 0)))]), (.int .i64 0), (.bl false)])]), (.st 77 [(.bl false), (.st 76 [(.int .u32 0), (.int .u32 0), (.ar 1 32 (zr 32 (.int .u8 0))), (.ar 1 32 (zr 32 (.int .u8 0))), (.int .u64 0), (.int .u64 0), (.st 6 [(.bl false), (.int .u64 0), (.ar 1 4 (zr 4 (.int .u64 0)))]), (.int .i64 0), (.bl false)])])]), (.sl 1 [] true)])),
 ⟨none, none, false, .store 464 (.t 7) (.t 53)⟩])
 (.seq (.region [f 54 9 111 1,
 l 55 54,
 f 56 0 0 7,
 o 57 (.load true 32 (.t 56)),
 u 58 (.callq (.c (.fn (.func I.burrowref14_Has) [] [])) [(.t 55), (.t 57), (.c (.int .i64 1))]),
 f 59 8 98 7,
 f 60 0 0 59,
 l 61 60,
 o 62 (.bin .neq .bl (.t 58) (.t 61))])
 (.cond (.t 62)
 (.seq (.region [o 2 (.mv (.c (.bl false)))])
 (.ret))
 (.skip)))))
 (.region [o 63 (.bin .add .no (.t 50) (.c (.int .i64 1))),
 m 50 63])))
def burrowref24_timersc2 : ACode :=
 .seq (.region [o 2 (.mv (.c (.bl true)))])
 (.ret)
def burrowref24_timersc3 : ACode :=
 .seq (.seq (.region [f 47 6 108 1,
 l 48 47,
 o 49 (.len (.t 48)),
 o 50 (.mv (.c (.int .i64 0)))])
 (.block 2 (.loop burrowref24_timersl1)))
 burrowref24_timersc2
def burrowref24_timers : AFun := ⟨64, [.mv (.t 2)],
 .seq (.region [u 1 (.box (.t 0)),
 o 2 (.mv (.c (.bl false)))])
 (.seq (.seq (.region [f 8 9 111 1,
 l 9 8,
 c 10 I.burrowref14_ValidTimers [(.t 9)],
 o 11 (.un .not (.t 10))])
 (.cond (.t 11)
 (.seq (.region [o 2 (.mv (.c (.bl false)))])
 (.ret))
 (.skip)))
 (.seq (.seq (.region [f 12 9 111 1,
 l 13 12,
 o 14 (.len (.t 13)),
 o 15 (.mv (.c (.int .i64 0)))])
 (.block 0 (.loop burrowref24_timersl0)))
 burrowref24_timersc3))⟩
def burrowref24_loadl0 : ACode :=
 .seq (.region [o 28 (.bin .lss .no (.t 27) (.t 26))])
 (.seq (.cond (.t 28)
 (.skip)
 (.exit 0))
 (.seq (.block 1 (.seq (.region [m 29 27,
 u 30 (.indexA (.sl 1) (.t 25) (.t 27)),
 l 31 30,
 m 3 29,
 m 4 31])
 (.seq (.region [o 32 (.load true 148 (.t 1)),
 m 33 4,
 c 34 I.burrowref24_past [(.t 32), (.t 33)],
 o 35 (.un .not (.t 34)),
 m 36 35,
 g 37 36 false true (.mv (.t 3)),
 g 38 36 false true (.bin .gtr .no (.t 37) (.c (.int .i64 0))),
 g 39 36 false true (.mv (.t 38)),
 g 40 39 true true (.mv (.t 4)),
 h 41 39 12 145 1,
 k 42 39 true 41,
 g 43 39 true true (.mv (.t 3)),
 g 44 39 true true (.bin .sub .no (.t 43) (.c (.int .i64 1))),
 g 45 39 true false (.indexA (.sl 1) (.t 42) (.t 44)),
 g 46 39 true false (.load false 1 (.t 45)),
 g 47 39 true false (.bin .lss .no (.t 40) (.t 46)),
 g 48 36 false true (.pick (.t 39) (.t 47) (.c (.bl false))),
 o 49 (.pick (.t 36) (.c (.bl true)) (.t 48))])
 (.cond (.t 49)
 (.seq (.region [o 2 (.mv (.c (.bl false)))])
 (.ret))
 (.skip)))))
 (.region [o 50 (.bin .add .no (.t 27) (.c (.int .i64 1))),
 m 27 50])))
def burrowref24_loadl1 : ACode :=
 .seq (.region [o 55 (.bin .lss .no (.t 54) (.t 53))])
 (.seq (.cond (.t 55)
 (.skip)
 (.exit 2))
 (.seq (.block 3 (.seq (.region [m 56 54,
 u 57 (.indexA (.sl 19) (.t 52) (.t 54)),
 o 58 (.load true 19 (.t 57)),
 u 6 (.alloc (.st 19 [(.st 17 [(.bl false), (.ar 1 16 (zr 16 (.int .u8 0)))]), (.int .i64 0), (.int .i64 0)])),
 m 5 56,
 ⟨none, none, false, .store 19 (.t 6) (.t 58)⟩])
 (.seq (.region [f 59 0 0 6,
 o 60 (.load true 17 (.t 59)),
 u 61 (.callq (.c (.fn (.func I.burrowref09_Sound) [] [])) [(.t 60)]),
 o 62 (.un .not (.t 61)),
 m 63 62,
 g 64 63 false true (.fieldA 1 17 (.t 6)),
 k 65 63 false 64,
 g 66 63 false false (.callq (.c (.fn (.func I.burrowref24_within) [] [])) [(.t 65), (.c (.int .i64 0)), (.c (.int .i64 5000))]),
 g 67 63 false false (.un .not (.t 66)),
 o 68 (.pick (.t 63) (.c (.bl true)) (.t 67)),
 m 69 68,
 g 70 69 false true (.load true 148 (.t 1)),
 g 71 69 false true (.fieldA 2 18 (.t 6)),
 k 72 69 false 71,
 g 73 69 false false (.callq (.c (.fn (.func I.burrowref24_past) [] [])) [(.t 70), (.t 72)]),
 g 74 69 false false (.un .not (.t 73)),
 o 75 (.pick (.t 69) (.c (.bl true)) (.t 74)),
 m 76 75,
 g 77 76 false true (.mv (.t 5)),
 g 78 76 false true (.bin .gtr .no (.t 77) (.c (.int .i64 0))),
 g 79 76 false true (.mv (.t 78)),
 h 80 79 13 146 1,
 k 81 79 true 80,
 g 82 79 true true (.mv (.t 5)),
 g 83 79 true true (.bin .sub .no (.t 82) (.c (.int .i64 1))),
 g 84 79 true false (.indexA (.sl 19) (.t 81) (.t 83)),
 g 85 79 true false (.fieldA 0 0 (.t 84)),
 g 86 79 true false (.load true 17 (.t 85)),
 h 87 79 0 0 6,
 g 88 79 true true (.load true 17 (.t 87)),
 g 89 79 true false (.callq (.c (.fn (.func I.burrowref09_Less) [] [])) [(.t 86), (.t 88)]),
 g 90 79 true false (.un .not (.t 89)),
 g 91 76 false true (.pick (.t 79) (.t 90) (.c (.bl false))),
 o 92 (.pick (.t 76) (.c (.bl true)) (.t 91))])
 (.cond (.t 92)
 (.seq (.region [o 2 (.mv (.c (.bl false)))])
 (.ret))
 (.skip)))))
 (.region [o 93 (.bin .add .no (.t 54) (.c (.int .i64 1))),
 m 54 93])))
def burrowref24_loadc2 : ACode :=
 .seq (.region [o 2 (.mv (.c (.bl true)))])
 (.ret)
def burrowref24_loadc3 : ACode :=
 .seq (.seq (.region [f 51 13 146 1,
 l 52 51,
 o 53 (.len (.t 52)),
 o 54 (.mv (.c (.int .i64 0)))])
 (.block 2 (.loop burrowref24_loadl1)))
 burrowref24_loadc2
def burrowref24_load : AFun := ⟨94, [.mv (.t 2)],
 .seq (.region [u 1 (.box (.t 0)),
 o 2 (.mv (.c (.bl false)))])
 (.seq (.seq (.region [o 7 (.load true 148 (.t 1)),
 f 8 11 144 1,
 l 9 8,
 c 10 I.burrowref24_past [(.t 7), (.t 9)],
 o 11 (.un .not (.t 10)),
 m 12 11,
 g 13 12 false true (.fieldA 12 145 (.t 1)),
 k 14 12 false 13,
 g 15 12 false true (.len (.t 14)),
 g 16 12 false true (.bin .gtr .no (.t 15) (.c (.int .i64 64))),
 o 17 (.pick (.t 12) (.c (.bl true)) (.t 16)),
 m 18 17,
 g 19 18 false true (.fieldA 13 146 (.t 1)),
 k 20 18 false 19,
 g 21 18 false true (.len (.t 20)),
 g 22 18 false true (.bin .gtr .no (.t 21) (.c (.int .i64 16))),
 o 23 (.pick (.t 18) (.c (.bl true)) (.t 22))])
 (.cond (.t 23)
 (.seq (.region [o 2 (.mv (.c (.bl false)))])
 (.ret))
 (.skip)))
 (.seq (.seq (.region [f 24 12 145 1,
 l 25 24,
 o 26 (.len (.t 25)),
 o 27 (.mv (.c (.int .i64 0)))])
 (.block 0 (.loop burrowref24_loadl0)))
 burrowref24_loadc3))⟩
def own_Daemonl0 : ACode :=
 .seq (.region [o 12 (.bin .lss .no (.t 11) (.t 10))])
 (.seq (.cond (.t 12)
 (.skip)
 (.exit 0))
 (.seq (.block 1 (.seq (.region [m 13 11,
 m 3 13])
 (.region [f 14 6 108 1,
 l 15 14,
 m 16 3,
 f 17 6 108 1,
 l 18 17,
 m 19 3,
 u 20 (.indexA (.sl 464) (.t 18) (.t 19)),
 f 21 14 463 20,
 l 22 21,
 u 23 (.callq (.c (.fn (.func I.own_Bytes) [] [])) [(.t 22)]),
 u 24 (.indexA (.sl 464) (.t 15) (.t 16)),
 f 25 14 463 24,
 ⟨none, none, false, .store 1 (.t 25) (.t 23)⟩])))
 (.region [o 26 (.bin .add .no (.t 11) (.c (.int .i64 1))),
 m 11 26])))
def own_Daemonc1 : ACode :=
 .seq (.region [f 27 7 109 1,
 l 28 27,
 u 29 (.callq (.c (.fn (.func I.slices_Clone_api_Route_api_Route) [] [])) [(.t 28)]),
 f 30 8 110 1,
 l 31 30,
 u 32 (.callq (.c (.fn (.func I.slices_Clone_api_Slot_api_Slot) [] [])) [(.t 31)]),
 f 33 9 111 1,
 l 34 33,
 u 35 (.callq (.c (.fn (.func I.slices_Clone_api_Timer_api_Timer) [] [])) [(.t 34)]),
 f 36 7 109 1,
 ⟨none, none, false, .store 1 (.t 36) (.t 29)⟩,
 f 37 8 110 1,
 ⟨none, none, false, .store 1 (.t 37) (.t 32)⟩,
 f 38 9 111 1,
 ⟨none, none, false, .store 1 (.t 38) (.t 35)⟩])
 (.seq (.region [f 39 12 145 1,
 l 40 39,
 u 41 (.callq (.c (.fn (.func I.slices_Clone_int64_int64) [] [])) [(.t 40)]),
 f 42 13 146 1,
 l 43 42,
 u 44 (.callq (.c (.fn (.func I.slices_Clone_api_Bucket_api_Bucket) [] [])) [(.t 43)]),
 f 45 12 145 1,
 ⟨none, none, false, .store 1 (.t 45) (.t 41)⟩,
 f 46 13 146 1,
 ⟨none, none, false, .store 1 (.t 46) (.t 44)⟩])
 (.seq (.region [o 47 (.load true 148 (.t 1)),
 ⟨none, none, false, .store 148 (.t 2) (.t 47)⟩])
 (.ret)))
def own_Daemon : AFun := ⟨48, [.load true 148 (.t 2)],
 .seq (.region [u 1 (.box (.t 0)),
 u 2 (.alloc (.st 148 [(.st 10 [(.int .u64 0), (.int .u64 0), (.int .i64 0), (.int .i64 0), (.int .i64 0), (.int .i64 0), (.int .i64 0), (.int .i64 0), (.int .i64 0), (.int .i64 0)]), (.ar 1 32 (zr 32 (.int .u8 0))), (.ar 1 32 (zr 32 (.int .u8 0))), (.int .i64 0), (.ar 1 32 (zr 32 (.int .u8 0))), (.int .i64 0), (.sl 464 [] true), (.sl 50 [] true), (.sl 34 [] true), (.sl 34 [] true), (.ar 1 32 (zr 32 (.int .u8 0))), (.int .i64 0), (.sl 1 [] true), (.sl 19 [] true), (.int .i64 0)]))])
 (.seq (.region [f 4 6 108 1,
 l 5 4,
 c 6 I.slices_Clone_api_Peer_api_Peer [(.t 5)],
 f 7 6 108 1,
 ⟨none, none, false, .store 1 (.t 7) (.t 6)⟩])
 (.seq (.seq (.region [f 8 6 108 1,
 l 9 8,
 o 10 (.len (.t 9)),
 o 11 (.mv (.c (.int .i64 0)))])
 (.block 0 (.loop own_Daemonl0)))
 own_Daemonc1))⟩
def fence_sessions : AFun := ⟨4, [.mv (.t 2)],
 .seq (.region [u 1 (.box (.t 0)),
 o 2 (.mv (.c .nf))])
 (.seq (.region [u 3 (.mkFunc (.func I.fence_sessions_1) [] [(.t 1)]),
 m 2 3])
 (.ret))⟩
def fence_Edge : AFun := ⟨25, [.mv (.t 6)],
 .seq (.region [u 3 (.box (.t 0)),
 u 4 (.box (.t 1)),
 o 6 (.mv (.c (.int .u64 0)))])
 (.seq (.region [o 7 (.mv (.c (.int .u64 18446744073709551615)))])
 (.seq (.seq (.region [m 8 2,
 m 9 7,
 f 10 4 66 3,
 l 11 10,
 o 12 (.bin .sub .no (.t 9) (.t 11)),
 o 13 (.bin .leq .no (.t 8) (.t 12))])
 (.cond (.t 13)
 (.region [f 14 4 66 3,
 l 15 14,
 m 16 2,
 o 17 (.bin .add .no (.t 15) (.t 16)),
 m 7 17])
 (.skip)))
 (.seq (.region [f 18 4 66 3,
 l 19 18,
 m 20 7,
 f 21 1 1 4,
 l 22 21,
 o 23 (.mm false [(.t 20), (.t 22)]),
 o 24 (.mm true [(.t 19), (.t 23)]),
 m 6 24])
 (.ret))))⟩
def burrowref25_SamePeerl0 : ACode :=
 .seq (.region [o 115 (.bin .lss .no (.t 114) (.t 113))])
 (.seq (.cond (.t 115)
 (.skip)
 (.exit 0))
 (.seq (.block 1 (.seq (.region [m 116 114,
 m 5 116])
 (.seq (.region [f 117 14 463 2,
 l 118 117,
 m 119 5,
 u 120 (.indexA (.sl 1) (.t 118) (.t 119)),
 l 121 120,
 o 122 (.convS (.t 121)),
 f 123 14 463 3,
 l 124 123,
 m 125 5,
 u 126 (.indexA (.sl 1) (.t 124) (.t 125)),
 l 127 126,
 o 128 (.convS (.t 127)),
 o 129 (.bin .neq .no (.t 122) (.t 128))])
 (.cond (.t 129)
 (.seq (.region [o 4 (.mv (.c (.bl false)))])
 (.ret))
 (.skip)))))
 (.region [o 130 (.bin .add .no (.t 114) (.c (.int .i64 1))),
 m 114 130])))
def burrowref25_SamePeerc1 : ACode :=
 .seq (.region [o 4 (.mv (.c (.bl true)))])
 (.ret)
def burrowref25_SamePeer : AFun := ⟨131, [.mv (.t 4)],
 .seq (.region [u 2 (.box (.t 0)),
 u 3 (.box (.t 1)),
 o 4 (.mv (.c (.bl false)))])
 (.seq (.seq (.region [f 6 0 0 2,
 o 7 (.load true 32 (.t 6)),
 f 8 0 0 3,
 o 9 (.load true 32 (.t 8)),
 o 10 (.bin .neq (.sh (.ar 32 (.i .u8))) (.t 7) (.t 9)),
 m 11 10,
 g 12 11 false true (.fieldA 1 32 (.t 2)),
 g 13 11 false true (.load true 32 (.t 12)),
 g 14 11 false true (.fieldA 1 32 (.t 3)),
 g 15 11 false true (.load true 32 (.t 14)),
 g 16 11 false true (.bin .neq (.sh (.ar 32 (.i .u8))) (.t 13) (.t 15)),
 o 17 (.pick (.t 11) (.c (.bl true)) (.t 16)),
 m 18 17,
 g 19 18 false true (.fieldA 2 64 (.t 2)),
 k 20 18 false 19,
 g 21 18 false true (.fieldA 2 64 (.t 3)),
 k 22 18 false 21,
 g 23 18 false true (.bin .neq .bl (.t 20) (.t 22)),
 o 24 (.pick (.t 18) (.c (.bl true)) (.t 23)),
 m 25 24,
 g 26 25 false true (.fieldA 3 65 (.t 2)),
 g 27 25 false true (.load true 18 (.t 26)),
 g 28 25 false true (.fieldA 3 65 (.t 3)),
 g 29 25 false true (.load true 18 (.t 28)),
 g 30 25 false true (.bin .neq (.sh (.st [(.st [.b, (.ar 16 (.i .u8))]), (.i .i64)])) (.t 27) (.t 29)),
 o 31 (.pick (.t 25) (.c (.bl true)) (.t 30)),
 m 32 31,
 g 33 32 false true (.fieldA 4 83 (.t 2)),
 k 34 32 false 33,
 g 35 32 false true (.fieldA 4 83 (.t 3)),
 k 36 32 false 35,
 g 37 32 false true (.bin .neq .no (.t 34) (.t 36)),
 o 38 (.pick (.t 32) (.c (.bl true)) (.t 37)),
 m 39 38,
 g 40 39 false true (.fieldA 5 84 (.t 2)),
 g 41 39 false true (.load true 12 (.t 40)),
 g 42 39 false true (.fieldA 5 84 (.t 3)),
 g 43 39 false true (.load true 12 (.t 42)),
 g 44 39 false true (.bin .neq (.sh (.ar 12 (.i .u8))) (.t 41) (.t 43)),
 o 45 (.pick (.t 39) (.c (.bl true)) (.t 44)),
 m 46 45,
 g 47 46 false true (.fieldA 6 96 (.t 2)),
 k 48 46 false 47,
 g 49 46 false true (.fieldA 6 96 (.t 3)),
 k 50 46 false 49,
 g 51 46 false true (.bin .neq .bl (.t 48) (.t 50)),
 o 52 (.pick (.t 46) (.c (.bl true)) (.t 51)),
 m 53 52,
 g 54 53 false true (.fieldA 7 97 (.t 2)),
 k 55 53 false 54,
 g 56 53 false true (.fieldA 7 97 (.t 3)),
 k 57 53 false 56,
 g 58 53 false true (.bin .neq .no (.t 55) (.t 57)),
 o 59 (.pick (.t 53) (.c (.bl true)) (.t 58)),
 m 60 59,
 g 61 60 false true (.fieldA 8 98 (.t 2)),
 g 62 60 false true (.load true 100 (.t 61)),
 g 63 60 false true (.fieldA 8 98 (.t 3)),
 g 64 60 false true (.load true 100 (.t 63)),
 g 65 60 false true (.bin .neq (.sh (.st [.b, (.i .u32), (.ar 32 (.i .u8)), (.st [(.ar 32 (.i .u8)), (.ar 32 (.i .u8))]), (.i .i64), (.i .i64)])) (.t 62) (.t 64)),
 o 66 (.pick (.t 60) (.c (.bl true)) (.t 65)),
 m 67 66,
 g 68 67 false true (.fieldA 9 198 (.t 2)),
 k 69 67 false 68,
 g 70 67 false true (.fieldA 9 198 (.t 3)),
 k 71 67 false 70,
 g 72 67 false true (.bin .neq .bl (.t 69) (.t 71)),
 o 73 (.pick (.t 67) (.c (.bl true)) (.t 72)),
 m 74 73,
 g 75 74 false true (.fieldA 10 199 (.t 2)),
 g 76 74 false true (.load true 16 (.t 75)),
 g 77 74 false true (.fieldA 10 199 (.t 3)),
 g 78 74 false true (.load true 16 (.t 77)),
 g 79 74 false true (.bin .neq (.sh (.ar 16 (.i .u8))) (.t 76) (.t 78)),
 o 80 (.pick (.t 74) (.c (.bl true)) (.t 79)),
 m 81 80,
 g 82 81 false true (.fieldA 11 215 (.t 2)),
 k 83 81 false 82,
 g 84 81 false true (.fieldA 11 215 (.t 3)),
 k 85 81 false 84,
 g 86 81 false true (.bin .neq .no (.t 83) (.t 85)),
 o 87 (.pick (.t 81) (.c (.bl true)) (.t 86)),
 m 88 87,
 g 89 88 false true (.fieldA 12 216 (.t 2)),
 g 90 88 false true (.load true 16 (.t 89)),
 g 91 88 false true (.fieldA 12 216 (.t 3)),
 g 92 88 false true (.load true 16 (.t 91)),
 g 93 88 false true (.bin .neq (.sh (.ar 16 (.i .u8))) (.t 90) (.t 92)),
 o 94 (.pick (.t 88) (.c (.bl true)) (.t 93)),
 m 95 94,
 g 96 95 false true (.fieldA 13 232 (.t 2)),
 g 97 95 false true (.load true 231 (.t 96)),
 g 98 95 false true (.fieldA 13 232 (.t 3)),
 g 99 95 false true (.load true 231 (.t 98)),
 g 100 95 false true (.bin .neq (.sh (.st [(.st [.b, (.st [(.i .u32), (.i .u32), (.ar 32 (.i .u8)), (.ar 32 (.i .u8)), (.i .u64), (.i .u64), (.st [.b, (.i .u64), (.ar 4 (.i .u64))]), (.i .i64), .b])]), (.st [.b, (.st [(.i .u32), (.i .u32), (.ar 32 (.i .u8)), (.ar 32 (.i .u8)), (.i .u64), (.i .u64), (.st [.b, (.i .u64), (.ar 4 (.i .u64))]), (.i .i64), .b])]), (.st [.b, (.st [(.i .u32), (.i .u32), (.ar 32 (.i .u8)), (.ar 32 (.i .u8)), (.i .u64), (.i .u64), (.st [.b, (.i .u64), (.ar 4 (.i .u64))]), (.i .i64), .b])])])) (.t 97) (.t 99)),
 o 101 (.pick (.t 95) (.c (.bl true)) (.t 100)),
 m 102 101,
 g 103 102 false true (.fieldA 14 463 (.t 2)),
 k 104 102 false 103,
 g 105 102 false true (.len (.t 104)),
 g 106 102 false true (.fieldA 14 463 (.t 3)),
 k 107 102 false 106,
 g 108 102 false true (.len (.t 107)),
 g 109 102 false true (.bin .neq .no (.t 105) (.t 108)),
 o 110 (.pick (.t 102) (.c (.bl true)) (.t 109))])
 (.cond (.t 110)
 (.seq (.region [o 4 (.mv (.c (.bl false)))])
 (.ret))
 (.skip)))
 (.seq (.seq (.region [f 111 14 463 2,
 l 112 111,
 o 113 (.len (.t 112)),
 o 114 (.mv (.c (.int .i64 0)))])
 (.block 0 (.loop burrowref25_SamePeerl0)))
 burrowref25_SamePeerc1))⟩
def burrowref25_sameListsl0 : ACode :=
 .seq (.region [o 57 (.bin .lss .no (.t 56) (.t 55))])
 (.seq (.cond (.t 57)
 (.skip)
 (.exit 0))
 (.seq (.block 1 (.seq (.region [m 58 56,
 m 5 58])
 (.seq (.region [f 59 7 109 2,
 l 60 59,
 m 61 5,
 u 62 (.indexA (.sl 50) (.t 60) (.t 61)),
 o 63 (.load true 50 (.t 62)),
 f 64 7 109 3,
 l 65 64,
 m 66 5,
 u 67 (.indexA (.sl 50) (.t 65) (.t 66)),
 o 68 (.load true 50 (.t 67)),
 o 69 (.bin .neq (.sh (.st [(.st [(.st [.b, (.ar 16 (.i .u8))]), (.i .i64)]), (.ar 32 (.i .u8))])) (.t 63) (.t 68))])
 (.cond (.t 69)
 (.seq (.region [o 4 (.mv (.c (.bl false)))])
 (.ret))
 (.skip)))))
 (.region [o 70 (.bin .add .no (.t 56) (.c (.int .i64 1))),
 m 56 70])))
def burrowref25_sameListsl1 : ACode :=
 .seq (.region [o 75 (.bin .lss .no (.t 74) (.t 73))])
 (.seq (.cond (.t 75)
 (.skip)
 (.exit 2))
 (.seq (.block 3 (.seq (.region [m 76 74,
 m 6 76])
 (.seq (.region [f 77 8 110 2,
 l 78 77,
 m 79 6,
 u 80 (.indexA (.sl 34) (.t 78) (.t 79)),
 o 81 (.load true 34 (.t 80)),
 f 82 8 110 3,
 l 83 82,
 m 84 6,
 u 85 (.indexA (.sl 34) (.t 83) (.t 84)),
 o 86 (.load true 34 (.t 85)),
 o 87 (.bin .neq (.sh (.st [(.i .u32), (.ar 32 (.i .u8)), .b])) (.t 81) (.t 86))])
 (.cond (.t 87)
 (.seq (.region [o 4 (.mv (.c (.bl false)))])
 (.ret))
 (.skip)))))
 (.region [o 88 (.bin .add .no (.t 74) (.c (.int .i64 1))),
 m 74 88])))
def burrowref25_sameListsl2 : ACode :=
 .seq (.region [o 93 (.bin .lss .no (.t 92) (.t 91))])
 (.seq (.cond (.t 93)
 (.skip)
 (.exit 4))
 (.seq (.block 5 (.seq (.region [m 94 92,
 m 7 94])
 (.seq (.region [f 95 9 111 2,
 l 96 95,
 m 97 7,
 u 98 (.indexA (.sl 34) (.t 96) (.t 97)),
 o 99 (.load true 34 (.t 98)),
 f 100 9 111 3,
 l 101 100,
 m 102 7,
 u 103 (.indexA (.sl 34) (.t 101) (.t 102)),
 o 104 (.load true 34 (.t 103)),
 o 105 (.bin .neq (.sh (.st [(.i .i64), (.ar 32 (.i .u8)), (.i .i64)])) (.t 99) (.t 104))])
 (.cond (.t 105)
 (.seq (.region [o 4 (.mv (.c (.bl false)))])
 (.ret))
 (.skip)))))
 (.region [o 106 (.bin .add .no (.t 92) (.c (.int .i64 1))),
 m 92 106])))
def burrowref25_sameListsl3 : ACode :=
 .seq (.region [o 111 (.bin .lss .no (.t 110) (.t 109))])
 (.seq (.cond (.t 111)
 (.skip)
 (.exit 6))
 (.seq (.block 7 (.seq (.region [m 112 110,
 m 8 112])
 (.seq (.region [f 113 12 145 2,
 l 114 113,
 m 115 8,
 u 116 (.indexA (.sl 1) (.t 114) (.t 115)),
 l 117 116,
 f 118 12 145 3,
 l 119 118,
 m 120 8,
 u 121 (.indexA (.sl 1) (.t 119) (.t 120)),
 l 122 121,
 o 123 (.bin .neq .no (.t 117) (.t 122))])
 (.cond (.t 123)
 (.seq (.region [o 4 (.mv (.c (.bl false)))])
 (.ret))
 (.skip)))))
 (.region [o 124 (.bin .add .no (.t 110) (.c (.int .i64 1))),
 m 110 124])))
def burrowref25_sameListsl4 : ACode :=
 .seq (.region [o 129 (.bin .lss .no (.t 128) (.t 127))])
 (.seq (.cond (.t 129)
 (.skip)
 (.exit 8))
 (.seq (.block 9 (.seq (.region [m 130 128,
 m 9 130])
 (.seq (.region [f 131 13 146 2,
 l 132 131,
 m 133 9,
 u 134 (.indexA (.sl 19) (.t 132) (.t 133)),
 o 135 (.load true 19 (.t 134)),
 f 136 13 146 3,
 l 137 136,
 m 138 9,
 u 139 (.indexA (.sl 19) (.t 137) (.t 138)),
 o 140 (.load true 19 (.t 139)),
 o 141 (.bin .neq (.sh (.st [(.st [.b, (.ar 16 (.i .u8))]), (.i .i64), (.i .i64)])) (.t 135) (.t 140))])
 (.cond (.t 141)
 (.seq (.region [o 4 (.mv (.c (.bl false)))])
 (.ret))
 (.skip)))))
 (.region [o 142 (.bin .add .no (.t 128) (.c (.int .i64 1))),
 m 128 142])))
def burrowref25_sameListsc5 : ACode :=
 .seq (.region [o 4 (.mv (.c (.bl true)))])
 (.ret)
def burrowref25_sameListsc6 : ACode :=
 .seq (.seq (.region [f 125 13 146 2,
 l 126 125,
 o 127 (.len (.t 126)),
 o 128 (.mv (.c (.int .i64 0)))])
 (.block 8 (.loop burrowref25_sameListsl4)))
 burrowref25_sameListsc5
def burrowref25_sameListsc7 : ACode :=
 .seq (.seq (.region [f 107 12 145 2,
 l 108 107,
 o 109 (.len (.t 108)),
 o 110 (.mv (.c (.int .i64 0)))])
 (.block 6 (.loop burrowref25_sameListsl3)))
 burrowref25_sameListsc6
def burrowref25_sameListsc8 : ACode :=
 .seq (.seq (.region [f 89 9 111 2,
 l 90 89,
 o 91 (.len (.t 90)),
 o 92 (.mv (.c (.int .i64 0)))])
 (.block 4 (.loop burrowref25_sameListsl2)))
 burrowref25_sameListsc7
def burrowref25_sameListsc9 : ACode :=
 .seq (.seq (.region [f 71 8 110 2,
 l 72 71,
 o 73 (.len (.t 72)),
 o 74 (.mv (.c (.int .i64 0)))])
 (.block 2 (.loop burrowref25_sameListsl1)))
 burrowref25_sameListsc8
def burrowref25_sameLists : AFun := ⟨143, [.mv (.t 4)],
 .seq (.region [u 2 (.box (.t 0)),
 u 3 (.box (.t 1)),
 o 4 (.mv (.c (.bl false)))])
 (.seq (.seq (.region [f 10 7 109 2,
 l 11 10,
 o 12 (.len (.t 11)),
 f 13 7 109 3,
 l 14 13,
 o 15 (.len (.t 14)),
 o 16 (.bin .neq .no (.t 12) (.t 15)),
 m 17 16,
 g 18 17 false true (.fieldA 8 110 (.t 2)),
 k 19 17 false 18,
 g 20 17 false true (.len (.t 19)),
 g 21 17 false true (.fieldA 8 110 (.t 3)),
 k 22 17 false 21,
 g 23 17 false true (.len (.t 22)),
 g 24 17 false true (.bin .neq .no (.t 20) (.t 23)),
 o 25 (.pick (.t 17) (.c (.bl true)) (.t 24)),
 m 26 25,
 g 27 26 false true (.fieldA 9 111 (.t 2)),
 k 28 26 false 27,
 g 29 26 false true (.len (.t 28)),
 g 30 26 false true (.fieldA 9 111 (.t 3)),
 k 31 26 false 30,
 g 32 26 false true (.len (.t 31)),
 g 33 26 false true (.bin .neq .no (.t 29) (.t 32)),
 o 34 (.pick (.t 26) (.c (.bl true)) (.t 33)),
 m 35 34,
 g 36 35 false true (.fieldA 12 145 (.t 2)),
 k 37 35 false 36,
 g 38 35 false true (.len (.t 37)),
 g 39 35 false true (.fieldA 12 145 (.t 3)),
 k 40 35 false 39,
 g 41 35 false true (.len (.t 40)),
 g 42 35 false true (.bin .neq .no (.t 38) (.t 41)),
 o 43 (.pick (.t 35) (.c (.bl true)) (.t 42)),
 m 44 43,
 g 45 44 false true (.fieldA 13 146 (.t 2)),
 k 46 44 false 45,
 g 47 44 false true (.len (.t 46)),
 g 48 44 false true (.fieldA 13 146 (.t 3)),
 k 49 44 false 48,
 g 50 44 false true (.len (.t 49)),
 g 51 44 false true (.bin .neq .no (.t 47) (.t 50)),
 o 52 (.pick (.t 44) (.c (.bl true)) (.t 51))])
 (.cond (.t 52)
 (.seq (.region [o 4 (.mv (.c (.bl false)))])
 (.ret))
 (.skip)))
 (.seq (.seq (.region [f 53 7 109 2,
 l 54 53,
 o 55 (.len (.t 54)),
 o 56 (.mv (.c (.int .i64 0)))])
 (.block 0 (.loop burrowref25_sameListsl0)))
 burrowref25_sameListsc9))⟩
def rules_Checkl0 : ACode :=
 .seq (.region [o 8 (.bin .lss .no (.t 7) (.t 6))])
 (.seq (.cond (.t 8)
 (.skip)
 (.exit 0))
 (.seq (.block 1 (.seq (.region [m 9 7,
 u 10 (.indexA (.sl 1) (.t 5) (.t 7)),
 l 11 10,
 m 3 9,
 m 4 11])
 (.seq (.region [m 12 4,
 o 13 (.load true 148 (.t 1)),
 u 14 (.call (.t 12) [(.t 13)]),
 o 15 (.un .not (.t 14))])
 (.cond (.t 15)
 (.seq (.region [m 16 3,
 o 17 (.bin .add .no (.t 16) (.c (.int .i64 1))),
 m 2 17])
 (.ret))
 (.skip)))))
 (.region [o 18 (.bin .add .no (.t 7) (.c (.int .i64 1))),
 m 7 18])))
def rules_Checkc1 : ACode :=
 .seq (.region [o 2 (.mv (.c (.int .i64 0)))])
 (.ret)
def rules_Check : AFun := ⟨19, [.mv (.t 2)],
 .seq (.region [u 1 (.box (.t 0)),
 o 2 (.mv (.c (.int .i64 0)))])
 (.seq (.seq (.region [c 5 I.rules_All [],
 o 6 (.len (.t 5)),
 o 7 (.mv (.c (.int .i64 0)))])
 (.block 0 (.loop rules_Checkl0)))
 rules_Checkc1)⟩
def burrowref22_Get : AFun := ⟨19, [.load true 77 (.t 4)],
 .seq (.region [u 2 (.box (.t 0)),
 u 4 (.alloc (.st 77 [(.bl false), (.st 76 [(.int .u32 0), (.int .u32 0), (.ar 1 32 (zr 32 (.int .u8 0))), (.ar 1 32 (zr 32 (.int .u8 0))), (.int .u64 0), (.int .u64 0), (.st 6 [(.bl false), (.int .u64 0), (.ar 1 4 (zr 4 (.int .u64 0)))]), (.int .i64 0), (.bl false)])]))])
 (.seq (.seq (.region [m 5 1])
 (.block 0 (.seq (.region [o 7 (.bin .eql .no (.t 5) (.c (.int .i64 1))),
 m 6 7])
 (.cond (.t 6)
 (.seq (.region [f 8 0 0 2,
 o 9 (.load true 77 (.t 8)),
 ⟨none, none, false, .store 77 (.t 4) (.t 9)⟩])
 (.ret))
 (.seq (.region [o 11 (.bin .eql .no (.t 5) (.c (.int .i64 2))),
 m 10 11])
 (.cond (.t 10)
 (.seq (.region [f 12 1 77 2,
 o 13 (.load true 77 (.t 12)),
 ⟨none, none, false, .store 77 (.t 4) (.t 13)⟩])
 (.ret))
 (.seq (.region [o 15 (.bin .eql .no (.t 5) (.c (.int .i64 3))),
 m 14 15])
 (.cond (.t 14)
 (.seq (.region [f 16 2 154 2,
 o 17 (.load true 77 (.t 16)),
 ⟨none, none, false, .store 77 (.t 4) (.t 17)⟩])
 (.ret))
 (.skip)))))))))
 (.seq (.region [u 18 (.build (.st 77 [(.bl false), (.st 76 [(.int .u32 0), (.int .u32 0), (.ar 1 32 (zr 32 (.int .u8 0))), (.ar 1 32 (zr 32 (.int .u8 0))), (.int .u64 0), (.int .u64 0), (.st 6 [(.bl false), (.int .u64 0), (.ar 1 4 (zr 4 (.int .u64 0)))]), (.int .i64 0), (.bl false)])]) []),
 ⟨none, none, false, .store 77 (.t 4) (.t 18)⟩])
 (.ret)))⟩
def burrowcase_Codes_Bytesl0 : ACode :=
 .seq (.region [o 22 (.bin .lss .no (.t 21) (.t 20))])
 (.seq (.cond (.t 22)
 (.skip)
 (.exit 0))
 (.seq (.block 1 (.seq (.region [m 23 21,
 m 8 23])
 (.region [m 24 5,
 m 25 8,
 m 26 6,
 m 27 8,
 m 28 7,
 o 29 (.bin .mul .no (.t 27) (.t 28)),
 o 30 (.bin .add .no (.t 26) (.t 29)),
 o 31 (.convI .u8 (.t 30)),
 u 32 (.indexA (.sl 1) (.t 24) (.t 25)),
 ⟨none, none, false, .store 1 (.t 32) (.t 31)⟩])))
 (.region [o 33 (.bin .add .no (.t 21) (.c (.int .i64 1))),
 m 21 33])))
def burrowcase_Codes_Bytesc1 : ACode :=
 .seq (.region [m 34 5,
 m 4 34])
 (.ret)
def burrowcase_Codes_Bytes : AFun := ⟨35, [.mv (.t 4)],
 .seq (.region [o 4 (.mv (.c (.sl 1 [] true)))])
 (.seq (.region [m 9 1,
 u 10 (.makeSlice 1 1 (.int .u8 0) (.t 9) (.t 9)),
 m 5 10])
 (.seq (.region [m 11 0,
 c 12 I.burrowcase_Codes_Next [(.t 11), (.c (.int .i64 256))],
 m 6 12])
 (.seq (.region [m 13 0,
 o 14 (.nilCheck (.t 13)),
 f 15 1 1 14,
 l 16 15,
 o 17 (.bin .mul .no (.c (.int .i64 2)) (.t 16)),
 o 18 (.bin .add .no (.t 17) (.c (.int .i64 1))),
 m 7 18])
 (.seq (.seq (.region [m 19 5,
 o 20 (.len (.t 19)),
 o 21 (.mv (.c (.int .i64 0)))])
 (.block 0 (.loop burrowcase_Codes_Bytesl0)))
 burrowcase_Codes_Bytesc1))))⟩
def burrowcase_Codes_Left : AFun := ⟨13, [.mv (.t 2)],
 .seq (.region [o 2 (.mv (.c (.bl false)))])
 (.seq (.region [m 3 0,
 o 4 (.nilCheck (.t 3)),
 f 5 1 1 4,
 l 6 5,
 m 7 0,
 o 8 (.nilCheck (.t 7)),
 f 9 0 0 8,
 l 10 9,
 o 11 (.len (.t 10)),
 o 12 (.bin .lss .no (.t 6) (.t 11)),
 m 2 12])
 (.ret))⟩
def burrowref14_Cancell0 : ACode :=
 .seq (.region [o 13 (.bin .lss .no (.t 12) (.t 11))])
 (.seq (.cond (.t 13)
 (.skip)
 (.exit 0))
 (.seq (.block 1 (.seq (.region [u 14 (.indexA (.sl 34) (.t 10) (.t 12)),
 o 15 (.load true 34 (.t 14)),
 u 9 (.alloc (.st 34 [(.int .i64 0), (.ar 1 32 (zr 32 (.int .u8 0))), (.int .i64 0)])),
 ⟨none, none, false, .store 34 (.t 9) (.t 15)⟩])
 (.seq (.region [f 16 1 1 9,
 o 17 (.load true 32 (.t 16)),
 o 18 (.load true 32 (.t 4)),
 o 19 (.bin .neq (.sh (.ar 32 (.i .u8))) (.t 17) (.t 18)),
 m 20 19,
 g 21 20 false true (.fieldA 2 33 (.t 9)),
 k 22 20 false 21,
 g 23 20 false true (.mv (.t 2)),
 g 24 20 false true (.bin .neq .no (.t 22) (.t 23)),
 o 25 (.pick (.t 20) (.c (.bl true)) (.t 24))])
 (.cond (.t 25)
 (.region [m 26 7,
 o 27 (.load true 34 (.t 9)),
 u 28 (.buildSlice false 34 (.st 34 [(.int .i64 0), (.ar 1 32 (zr 32 (.int .u8 0))), (.int .i64 0)]) 1 [(0, (.t 27))]),
 u 29 (.append 34 48 false (.t 26) (.t 28)),
 m 7 29])
 (.skip)))))
 (.region [o 30 (.bin .add .no (.t 12) (.c (.int .i64 1))),
 m 12 30])))
def burrowref14_Cancelc1 : ACode :=
 .seq (.region [m 31 7,
 m 6 31])
 (.ret)
def burrowref14_Cancel : AFun := ⟨32, [.mv (.t 6)],
 .seq (.region [u 4 (.box (.t 1)),
 o 6 (.mv (.c (.sl 34 [] true)))])
 (.seq (.region [o 7 (.mv (.c (.sl 34 [] true)))])
 (.seq (.seq (.region [m 10 0,
 o 11 (.len (.t 10)),
 o 12 (.mv (.c (.int .i64 0)))])
 (.block 0 (.loop burrowref14_Cancell0)))
 burrowref14_Cancelc1))⟩
def burrowref14_LessTimer : AFun := ⟨32, [.mv (.t 4)],
 .seq (.region [u 2 (.box (.t 0)),
 u 3 (.box (.t 1)),
 o 4 (.mv (.c (.bl false)))])
 (.seq (.seq (.region [f 5 0 0 2,
 l 6 5,
 f 7 0 0 3,
 l 8 7,
 o 9 (.bin .neq .no (.t 6) (.t 8))])
 (.cond (.t 9)
 (.seq (.region [f 10 0 0 2,
 l 11 10,
 f 12 0 0 3,
 l 13 12,
 o 14 (.bin .lss .no (.t 11) (.t 13)),
 m 4 14])
 (.ret))
 (.skip)))
 (.seq (.seq (.region [f 15 1 1 2,
 o 16 (.load true 32 (.t 15)),
 f 17 1 1 3,
 o 18 (.load true 32 (.t 17)),
 o 19 (.bin .neq (.sh (.ar 32 (.i .u8))) (.t 16) (.t 18))])
 (.cond (.t 19)
 (.seq (.region [f 20 1 1 2,
 u 21 (.slice (.ar 32 1) (.t 20) none none none),
 o 22 (.convS (.t 21)),
 f 23 1 1 3,
 u 24 (.slice (.ar 32 1) (.t 23) none none none),
 o 25 (.convS (.t 24)),
 o 26 (.bin .lss .no (.t 22) (.t 25)),
 m 4 26])
 (.ret))
 (.skip)))
 (.seq (.region [f 27 2 33 2,
 l 28 27,
 f 29 2 33 3,
 l 30 29,
 o 31 (.bin .lss .no (.t 28) (.t 30)),
 m 4 31])
 (.ret))))⟩
def burrowref09_Validl0 : ACode :=
 .seq (.seq (.region [m 23 3,
 o 24 (.bin .lss .no (.t 23) (.c (.int .i64 128)))])
 (.cond (.t 24)
 (.skip)
 (.exit 0)))
 (.seq (.block 1 (.seq (.region [f 27 0 0 1,
 o 28 (.load true 17 (.t 27)),
 m 29 3,
 c 30 I.burrowref09_bit [(.t 28), (.t 29)],
 o 31 (.bin .neq .no (.t 30) (.c (.int .u8 0)))])
 (.cond (.t 31)
 (.seq (.region [o 2 (.mv (.c (.bl false)))])
 (.ret))
 (.skip))))
 (.region [m 25 3,
 o 26 (.bin .add .no (.t 25) (.c (.int .i64 1))),
 m 3 26]))
def burrowref09_Validc1 : ACode :=
 .seq (.region [o 2 (.mv (.c (.bl true)))])
 (.ret)
def burrowref09_Valid : AFun := ⟨32, [.mv (.t 2)],
 .seq (.region [u 1 (.box (.t 0)),
 o 2 (.mv (.c (.bl false)))])
 (.seq (.seq (.region [f 4 0 0 1,
 o 5 (.load true 17 (.t 4)),
 u 6 (.callq (.c (.fn (.func I.burrowref09_Sound) [] [])) [(.t 5)]),
 o 7 (.un .not (.t 6)),
 m 8 7,
 g 9 8 false true (.fieldA 1 17 (.t 1)),
 k 10 8 false 9,
 g 11 8 false true (.bin .lss .no (.t 10) (.c (.int .i64 0))),
 o 12 (.pick (.t 8) (.c (.bl true)) (.t 11)),
 m 13 12,
 g 14 13 false true (.fieldA 1 17 (.t 1)),
 k 15 13 false 14,
 g 16 13 false true (.fieldA 0 0 (.t 1)),
 g 17 13 false true (.load true 17 (.t 16)),
 g 18 13 false false (.callq (.c (.fn (.func I.burrowref09_width) [] [])) [(.t 17)]),
 g 19 13 false false (.bin .gtr .no (.t 15) (.t 18)),
 o 20 (.pick (.t 13) (.c (.bl true)) (.t 19))])
 (.cond (.t 20)
 (.seq (.region [o 2 (.mv (.c (.bl false)))])
 (.ret))
 (.skip)))
 (.seq (.seq (.region [f 21 1 17 1,
 l 22 21,
 m 3 22])
 (.block 0 (.loop burrowref09_Validl0)))
 burrowref09_Validc1))⟩
def burrowref14_before : AFun := ⟨20, [.mv (.t 4)],
 .seq (.region [u 2 (.box (.t 0)),
 u 3 (.box (.t 1)),
 o 4 (.mv (.c (.bl false)))])
 (.seq (.seq (.region [f 5 0 0 2,
 o 6 (.load true 17 (.t 5)),
 f 7 0 0 3,
 o 8 (.load true 17 (.t 7)),
 o 9 (.bin .neq (.sh (.st [.b, (.ar 16 (.i .u8))])) (.t 6) (.t 8))])
 (.cond (.t 9)
 (.seq (.region [f 10 0 0 2,
 o 11 (.load true 17 (.t 10)),
 f 12 0 0 3,
 o 13 (.load true 17 (.t 12)),
 c 14 I.burrowref09_Less [(.t 11), (.t 13)],
 m 4 14])
 (.ret))
 (.skip)))
 (.seq (.region [f 15 1 17 2,
 l 16 15,
 f 17 1 17 3,
 l 18 17,
 o 19 (.bin .lss .no (.t 16) (.t 18)),
 m 4 19])
 (.ret)))⟩
def burrowref24_Valid : AFun := ⟨6, [.mv (.t 2)],
 .seq (.region [u 1 (.box (.t 0)),
 o 2 (.mv (.c (.bl false)))])
 (.seq (.region [o 3 (.load true 148 (.t 1)),
 c 4 I.burrowref24_Check [(.t 3)],
 o 5 (.bin .eql .no (.t 4) (.c (.int .i64 0))),
 m 2 5])
 (.ret))⟩
def burrowref24_findl0 : ACode :=
 .seq (.region [o 11 (.bin .lss .no (.t 10) (.t 9))])
 (.seq (.cond (.t 11)
 (.skip)
 (.exit 0))
 (.seq (.block 1 (.seq (.region [m 12 10,
 u 13 (.indexA (.sl 464) (.t 8) (.t 10)),
 o 14 (.load true 464 (.t 13)),
 u 6 (.alloc (.st 464 [(.ar 1 32 (zr 32 (.int .u8 0))), (.ar 1 32 (zr 32 (.int .u8 0))), (.bl false), (.st 18 [(.st 17 [(.bl false), (.ar 1 16 (zr 16 (.int .u8 0)))]), (.int .i64 0)]), (.int .i64 0), (.ar 1 12 (zr 12 (.int .u8 0))), (.bl false), (.int .i64 0), (.st 100 [(.bl false), (.int .u32 0), (.ar 1 32 (zr 32 (.int .u8 0))), (.st 64 [(.ar 1 32 (zr 32 (.int .u8 0))), (.ar 1 32 (zr 32 (.int .u8 0)))]), (.int .i64 0), (.int .i64 0)]), (.bl false), (.ar 1 16 (zr 16 (.int .u8 0))), (.int .i64 0), (.ar 1 16 (zr 16 (.int .u8 0))), (.st 231 [(.st 77 [(.bl false), (.st 76 [(.int .u32 0), (.int .u32 0), (.ar 1 32 (zr 32 (.int .u8 0))), (.ar 1 32 (zr 32 (.int .u8 0))), (.int .u64 0), (.int .u64 0), (.st 6 [(.bl false), (.int .u64 0), (.ar 1 4 (zr 4 (.int .u64 0)))]), (.int .i64 0), (.bl false)])]), (.st 77 [(.bl false), (.st 76 [(.int .u32 0), (.int .u32 0), (.ar 1 32 (zr 32 (.int .u8 0))), (.ar 1 32 (zr 32 (.int .u8 0))), (.int .u64 0), (.int .u64 0), (.st 6 [(.bl false), (.int .u64 0), (.ar 1 4 (zr 4 (.int .u64 0)))]), (.int .i64 0), (.bl false)])]), (.st 77 [(.bl false), (.st 76 [(.int .u32 0), (.int .u32 0), (.ar 1 32 (zr 32 (.int .u8 0))), (.ar 1 32 (zr 32 (.int .u8 0))), (.int .u64 0), (.int .u64 0), (.st 6 [(.bl false), (.int .u64 0), (.ar 1 4 (zr 4 (.int .u64 0)))]), (.int .i64 0), (.bl false)])])]), (.sl 1 [] true)])),
 m 5 12,
 ⟨none, none, false, .store 464 (.t 6) (.t 14)⟩])
 (.seq (.region [f 15 0 0 6,
 o 16 (.load true 32 (.t 15)),
 o 17 (.load true 32 (.t 3)),
 o 18 (.bin .eql (.sh (.ar 32 (.i .u8))) (.t 16) (.t 17))])
 (.cond (.t 18)
 (.seq (.region [m 19 5,
 m 4 19])
 (.ret))
 (.skip)))))
 (.region [o 20 (.bin .add .no (.t 10) (.c (.int .i64 1))),
 m 10 20])))
def burrowref24_findc1 : ACode :=
 .seq (.region [o 4 (.mv (.c (.int .i64 (-1))))])
 (.ret)
def burrowref24_find : AFun := ⟨21, [.mv (.t 4)],
 .seq (.region [u 2 (.box (.t 0)),
 u 3 (.box (.t 1)),
 o 4 (.mv (.c (.int .i64 0)))])
 (.seq (.seq (.region [f 7 6 108 2,
 l 8 7,
 o 9 (.len (.t 8)),
 o 10 (.mv (.c (.int .i64 0)))])
 (.block 0 (.loop burrowref24_findl0)))
 burrowref24_findc1)⟩
def burrowref14_FindSlotl0 : ACode :=
 .seq (.region [o 11 (.bin .lss .no (.t 10) (.t 9))])
 (.seq (.cond (.t 11)
 (.skip)
 (.exit 0))
 (.seq (.block 1 (.seq (.region [u 12 (.indexA (.sl 34) (.t 8) (.t 10)),
 o 13 (.load true 34 (.t 12)),
 u 7 (.alloc (.st 34 [(.int .u32 0), (.ar 1 32 (zr 32 (.int .u8 0))), (.bl false)])),
 ⟨none, none, false, .store 34 (.t 7) (.t 13)⟩])
 (.seq (.region [f 14 0 0 7,
 l 15 14,
 m 16 1,
 o 17 (.bin .eql .no (.t 15) (.t 16))])
 (.cond (.t 17)
 (.seq (.region [o 18 (.load true 34 (.t 7)),
 ⟨none, none, false, .store 34 (.t 4) (.t 18)⟩,
 o 5 (.mv (.c (.bl true)))])
 (.ret))
 (.skip)))))
 (.region [o 19 (.bin .add .no (.t 10) (.c (.int .i64 1))),
 m 10 19])))
def burrowref14_FindSlotc1 : ACode :=
 .seq (.region [u 20 (.build (.st 34 [(.int .u32 0), (.ar 1 32 (zr 32 (.int .u8 0))), (.bl false)]) []),
 ⟨none, none, false, .store 34 (.t 4) (.t 20)⟩,
 o 5 (.mv (.c (.bl false)))])
 (.ret)
def burrowref14_FindSlot : AFun := ⟨21, [.load true 34 (.t 4), .mv (.t 5)],
 .seq (.region [u 4 (.alloc (.st 34 [(.int .u32 0), (.ar 1 32 (zr 32 (.int .u8 0))), (.bl false)])),
 o 5 (.mv (.c (.bl false)))])
 (.seq (.seq (.region [m 8 0,
 o 9 (.len (.t 8)),
 o 10 (.mv (.c (.int .i64 0)))])
 (.block 0 (.loop burrowref14_FindSlotl0)))
 burrowref14_FindSlotc1)⟩
def burrowref24_sound : AFun := ⟨33, [.mv (.t 4)],
 .seq (.region [u 2 (.box (.t 0)),
 u 3 (.box (.t 1)),
 o 4 (.mv (.c (.bl false)))])
 (.seq (.region [o 5 (.load true 148 (.t 2)),
 f 6 7 74 3,
 l 7 6,
 c 8 I.burrowref24_past [(.t 5), (.t 7)],
 m 9 8,
 h 10 9 5 67 3,
 k 11 9 true 10,
 h 12 9 0 0 2,
 h 13 9 1 1 12,
 k 14 9 true 13,
 g 15 9 true true (.bin .eql .no (.t 11) (.t 14)),
 o 16 (.pick (.t 9) (.t 15) (.c (.bl false))),
 m 17 16,
 h 18 17 4 66 3,
 k 19 17 true 18,
 g 20 17 true true (.bin .leq .no (.t 19) (.c (.int .u64 18446744073709543423))),
 o 21 (.pick (.t 17) (.t 20) (.c (.bl false))),
 m 22 21,
 h 23 22 6 68 3,
 h 24 22 0 0 23,
 k 25 22 true 24,
 g 26 22 true true (.mv (.t 25)),
 g 27 26 false true (.fieldA 6 68 (.t 3)),
 g 28 26 false true (.load true 6 (.t 27)),
 g 29 26 false false (.build (.st 6 [(.bl false), (.int .u64 0), (.ar 1 4 (zr 4 (.int .u64 0)))]) []),
 g 30 26 false false (.bin .eql (.sh (.st [.b, (.i .u64), (.ar 4 (.i .u64))])) (.t 28) (.t 29)),
 g 31 22 true true (.pick (.t 26) (.c (.bl true)) (.t 30)),
 o 32 (.pick (.t 22) (.t 31) (.c (.bl false))),
 m 4 32])
 (.ret))⟩
def burrowref22_Begin : AFun := ⟨31, [.load true 231 (.t 4), .mv (.t 5)],
 .seq (.region [u 2 (.box (.t 0)),
 u 3 (.box (.t 1)),
 u 4 (.alloc (.st 231 [(.st 77 [(.bl false), (.st 76 [(.int .u32 0), (.int .u32 0), (.ar 1 32 (zr 32 (.int .u8 0))), (.ar 1 32 (zr 32 (.int .u8 0))), (.int .u64 0), (.int .u64 0), (.st 6 [(.bl false), (.int .u64 0), (.ar 1 4 (zr 4 (.int .u64 0)))]), (.int .i64 0), (.bl false)])]), (.st 77 [(.bl false), (.st 76 [(.int .u32 0), (.int .u32 0), (.ar 1 32 (zr 32 (.int .u8 0))), (.ar 1 32 (zr 32 (.int .u8 0))), (.int .u64 0), (.int .u64 0), (.st 6 [(.bl false), (.int .u64 0), (.ar 1 4 (zr 4 (.int .u64 0)))]), (.int .i64 0), (.bl false)])]), (.st 77 [(.bl false), (.st 76 [(.int .u32 0), (.int .u32 0), (.ar 1 32 (zr 32 (.int .u8 0))), (.ar 1 32 (zr 32 (.int .u8 0))), (.int .u64 0), (.int .u64 0), (.st 6 [(.bl false), (.int .u64 0), (.ar 1 4 (zr 4 (.int .u64 0)))]), (.int .i64 0), (.bl false)])])])),
 o 5 (.mv (.c (.sl 1 [] true)))])
 (.seq (.region [o 7 (.load true 76 (.t 3)),
 u 8 (.build (.st 77 [(.bl false), (.st 76 [(.int .u32 0), (.int .u32 0), (.ar 1 32 (zr 32 (.int .u8 0))), (.ar 1 32 (zr 32 (.int .u8 0))), (.int .u64 0), (.int .u64 0), (.st 6 [(.bl false), (.int .u64 0), (.ar 1 4 (zr 4 (.int .u64 0)))]), (.int .i64 0), (.bl false)])]) [(0, (.c (.bl true))), (1, (.t 7))]),
 u 6 (.alloc (.st 77 [(.bl false), (.st 76 [(.int .u32 0), (.int .u32 0), (.ar 1 32 (zr 32 (.int .u8 0))), (.ar 1 32 (zr 32 (.int .u8 0))), (.int .u64 0), (.int .u64 0), (.st 6 [(.bl false), (.int .u64 0), (.ar 1 4 (zr 4 (.int .u64 0)))]), (.int .i64 0), (.bl false)])])),
 ⟨none, none, false, .store 77 (.t 6) (.t 8)⟩])
 (.seq (.seq (.region [f 9 2 154 2,
 f 10 0 0 9,
 l 11 10])
 (.cond (.t 11)
 (.seq (.region [f 12 2 154 2,
 o 13 (.load true 77 (.t 12)),
 o 14 (.load true 77 (.t 6)),
 u 15 (.build (.st 231 [(.st 77 [(.bl false), (.st 76 [(.int .u32 0), (.int .u32 0), (.ar 1 32 (zr 32 (.int .u8 0))), (.ar 1 32 (zr 32 (.int .u8 0))), (.int .u64 0), (.int .u64 0), (.st 6 [(.bl false), (.int .u64 0), (.ar 1 4 (zr 4 (.int .u64 0)))]), (.int .i64 0), (.bl false)])]), (.st 77 [(.bl false), (.st 76 [(.int .u32 0), (.int .u32 0), (.ar 1 32 (zr 32 (.int .u8 0))), (.ar 1 32 (zr 32 (.int .u8 0))), (.int .u64 0), (.int .u64 0), (.st 6 [(.bl false), (.int .u64 0), (.ar 1 4 (zr 4 (.int .u64 0)))]), (.int .i64 0), (.bl false)])]), (.st 77 [(.bl false), (.st 76 [(.int .u32 0), (.int .u32 0), (.ar 1 32 (zr 32 (.int .u8 0))), (.ar 1 32 (zr 32 (.int .u8 0))), (.int .u64 0), (.int .u64 0), (.st 6 [(.bl false), (.int .u64 0), (.ar 1 4 (zr 4 (.int .u64 0)))]), (.int .i64 0), (.bl false)])])]) [(0, (.t 13)), (1, (.t 14))]),
 f 16 0 0 2,
 o 17 (.load true 77 (.t 16)),
 f 18 1 77 2,
 o 19 (.load true 77 (.t 18)),
 u 20 (.buildSlice false 77 (.st 77 [(.bl false), (.st 76 [(.int .u32 0), (.int .u32 0), (.ar 1 32 (zr 32 (.int .u8 0))), (.ar 1 32 (zr 32 (.int .u8 0))), (.int .u64 0), (.int .u64 0), (.st 6 [(.bl false), (.int .u64 0), (.ar 1 4 (zr 4 (.int .u64 0)))]), (.int .i64 0), (.bl false)])]) 2 [(0, (.t 17)), (1, (.t 19))]),
 u 21 (.callq (.c (.fn (.func I.burrowref22_locals) [] [])) [(.t 20)]),
 ⟨none, none, false, .store 231 (.t 4) (.t 15)⟩,
 m 5 21])
 (.ret))
 (.skip)))
 (.seq (.region [f 22 1 77 2,
 o 23 (.load true 77 (.t 22)),
 u 24 (.callq (.c (.fn (.func I.burrowref22_clean) [] [])) [(.t 23)]),
 o 25 (.load true 77 (.t 6)),
 u 26 (.build (.st 231 [(.st 77 [(.bl false), (.st 76 [(.int .u32 0), (.int .u32 0), (.ar 1 32 (zr 32 (.int .u8 0))), (.ar 1 32 (zr 32 (.int .u8 0))), (.int .u64 0), (.int .u64 0), (.st 6 [(.bl false), (.int .u64 0), (.ar 1 4 (zr 4 (.int .u64 0)))]), (.int .i64 0), (.bl false)])]), (.st 77 [(.bl false), (.st 76 [(.int .u32 0), (.int .u32 0), (.ar 1 32 (zr 32 (.int .u8 0))), (.ar 1 32 (zr 32 (.int .u8 0))), (.int .u64 0), (.int .u64 0), (.st 6 [(.bl false), (.int .u64 0), (.ar 1 4 (zr 4 (.int .u64 0)))]), (.int .i64 0), (.bl false)])]), (.st 77 [(.bl false), (.st 76 [(.int .u32 0), (.int .u32 0), (.ar 1 32 (zr 32 (.int .u8 0))), (.ar 1 32 (zr 32 (.int .u8 0))), (.int .u64 0), (.int .u64 0), (.st 6 [(.bl false), (.int .u64 0), (.ar 1 4 (zr 4 (.int .u64 0)))]), (.int .i64 0), (.bl false)])])]) [(0, (.t 24)), (1, (.t 25))]),
 f 27 0 0 2,
 o 28 (.load true 77 (.t 27)),
 u 29 (.buildSlice false 77 (.st 77 [(.bl false), (.st 76 [(.int .u32 0), (.int .u32 0), (.ar 1 32 (zr 32 (.int .u8 0))), (.ar 1 32 (zr 32 (.int .u8 0))), (.int .u64 0), (.int .u64 0), (.st 6 [(.bl false), (.int .u64 0), (.ar 1 4 (zr 4 (.int .u64 0)))]), (.int .i64 0), (.bl false)])]) 1 [(0, (.t 28))]),
 u 30 (.callq (.c (.fn (.func I.burrowref22_locals) [] [])) [(.t 29)]),
 ⟨none, none, false, .store 231 (.t 4) (.t 26)⟩,
 m 5 30])
 (.ret))))⟩
def burrowref22_Answer : AFun := ⟨17, [.load true 231 (.t 4), .mv (.t 5)],
 .seq (.region [u 2 (.box (.t 0)),
 u 3 (.box (.t 1)),
 u 4 (.alloc (.st 231 [(.st 77 [(.bl false), (.st 76 [(.int .u32 0), (.int .u32 0), (.ar 1 32 (zr 32 (.int .u8 0))), (.ar 1 32 (zr 32 (.int .u8 0))), (.int .u64 0), (.int .u64 0), (.st 6 [(.bl false), (.int .u64 0), (.ar 1 4 (zr 4 (.int .u64 0)))]), (.int .i64 0), (.bl false)])]), (.st 77 [(.bl false), (.st 76 [(.int .u32 0), (.int .u32 0), (.ar 1 32 (zr 32 (.int .u8 0))), (.ar 1 32 (zr 32 (.int .u8 0))), (.int .u64 0), (.int .u64 0), (.st 6 [(.bl false), (.int .u64 0), (.ar 1 4 (zr 4 (.int .u64 0)))]), (.int .i64 0), (.bl false)])]), (.st 77 [(.bl false), (.st 76 [(.int .u32 0), (.int .u32 0), (.ar 1 32 (zr 32 (.int .u8 0))), (.ar 1 32 (zr 32 (.int .u8 0))), (.int .u64 0), (.int .u64 0), (.st 6 [(.bl false), (.int .u64 0), (.ar 1 4 (zr 4 (.int .u64 0)))]), (.int .i64 0), (.bl false)])])])),
 o 5 (.mv (.c (.sl 1 [] true)))])
 (.seq (.region [f 6 1 77 2,
 o 7 (.load true 77 (.t 6)),
 o 8 (.load true 76 (.t 3)),
 u 9 (.build (.st 77 [(.bl false), (.st 76 [(.int .u32 0), (.int .u32 0), (.ar 1 32 (zr 32 (.int .u8 0))), (.ar 1 32 (zr 32 (.int .u8 0))), (.int .u64 0), (.int .u64 0), (.st 6 [(.bl false), (.int .u64 0), (.ar 1 4 (zr 4 (.int .u64 0)))]), (.int .i64 0), (.bl false)])]) [(0, (.c (.bl true))), (1, (.t 8))]),
 u 10 (.build (.st 231 [(.st 77 [(.bl false), (.st 76 [(.int .u32 0), (.int .u32 0), (.ar 1 32 (zr 32 (.int .u8 0))), (.ar 1 32 (zr 32 (.int .u8 0))), (.int .u64 0), (.int .u64 0), (.st 6 [(.bl false), (.int .u64 0), (.ar 1 4 (zr 4 (.int .u64 0)))]), (.int .i64 0), (.bl false)])]), (.st 77 [(.bl false), (.st 76 [(.int .u32 0), (.int .u32 0), (.ar 1 32 (zr 32 (.int .u8 0))), (.ar 1 32 (zr 32 (.int .u8 0))), (.int .u64 0), (.int .u64 0), (.st 6 [(.bl false), (.int .u64 0), (.ar 1 4 (zr 4 (.int .u64 0)))]), (.int .i64 0), (.bl false)])]), (.st 77 [(.bl false), (.st 76 [(.int .u32 0), (.int .u32 0), (.ar 1 32 (zr 32 (.int .u8 0))), (.ar 1 32 (zr 32 (.int .u8 0))), (.int .u64 0), (.int .u64 0), (.st 6 [(.bl false), (.int .u64 0), (.ar 1 4 (zr 4 (.int .u64 0)))]), (.int .i64 0), (.bl false)])])]) [(1, (.t 7)), (2, (.t 9))]),
 f 11 0 0 2,
 o 12 (.load true 77 (.t 11)),
 f 13 2 154 2,
 o 14 (.load true 77 (.t 13)),
 u 15 (.buildSlice false 77 (.st 77 [(.bl false), (.st 76 [(.int .u32 0), (.int .u32 0), (.ar 1 32 (zr 32 (.int .u8 0))), (.ar 1 32 (zr 32 (.int .u8 0))), (.int .u64 0), (.int .u64 0), (.st 6 [(.bl false), (.int .u64 0), (.ar 1 4 (zr 4 (.int .u64 0)))]), (.int .i64 0), (.bl false)])]) 2 [(0, (.t 12)), (1, (.t 14))]),
 u 16 (.callq (.c (.fn (.func I.burrowref22_locals) [] [])) [(.t 15)]),
 ⟨none, none, false, .store 231 (.t 4) (.t 10)⟩,
 m 5 16])
 (.ret))⟩
def burrowref24_machine_dropl0 : ACode :=
 .seq (.region [o 9 (.bin .lss .no (.t 8) (.t 7))])
 (.seq (.cond (.t 9)
 (.skip)
 (.exit 0))
 (.seq (.block 1 (.seq (.region [u 10 (.indexA (.sl 1) (.t 6) (.t 8)),
 l 11 10,
 m 5 11])
 (.region [m 12 0,
 m 13 0,
 o 14 (.nilCheck (.t 13)),
 f 15 0 0 14,
 f 16 8 110 15,
 l 17 16,
 m 18 5,
 c 19 I.burrowref14_DropSlot [(.t 17), (.t 18)],
 o 20 (.nilCheck (.t 12)),
 f 21 0 0 20,
 f 22 8 110 21,
 ⟨none, none, false, .store 1 (.t 22) (.t 19)⟩])))
 (.region [o 23 (.bin .add .no (.t 8) (.c (.int .i64 1))),
 m 8 23])))
def burrowref24_machine_drop : AFun := ⟨24, [],
 .seq (.region [m 6 1,
 o 7 (.len (.t 6)),
 o 8 (.mv (.c (.int .i64 0)))])
 (.block 0 (.loop burrowref24_machine_dropl0))⟩
def burrowref14_Takel0 : ACode :=
 .block 1 (.seq (.seq (.region [m 22 0,
 m 23 11,
 c 24 I.burrowref14_FindSlot [(.t 22), (.t 23)],
 m 21 24,
 o 25 (.extract 0 (.t 21)),
 o 26 (.extract 1 (.t 21)),
 u 12 (.alloc (.st 34 [(.int .u32 0), (.ar 1 32 (zr 32 (.int .u8 0))), (.bl false)])),
 ⟨none, none, false, .store 34 (.t 12) (.t 25)⟩,
 m 13 26])
 (.seq (.region [m 27 13,
 o 28 (.un .not (.t 27))])
 (.cond (.t 28)
 (.exit 0)
 (.skip))))
 (.region [m 29 11,
 o 30 (.bin .add .no (.t 29) (.c (.int .u32 1))),
 o 31 (.mm true [(.t 30), (.c (.int .u32 1))]),
 m 11 31]))
def burrowref14_Takel1 : ACode :=
 .seq (.seq (.region [m 32 14,
 m 33 0,
 o 34 (.len (.t 33)),
 o 35 (.bin .lss .no (.t 32) (.t 34)),
 m 36 35,
 g 37 36 true true (.mv (.t 0)),
 g 38 36 true true (.mv (.t 14)),
 g 39 36 true false (.indexA (.sl 34) (.t 37) (.t 38)),
 g 40 36 true false (.fieldA 0 0 (.t 39)),
 g 41 36 true false (.load false 1 (.t 40)),
 g 42 36 true true (.mv (.t 11)),
 g 43 36 true false (.bin .lss .no (.t 41) (.t 42)),
 o 44 (.pick (.t 36) (.t 43) (.c (.bl false)))])
 (.cond (.t 44)
 (.skip)
 (.exit 2)))
 (.block 3 (.region [m 45 14,
 o 46 (.bin .add .no (.t 45) (.c (.int .i64 1))),
 m 14 46]))
def burrowref14_Takec2 : ACode :=
 .seq (.region [m 47 0,
 m 48 14,
 u 49 (.slice (.sl 34) (.t 47) none (some (.t 48)) none),
 u 50 (.append 34 40 false (.c (.sl 0 [] true)) (.t 49)),
 m 15 50])
 (.seq (.region [m 51 15,
 m 52 11,
 o 53 (.load true 32 (.t 6)),
 m 54 3,
 u 55 (.build (.st 34 [(.int .u32 0), (.ar 1 32 (zr 32 (.int .u8 0))), (.bl false)]) [(0, (.t 52)), (1, (.t 53)), (2, (.t 54))]),
 u 56 (.buildSlice false 34 (.st 34 [(.int .u32 0), (.ar 1 32 (zr 32 (.int .u8 0))), (.bl false)]) 1 [(0, (.t 55))]),
 u 57 (.append 34 40 false (.t 51) (.t 56)),
 m 15 57])
 (.seq (.region [m 58 15,
 m 59 0,
 m 60 14,
 u 61 (.slice (.sl 34) (.t 59) (some (.t 60)) none none),
 u 62 (.append 34 40 false (.t 58) (.t 61)),
 m 63 11,
 m 8 62,
 m 9 63,
 o 10 (.mv (.c (.int .i64 0)))])
 (.ret)))
def burrowref14_Takec3 : ACode :=
 .seq (.region [o 14 (.mv (.c (.int .i64 0)))])
 (.seq (.block 2 (.loop burrowref14_Takel1))
 burrowref14_Takec2)
def burrowref14_Take : AFun := ⟨64, [.mv (.t 8), .mv (.t 9), .mv (.t 10)],
 .seq (.region [u 6 (.box (.t 2)),
 o 8 (.mv (.c (.sl 34 [] true))),
 o 9 (.mv (.c (.int .u32 0))),
 o 10 (.mv (.c (.int .i64 0)))])
 (.seq (.seq (.region [m 16 0,
 o 17 (.len (.t 16)),
 o 18 (.bin .geq .no (.t 17) (.c (.int .i64 32)))])
 (.cond (.t 18)
 (.seq (.region [o 8 (.mv (.c (.sl 34 [] true))),
 o 9 (.mv (.c (.int .u32 0))),
 o 10 (.mv (.c (.int .i64 12)))])
 (.ret))
 (.skip)))
 (.seq (.region [m 19 1,
 o 20 (.mm true [(.t 19), (.c (.int .u32 1))]),
 m 11 20])
 (.seq (.block 0 (.loop burrowref14_Takel0))
 burrowref14_Takec3)))⟩
def burrowref24_machine_set : AFun := ⟨36, [],
 .region [m 8 0,
 m 9 0,
 o 10 (.nilCheck (.t 9)),
 f 11 0 0 10,
 f 12 9 111 11,
 l 13 12,
 m 14 0,
 o 15 (.nilCheck (.t 14)),
 f 16 0 0 15,
 f 17 5 107 16,
 l 18 17,
 m 19 3,
 o 20 (.bin .add .no (.t 18) (.t 19)),
 m 21 0,
 o 22 (.nilCheck (.t 21)),
 f 23 0 0 22,
 f 24 6 108 23,
 l 25 24,
 m 26 1,
 u 27 (.indexA (.sl 464) (.t 25) (.t 26)),
 f 28 0 0 27,
 o 29 (.load true 32 (.t 28)),
 m 30 2,
 u 31 (.build (.st 34 [(.int .i64 0), (.ar 1 32 (zr 32 (.int .u8 0))), (.int .i64 0)]) [(0, (.t 20)), (1, (.t 29)), (2, (.t 30))]),
 u 32 (.callq (.c (.fn (.func I.burrowref14_Set) [] [])) [(.t 13), (.t 31)]),
 o 33 (.nilCheck (.t 8)),
 f 34 0 0 33,
 f 35 9 111 34,
 ⟨none, none, false, .store 1 (.t 35) (.t 32)⟩]⟩
def burrowref22_New : AFun := ⟨23, [.load true 76 (.t 14)],
 .seq (.region [u 9 (.box (.t 2)),
 u 10 (.box (.t 3)),
 u 14 (.alloc (.st 76 [(.int .u32 0), (.int .u32 0), (.ar 1 32 (zr 32 (.int .u8 0))), (.ar 1 32 (zr 32 (.int .u8 0))), (.int .u64 0), (.int .u64 0), (.st 6 [(.bl false), (.int .u64 0), (.ar 1 4 (zr 4 (.int .u64 0)))]), (.int .i64 0), (.bl false)]))])
 (.seq (.region [m 15 0,
 m 16 1,
 o 17 (.load true 32 (.t 9)),
 o 18 (.load true 32 (.t 10)),
 m 19 6,
 m 20 4,
 m 21 5,
 u 22 (.build (.st 76 [(.int .u32 0), (.int .u32 0), (.ar 1 32 (zr 32 (.int .u8 0))), (.ar 1 32 (zr 32 (.int .u8 0))), (.int .u64 0), (.int .u64 0), (.st 6 [(.bl false), (.int .u64 0), (.ar 1 4 (zr 4 (.int .u64 0)))]), (.int .i64 0), (.bl false)]) [(0, (.t 15)), (1, (.t 16)), (2, (.t 17)), (3, (.t 18)), (5, (.t 19)), (7, (.t 20)), (8, (.t 21))]),
 ⟨none, none, false, .store 76 (.t 14) (.t 22)⟩])
 (.ret))⟩
def burrowref14_AcceptWindowl0 : ACode :=
 .seq (.seq (.region [m 21 6,
 m 22 1,
 u 23 (.bin .quo .no (.t 22) (.c (.int .u64 64))),
 f 24 1 1 2,
 l 25 24,
 u 26 (.bin .quo .no (.t 25) (.c (.int .u64 64))),
 o 27 (.bin .sub .no (.t 23) (.t 26)),
 o 28 (.mm false [(.t 27), (.c (.int .u64 4))]),
 o 29 (.bin .leq .no (.t 21) (.t 28))])
 (.cond (.t 29)
 (.skip)
 (.exit 0)))
 (.seq (.block 1 (.region [f 32 1 1 2,
 l 33 32,
 u 34 (.bin .quo .no (.t 33) (.c (.int .u64 64))),
 m 35 6,
 o 36 (.bin .add .no (.t 34) (.t 35)),
 u 37 (.bin .rem .no (.t 36) (.c (.int .u64 4))),
 f 38 2 2 2,
 u 39 (.indexA (.ar 4 1) (.t 38) (.t 37)),
 ⟨none, none, false, .store 1 (.t 39) (.c (.int .u64 0))⟩]))
 (.region [m 30 6,
 o 31 (.bin .add .no (.t 30) (.c (.int .u64 1))),
 m 6 31]))
def burrowref14_AcceptWindowc1 : ACode :=
 .region [m 40 1,
 f 41 1 1 2,
 ⟨none, none, false, .store 1 (.t 41) (.t 40)⟩]
def burrowref14_AcceptWindowc2 : ACode :=
 .seq (.region [m 42 1,
 u 43 (.bin .quo .no (.t 42) (.c (.int .u64 64))),
 u 44 (.bin .rem .no (.t 43) (.c (.int .u64 4))),
 f 45 2 2 2,
 u 46 (.indexA (.ar 4 1) (.t 45) (.t 44)),
 l 47 46,
 m 48 1,
 u 49 (.bin .rem .no (.t 48) (.c (.int .u64 64))),
 u 50 (.bin .shl .no (.c (.int .u64 1)) (.t 49)),
 o 51 (.bin .or .no (.t 47) (.t 50)),
 f 52 2 2 2,
 u 53 (.indexA (.ar 4 1) (.t 52) (.t 44)),
 ⟨none, none, false, .store 1 (.t 53) (.t 51)⟩])
 (.seq (.region [o 54 (.load true 6 (.t 2)),
 ⟨none, none, false, .store 6 (.t 4) (.t 54)⟩,
 o 5 (.mv (.c (.bl true)))])
 (.ret))
def burrowref14_AcceptWindow : AFun := ⟨55, [.load true 6 (.t 4), .mv (.t 5)],
 .seq (.region [u 2 (.box (.t 0)),
 u 4 (.alloc (.st 6 [(.bl false), (.int .u64 0), (.ar 1 4 (zr 4 (.int .u64 0)))])),
 o 5 (.mv (.c (.bl false)))])
 (.seq (.seq (.region [o 7 (.load true 6 (.t 2)),
 m 8 1,
 c 9 I.burrowref14_CheckWindow [(.t 7), (.t 8)],
 o 10 (.un .not (.t 9))])
 (.cond (.t 10)
 (.seq (.region [o 11 (.load true 6 (.t 2)),
 ⟨none, none, false, .store 6 (.t 4) (.t 11)⟩,
 o 5 (.mv (.c (.bl false)))])
 (.ret))
 (.skip)))
 (.seq (.seq (.region [f 12 0 0 2,
 l 13 12,
 o 14 (.un .not (.t 13))])
 (.cond (.t 14)
 (.region [m 15 1,
 u 16 (.build (.st 6 [(.bl false), (.int .u64 0), (.ar 1 4 (zr 4 (.int .u64 0)))]) [(0, (.c (.bl true))), (1, (.t 15))]),
 ⟨none, none, false, .store 6 (.t 2) (.t 16)⟩])
 (.skip)))
 (.seq (.seq (.region [m 17 1,
 f 18 1 1 2,
 l 19 18,
 o 20 (.bin .gtr .no (.t 17) (.t 19))])
 (.cond (.t 20)
 (.seq (.seq (.region [o 6 (.mv (.c (.int .u64 1)))])
 (.block 0 (.loop burrowref14_AcceptWindowl0)))
 burrowref14_AcceptWindowc1)
 (.skip)))
 burrowref14_AcceptWindowc2)))⟩
def rules_All : AFun := ⟨2, [.mv (.t 0)],
 .seq (.region [o 0 (.mv (.c (.sl 1 [] true)))])
 (.seq (.region [u 1 (.buildSlice false 1 .nf 9 [(0, (.c (.fn (.func I.rules_numbers) [] []))), (1, (.c (.fn (.func I.rules_peers) [] []))), (2, (.c (.fn (.func I.rules_fields) [] []))), (3, (.c (.fn (.func I.rules_hands) [] []))), (4, (.c (.fn (.func I.rules_sessions) [] []))), (5, (.c (.fn (.func I.rules_routing) [] []))), (6, (.c (.fn (.func I.rules_slots) [] []))), (7, (.c (.fn (.func I.rules_timers) [] []))), (8, (.c (.fn (.func I.rules_load) [] [])))]),
 m 0 1])
 (.ret))⟩
def burrowref24_fieldsl0 : ACode :=
 .seq (.region [o 85 (.bin .lss .no (.t 84) (.t 83))])
 (.seq (.cond (.t 85)
 (.skip)
 (.exit 0))
 (.seq (.block 1 (.seq (.region [u 86 (.indexA (.sl 1) (.t 82) (.t 84)),
 l 87 86,
 m 6 87])
 (.seq (.region [m 89 6,
 c 90 I.burrowref09_Check [(.t 89)],
 m 88 90,
 o 91 (.extract 0 (.t 88)),
 o 92 (.extract 1 (.t 88)),
 u 7 (.alloc (.st 35 [(.st 17 [(.bl false), (.ar 1 16 (zr 16 (.int .u8 0)))]), (.st 17 [(.bl false), (.ar 1 16 (zr 16 (.int .u8 0)))]), (.int .i64 0)])),
 ⟨none, none, false, .store 35 (.t 7) (.t 91)⟩,
 m 8 92])
 (.seq (.region [m 93 8,
 o 94 (.bin .neq .no (.t 93) (.c (.int .i64 0))),
 m 95 94,
 g 96 95 false true (.fieldA 2 34 (.t 7)),
 k 97 95 false 96,
 g 98 95 false true (.mv (.t 6)),
 g 99 95 false true (.len (.t 98)),
 g 100 95 false true (.bin .neq .no (.t 97) (.t 99)),
 o 101 (.pick (.t 95) (.c (.bl true)) (.t 100))])
 (.cond (.t 101)
 (.seq (.region [o 4 (.mv (.c (.bl false)))])
 (.ret))
 (.skip))))))
 (.region [o 102 (.bin .add .no (.t 84) (.c (.int .i64 1))),
 m 84 102])))
def burrowref24_fieldsc1 : ACode :=
 .seq (.region [o 4 (.mv (.c (.bl true)))])
 (.ret)
def burrowref24_fields : AFun := ⟨103, [.mv (.t 4)],
 .seq (.region [u 2 (.box (.t 0)),
 u 3 (.box (.t 1)),
 o 4 (.mv (.c (.bl false)))])
 (.seq (.seq (.region [f 9 2 64 3,
 l 10 9,
 m 11 10,
 h 12 11 3 65 3,
 g 13 11 true true (.load true 18 (.t 12)),
 g 14 11 true false (.call (.c (.fn (.func I.burrowref13_FormatEndpoint) [] [])) [(.t 13)]),
 g 15 11 true false (.bin .eql .no (.t 14) (.c (.str []))),
 o 16 (.pick (.t 11) (.t 15) (.c (.bl false))),
 m 17 16,
 g 18 17 false true (.fieldA 2 64 (.t 3)),
 k 19 17 false 18,
 g 20 17 false true (.un .not (.t 19)),
 g 21 17 false true (.mv (.t 20)),
 h 22 21 3 65 3,
 g 23 21 true true (.load true 18 (.t 22)),
 g 24 21 true false (.build (.st 18 [(.st 17 [(.bl false), (.ar 1 16 (zr 16 (.int .u8 0)))]), (.int .i64 0)]) []),
 g 25 21 true false (.bin .neq (.sh (.st [(.st [.b, (.ar 16 (.i .u8))]), (.i .i64)])) (.t 23) (.t 24)),
 g 26 17 false true (.pick (.t 21) (.t 25) (.c (.bl false))),
 o 27 (.pick (.t 17) (.c (.bl true)) (.t 26)),
 m 28 27,
 g 29 28 false true (.fieldA 4 83 (.t 3)),
 k 30 28 false 29,
 g 31 28 false false (.call (.c (.fn (.func I.burrowref13_Timed) [] [])) [(.t 30)]),
 g 32 28 false false (.un .not (.t 31)),
 o 33 (.pick (.t 28) (.c (.bl true)) (.t 32))])
 (.cond (.t 33)
 (.seq (.region [o 4 (.mv (.c (.bl false)))])
 (.ret))
 (.skip)))
 (.seq (.seq (.region [o 34 (.load true 148 (.t 2)),
 f 35 7 97 3,
 l 36 35,
 c 37 I.burrowref24_past [(.t 34), (.t 36)],
 o 38 (.un .not (.t 37)),
 m 39 38,
 g 40 39 false true (.fieldA 6 96 (.t 3)),
 k 41 39 false 40,
 g 42 39 false true (.un .not (.t 41)),
 g 43 39 false true (.mv (.t 42)),
 h 44 43 7 97 3,
 k 45 43 true 44,
 g 46 43 true true (.bin .neq .no (.t 45) (.c (.int .i64 0))),
 g 47 39 false true (.pick (.t 43) (.t 46) (.c (.bl false))),
 o 48 (.pick (.t 39) (.c (.bl true)) (.t 47)),
 m 49 48,
 g 50 49 false true (.load true 148 (.t 2)),
 g 51 49 false true (.fieldA 11 215 (.t 3)),
 k 52 49 false 51,
 g 53 49 false false (.call (.c (.fn (.func I.burrowref24_past) [] [])) [(.t 50), (.t 52)]),
 g 54 49 false false (.un .not (.t 53)),
 o 55 (.pick (.t 49) (.c (.bl true)) (.t 54)),
 m 56 55,
 g 57 56 false true (.fieldA 9 198 (.t 3)),
 k 58 56 false 57,
 g 59 56 false true (.un .not (.t 58)),
 g 60 56 false true (.mv (.t 59)),
 h 61 60 11 215 3,
 k 62 60 true 61,
 g 63 60 true true (.bin .neq .no (.t 62) (.c (.int .i64 0))),
 g 64 60 true true (.mv (.t 63)),
 g 65 64 false true (.fieldA 10 199 (.t 3)),
 g 66 64 false true (.load true 16 (.t 65)),
 g 67 64 false false (.build (.ar 1 16 (zr 16 (.int .u8 0))) []),
 g 68 64 false false (.bin .neq (.sh (.ar 16 (.i .u8))) (.t 66) (.t 67)),
 g 69 60 true true (.pick (.t 64) (.c (.bl true)) (.t 68)),
 g 70 56 false true (.pick (.t 60) (.t 69) (.c (.bl false))),
 o 71 (.pick (.t 56) (.c (.bl true)) (.t 70)),
 m 72 71,
 g 73 72 false true (.fieldA 14 463 (.t 3)),
 k 74 72 false 73,
 g 75 72 false true (.len (.t 74)),
 g 76 72 false true (.fieldA 0 0 (.t 2)),
 g 77 72 false true (.fieldA 9 9 (.t 76)),
 k 78 72 false 77,
 g 79 72 false true (.bin .gtr .no (.t 75) (.t 78)),
 o 80 (.pick (.t 72) (.c (.bl true)) (.t 79))])
 (.cond (.t 80)
 (.seq (.region [o 4 (.mv (.c (.bl false)))])
 (.ret))
 (.skip)))
 (.seq (.seq (.region [f 81 14 463 3,
 l 82 81,
 o 83 (.len (.t 82)),
 o 84 (.mv (.c (.int .i64 0)))])
 (.block 0 (.loop burrowref24_fieldsl0)))
 burrowref24_fieldsc1)))⟩
def burrowref24_hand : AFun := ⟨35, [.mv (.t 4)],
 .seq (.region [u 2 (.box (.t 0)),
 u 3 (.box (.t 1)),
 o 4 (.mv (.c (.bl false)))])
 (.seq (.region [f 6 8 98 3,
 o 7 (.load true 100 (.t 6)),
 u 5 (.alloc (.st 100 [(.bl false), (.int .u32 0), (.ar 1 32 (zr 32 (.int .u8 0))), (.st 64 [(.ar 1 32 (zr 32 (.int .u8 0))), (.ar 1 32 (zr 32 (.int .u8 0)))]), (.int .i64 0), (.int .i64 0)])),
 ⟨none, none, false, .store 100 (.t 5) (.t 7)⟩])
 (.seq (.seq (.region [f 8 0 0 5,
 l 9 8,
 o 10 (.un .not (.t 9))])
 (.cond (.t 10)
 (.seq (.region [o 11 (.load true 100 (.t 5)),
 u 12 (.build (.st 100 [(.bl false), (.int .u32 0), (.ar 1 32 (zr 32 (.int .u8 0))), (.st 64 [(.ar 1 32 (zr 32 (.int .u8 0))), (.ar 1 32 (zr 32 (.int .u8 0)))]), (.int .i64 0), (.int .i64 0)]) []),
 o 13 (.bin .eql (.sh (.st [.b, (.i .u32), (.ar 32 (.i .u8)), (.st [(.ar 32 (.i .u8)), (.ar 32 (.i .u8))]), (.i .i64), (.i .i64)])) (.t 11) (.t 12)),
 m 4 13])
 (.ret))
 (.skip)))
 (.seq (.region [f 14 4 98 5,
 l 15 14,
 f 16 5 99 5,
 l 17 16,
 o 18 (.bin .leq .no (.t 15) (.t 17)),
 m 19 18,
 g 20 19 true true (.load true 148 (.t 2)),
 h 21 19 4 98 5,
 k 22 19 true 21,
 g 23 19 true false (.call (.c (.fn (.func I.burrowref24_past) [] [])) [(.t 20), (.t 22)]),
 o 24 (.pick (.t 19) (.t 23) (.c (.bl false))),
 m 25 24,
 g 26 25 true true (.load true 148 (.t 2)),
 h 27 25 5 99 5,
 k 28 25 true 27,
 g 29 25 true false (.call (.c (.fn (.func I.burrowref24_past) [] [])) [(.t 26), (.t 28)]),
 o 30 (.pick (.t 25) (.t 29) (.c (.bl false))),
 m 31 30,
 h 32 31 2 64 3,
 k 33 31 true 32,
 o 34 (.pick (.t 31) (.t 33) (.c (.bl false))),
 m 4 34])
 (.ret))))⟩
def burrowref24_ringl0 : ACode :=
 .seq (.seq (.region [m 7 5,
 o 8 (.bin .leq .no (.t 7) (.c (.int .i64 3)))])
 (.cond (.t 8)
 (.skip)
 (.exit 0)))
 (.seq (.block 1 (.seq (.region [f 11 13 232 3,
 o 12 (.load true 231 (.t 11)),
 m 13 5,
 c 14 I.burrowref22_Get [(.t 12), (.t 13)],
 u 6 (.alloc (.st 77 [(.bl false), (.st 76 [(.int .u32 0), (.int .u32 0), (.ar 1 32 (zr 32 (.int .u8 0))), (.ar 1 32 (zr 32 (.int .u8 0))), (.int .u64 0), (.int .u64 0), (.st 6 [(.bl false), (.int .u64 0), (.ar 1 4 (zr 4 (.int .u64 0)))]), (.int .i64 0), (.bl false)])])),
 ⟨none, none, false, .store 77 (.t 6) (.t 14)⟩])
 (.seq (.region [f 15 0 0 6,
 l 16 15,
 m 17 16,
 g 18 17 true true (.load true 148 (.t 2)),
 h 19 17 1 1 6,
 g 20 17 true true (.load true 76 (.t 19)),
 g 21 17 true false (.call (.c (.fn (.func I.burrowref24_sound) [] [])) [(.t 18), (.t 20)]),
 g 22 17 true false (.un .not (.t 21)),
 o 23 (.pick (.t 17) (.t 22) (.c (.bl false))),
 m 24 23,
 g 25 24 false true (.fieldA 0 0 (.t 6)),
 k 26 24 false 25,
 g 27 24 false true (.un .not (.t 26)),
 g 28 24 false true (.mv (.t 27)),
 g 29 28 true true (.load true 77 (.t 6)),
 g 30 28 true false (.build (.st 77 [(.bl false), (.st 76 [(.int .u32 0), (.int .u32 0), (.ar 1 32 (zr 32 (.int .u8 0))), (.ar 1 32 (zr 32 (.int .u8 0))), (.int .u64 0), (.int .u64 0), (.st 6 [(.bl false), (.int .u64 0), (.ar 1 4 (zr 4 (.int .u64 0)))]), (.int .i64 0), (.bl false)])]) []),
 g 31 28 true false (.bin .neq (.sh (.st [.b, (.st [(.i .u32), (.i .u32), (.ar 32 (.i .u8)), (.ar 32 (.i .u8)), (.i .u64), (.i .u64), (.st [.b, (.i .u64), (.ar 4 (.i .u64))]), (.i .i64), .b])])) (.t 29) (.t 30)),
 g 32 24 false true (.pick (.t 28) (.t 31) (.c (.bl false))),
 o 33 (.pick (.t 24) (.c (.bl true)) (.t 32))])
 (.cond (.t 33)
 (.seq (.region [o 4 (.mv (.c (.bl false)))])
 (.ret))
 (.skip)))))
 (.region [m 9 5,
 o 10 (.bin .add .no (.t 9) (.c (.int .i64 1))),
 m 5 10]))
def burrowref24_ringc1 : ACode :=
 .seq (.region [o 4 (.mv (.c (.bl true)))])
 (.ret)
def burrowref24_ring : AFun := ⟨34, [.mv (.t 4)],
 .seq (.region [u 2 (.box (.t 0)),
 u 3 (.box (.t 1)),
 o 4 (.mv (.c (.bl false)))])
 (.seq (.seq (.region [o 5 (.mv (.c (.int .i64 1)))])
 (.block 0 (.loop burrowref24_ringl0)))
 burrowref24_ringc1)⟩
def burrowref14_ValidRoutesl0 : ACode :=
 .seq (.region [o 8 (.bin .lss .no (.t 7) (.t 6))])
 (.seq (.cond (.t 8)
 (.skip)
 (.exit 0))
 (.seq (.block 1 (.seq (.region [m 9 7,
 u 10 (.indexA (.sl 50) (.t 5) (.t 7)),
 o 11 (.load true 50 (.t 10)),
 u 4 (.alloc (.st 50 [(.st 18 [(.st 17 [(.bl false), (.ar 1 16 (zr 16 (.int .u8 0)))]), (.int .i64 0)]), (.ar 1 32 (zr 32 (.int .u8 0)))])),
 m 3 9,
 ⟨none, none, false, .store 50 (.t 4) (.t 11)⟩])
 (.seq (.region [f 12 0 0 4,
 o 13 (.load true 18 (.t 12)),
 u 14 (.callq (.c (.fn (.func I.burrowref09_Valid) [] [])) [(.t 13)]),
 o 15 (.un .not (.t 14)),
 m 16 15,
 g 17 16 false true (.mv (.t 3)),
 g 18 16 false true (.bin .gtr .no (.t 17) (.c (.int .i64 0))),
 g 19 16 false true (.mv (.t 18)),
 g 20 19 true true (.mv (.t 0)),
 g 21 19 true true (.mv (.t 3)),
 g 22 19 true true (.bin .sub .no (.t 21) (.c (.int .i64 1))),
 g 23 19 true false (.indexA (.sl 50) (.t 20) (.t 22)),
 g 24 19 true false (.fieldA 0 0 (.t 23)),
 g 25 19 true false (.load true 18 (.t 24)),
 h 26 19 0 0 4,
 g 27 19 true true (.load true 18 (.t 26)),
 g 28 19 true false (.callq (.c (.fn (.func I.burrowref14_before) [] [])) [(.t 25), (.t 27)]),
 g 29 19 true false (.un .not (.t 28)),
 g 30 16 false true (.pick (.t 19) (.t 29) (.c (.bl false))),
 o 31 (.pick (.t 16) (.c (.bl true)) (.t 30))])
 (.cond (.t 31)
 (.seq (.region [o 2 (.mv (.c (.bl false)))])
 (.ret))
 (.skip)))))
 (.region [o 32 (.bin .add .no (.t 7) (.c (.int .i64 1))),
 m 7 32])))
def burrowref14_ValidRoutesc1 : ACode :=
 .seq (.region [m 33 0,
 o 34 (.len (.t 33)),
 o 35 (.bin .leq .no (.t 34) (.c (.int .i64 16))),
 m 2 35])
 (.ret)
def burrowref14_ValidRoutes : AFun := ⟨36, [.mv (.t 2)],
 .seq (.region [o 2 (.mv (.c (.bl false)))])
 (.seq (.seq (.region [m 5 0,
 o 6 (.len (.t 5)),
 o 7 (.mv (.c (.int .i64 0)))])
 (.block 0 (.loop burrowref14_ValidRoutesl0)))
 burrowref14_ValidRoutesc1)⟩
def burrowref14_ValidSlotsl0 : ACode :=
 .seq (.region [o 8 (.bin .lss .no (.t 7) (.t 6))])
 (.seq (.cond (.t 8)
 (.skip)
 (.exit 0))
 (.seq (.block 1 (.seq (.region [m 9 7,
 u 10 (.indexA (.sl 34) (.t 5) (.t 7)),
 o 11 (.load true 34 (.t 10)),
 u 4 (.alloc (.st 34 [(.int .u32 0), (.ar 1 32 (zr 32 (.int .u8 0))), (.bl false)])),
 m 3 9,
 ⟨none, none, false, .store 34 (.t 4) (.t 11)⟩])
 (.seq (.region [f 12 0 0 4,
 l 13 12,
 o 14 (.bin .eql .no (.t 13) (.c (.int .u32 0))),
 m 15 14,
 g 16 15 false true (.mv (.t 3)),
 g 17 15 false true (.bin .gtr .no (.t 16) (.c (.int .i64 0))),
 g 18 15 false true (.mv (.t 17)),
 h 19 18 0 0 4,
 k 20 18 true 19,
 g 21 18 true true (.mv (.t 0)),
 g 22 18 true true (.mv (.t 3)),
 g 23 18 true true (.bin .sub .no (.t 22) (.c (.int .i64 1))),
 g 24 18 true false (.indexA (.sl 34) (.t 21) (.t 23)),
 g 25 18 true false (.fieldA 0 0 (.t 24)),
 g 26 18 true false (.load false 1 (.t 25)),
 g 27 18 true false (.bin .leq .no (.t 20) (.t 26)),
 g 28 15 false true (.pick (.t 18) (.t 27) (.c (.bl false))),
 o 29 (.pick (.t 15) (.c (.bl true)) (.t 28))])
 (.cond (.t 29)
 (.seq (.region [o 2 (.mv (.c (.bl false)))])
 (.ret))
 (.skip)))))
 (.region [o 30 (.bin .add .no (.t 7) (.c (.int .i64 1))),
 m 7 30])))
def burrowref14_ValidSlotsc1 : ACode :=
 .seq (.region [m 31 0,
 o 32 (.len (.t 31)),
 o 33 (.bin .leq .no (.t 32) (.c (.int .i64 32))),
 m 2 33])
 (.ret)
def burrowref14_ValidSlots : AFun := ⟨34, [.mv (.t 2)],
 .seq (.region [o 2 (.mv (.c (.bl false)))])
 (.seq (.seq (.region [m 5 0,
 o 6 (.len (.t 5)),
 o 7 (.mv (.c (.int .i64 0)))])
 (.block 0 (.loop burrowref14_ValidSlotsl0)))
 burrowref14_ValidSlotsc1)⟩
def burrowref22_Locals : AFun := ⟨11, [.mv (.t 2)],
 .seq (.region [u 1 (.box (.t 0)),
 o 2 (.mv (.c (.sl 1 [] true)))])
 (.seq (.region [f 3 0 0 1,
 o 4 (.load true 77 (.t 3)),
 f 5 1 77 1,
 o 6 (.load true 77 (.t 5)),
 f 7 2 154 1,
 o 8 (.load true 77 (.t 7)),
 u 9 (.buildSlice false 77 (.st 77 [(.bl false), (.st 76 [(.int .u32 0), (.int .u32 0), (.ar 1 32 (zr 32 (.int .u8 0))), (.ar 1 32 (zr 32 (.int .u8 0))), (.int .u64 0), (.int .u64 0), (.st 6 [(.bl false), (.int .u64 0), (.ar 1 4 (zr 4 (.int .u64 0)))]), (.int .i64 0), (.bl false)])]) 3 [(0, (.t 4)), (1, (.t 6)), (2, (.t 8))]),
 c 10 I.burrowref22_locals [(.t 9)],
 m 2 10])
 (.ret))⟩
def burrowref14_ValidTimersl0 : ACode :=
 .seq (.region [o 51 (.bin .lss .no (.t 50) (.t 49))])
 (.seq (.cond (.t 51)
 (.skip)
 (.exit 2))
 (.seq (.block 3 (.seq (.region [u 52 (.indexA (.sl 34) (.t 48) (.t 50)),
 o 53 (.load true 34 (.t 52)),
 u 6 (.alloc (.st 34 [(.int .i64 0), (.ar 1 32 (zr 32 (.int .u8 0))), (.int .i64 0)])),
 ⟨none, none, false, .store 34 (.t 6) (.t 53)⟩])
 (.seq (.region [f 54 1 1 4,
 o 55 (.load true 32 (.t 54)),
 f 56 1 1 6,
 o 57 (.load true 32 (.t 56)),
 o 58 (.bin .eql (.sh (.ar 32 (.i .u8))) (.t 55) (.t 57)),
 m 59 58,
 h 60 59 2 33 4,
 k 61 59 true 60,
 h 62 59 2 33 6,
 k 63 59 true 62,
 g 64 59 true true (.bin .eql .no (.t 61) (.t 63)),
 o 65 (.pick (.t 59) (.t 64) (.c (.bl false)))])
 (.cond (.t 65)
 (.seq (.region [o 2 (.mv (.c (.bl false)))])
 (.ret))
 (.skip)))))
 (.region [o 66 (.bin .add .no (.t 50) (.c (.int .i64 1))),
 m 50 66])))
def burrowref14_ValidTimersc1 : ACode :=
 .region [o 67 (.bin .add .no (.t 9) (.c (.int .i64 1))),
 m 9 67]
def burrowref14_ValidTimersl2 : ACode :=
 .seq (.region [o 10 (.bin .lss .no (.t 9) (.t 8))])
 (.seq (.cond (.t 10)
 (.skip)
 (.exit 0))
 (.seq (.block 1 (.seq (.region [m 11 9,
 u 12 (.indexA (.sl 34) (.t 7) (.t 9)),
 o 13 (.load true 34 (.t 12)),
 u 4 (.alloc (.st 34 [(.int .i64 0), (.ar 1 32 (zr 32 (.int .u8 0))), (.int .i64 0)])),
 m 3 11,
 ⟨none, none, false, .store 34 (.t 4) (.t 13)⟩])
 (.seq (.seq (.region [f 14 2 33 4,
 l 15 14,
 o 16 (.bin .lss .no (.t 15) (.c (.int .i64 1))),
 m 17 16,
 g 18 17 false true (.fieldA 2 33 (.t 4)),
 k 19 17 false 18,
 g 20 17 false true (.bin .gtr .no (.t 19) (.c (.int .i64 5))),
 o 21 (.pick (.t 17) (.c (.bl true)) (.t 20)),
 m 22 21,
 g 23 22 false true (.fieldA 0 0 (.t 4)),
 k 24 22 false 23,
 g 25 22 false true (.bin .lss .no (.t 24) (.c (.int .i64 0))),
 o 26 (.pick (.t 22) (.c (.bl true)) (.t 25)),
 m 27 26,
 g 28 27 false true (.fieldA 0 0 (.t 4)),
 k 29 27 false 28,
 g 30 27 false true (.bin .gtr .no (.t 29) (.c (.int .i64 4398046511104))),
 o 31 (.pick (.t 27) (.c (.bl true)) (.t 30)),
 m 32 31,
 g 33 32 false true (.mv (.t 3)),
 g 34 32 false true (.bin .gtr .no (.t 33) (.c (.int .i64 0))),
 g 35 32 false true (.mv (.t 34)),
 g 36 35 true true (.mv (.t 0)),
 g 37 35 true true (.mv (.t 3)),
 g 38 35 true true (.bin .sub .no (.t 37) (.c (.int .i64 1))),
 g 39 35 true false (.indexA (.sl 34) (.t 36) (.t 38)),
 g 40 35 true false (.load true 34 (.t 39)),
 g 41 35 true true (.load true 34 (.t 4)),
 g 42 35 true false (.callq (.c (.fn (.func I.burrowref14_LessTimer) [] [])) [(.t 40), (.t 41)]),
 g 43 35 true false (.un .not (.t 42)),
 g 44 32 false true (.pick (.t 35) (.t 43) (.c (.bl false))),
 o 45 (.pick (.t 32) (.c (.bl true)) (.t 44))])
 (.cond (.t 45)
 (.seq (.region [o 2 (.mv (.c (.bl false)))])
 (.ret))
 (.skip)))
 (.seq (.region [m 46 0,
 m 47 3,
 u 48 (.slice (.sl 34) (.t 46) none (some (.t 47)) none),
 o 49 (.len (.t 48)),
 o 50 (.mv (.c (.int .i64 0)))])
 (.block 2 (.loop burrowref14_ValidTimersl0))))))
 burrowref14_ValidTimersc1))
def burrowref14_ValidTimersc3 : ACode :=
 .seq (.region [o 2 (.mv (.c (.bl true)))])
 (.ret)
def burrowref14_ValidTimers : AFun := ⟨68, [.mv (.t 2)],
 .seq (.region [o 2 (.mv (.c (.bl false)))])
 (.seq (.seq (.region [m 7 0,
 o 8 (.len (.t 7)),
 o 9 (.mv (.c (.int .i64 0)))])
 (.block 0 (.loop burrowref14_ValidTimersl2)))
 burrowref14_ValidTimersc3)⟩
def burrowref14_Hasl0 : ACode :=
 .seq (.region [o 12 (.bin .lss .no (.t 11) (.t 10))])
 (.seq (.cond (.t 12)
 (.skip)
 (.exit 0))
 (.seq (.block 1 (.seq (.region [u 13 (.indexA (.sl 34) (.t 9) (.t 11)),
 o 14 (.load true 34 (.t 13)),
 u 8 (.alloc (.st 34 [(.int .i64 0), (.ar 1 32 (zr 32 (.int .u8 0))), (.int .i64 0)])),
 ⟨none, none, false, .store 34 (.t 8) (.t 14)⟩])
 (.seq (.region [f 15 1 1 8,
 o 16 (.load true 32 (.t 15)),
 o 17 (.load true 32 (.t 4)),
 o 18 (.bin .eql (.sh (.ar 32 (.i .u8))) (.t 16) (.t 17)),
 m 19 18,
 h 20 19 2 33 8,
 k 21 19 true 20,
 g 22 19 true true (.mv (.t 2)),
 g 23 19 true true (.bin .eql .no (.t 21) (.t 22)),
 o 24 (.pick (.t 19) (.t 23) (.c (.bl false)))])
 (.cond (.t 24)
 (.seq (.region [o 6 (.mv (.c (.bl true)))])
 (.ret))
 (.skip)))))
 (.region [o 25 (.bin .add .no (.t 11) (.c (.int .i64 1))),
 m 11 25])))
def burrowref14_Hasc1 : ACode :=
 .seq (.region [o 6 (.mv (.c (.bl false)))])
 (.ret)
def burrowref14_Has : AFun := ⟨26, [.mv (.t 6)],
 .seq (.region [u 4 (.box (.t 1)),
 o 6 (.mv (.c (.bl false)))])
 (.seq (.seq (.region [m 9 0,
 o 10 (.len (.t 9)),
 o 11 (.mv (.c (.int .i64 0)))])
 (.block 0 (.loop burrowref14_Hasl0)))
 burrowref14_Hasc1)⟩
def burrowref24_past : AFun := ⟨9, [.mv (.t 4)],
 .seq (.region [u 2 (.box (.t 0)),
 o 4 (.mv (.c (.bl false)))])
 (.seq (.region [m 5 1,
 f 6 5 107 2,
 l 7 6,
 c 8 I.burrowref24_within [(.t 5), (.c (.int .i64 0)), (.t 7)],
 m 4 8])
 (.ret))⟩
def burrowref09_Soundl0 : ACode :=
 .seq (.region [o 9 (.bin .lss .no (.t 8) (.t 7))])
 (.seq (.cond (.t 9)
 (.skip)
 (.exit 0))
 (.seq (.block 1 (.seq (.region [u 10 (.indexA (.sl 1) (.t 6) (.t 8)),
 l 11 10,
 m 4 11])
 (.seq (.region [f 12 0 0 1,
 l 13 12,
 o 14 (.un .not (.t 13)),
 m 15 14,
 g 16 15 true true (.mv (.t 4)),
 g 17 15 true true (.bin .neq .no (.t 16) (.c (.int .u8 0))),
 o 18 (.pick (.t 15) (.t 17) (.c (.bl false)))])
 (.cond (.t 18)
 (.seq (.region [o 2 (.mv (.c (.bl false)))])
 (.ret))
 (.skip)))))
 (.region [o 19 (.bin .add .no (.t 8) (.c (.int .i64 1))),
 m 8 19])))
def burrowref09_Soundc1 : ACode :=
 .seq (.region [o 2 (.mv (.c (.bl true)))])
 (.ret)
def burrowref09_Sound : AFun := ⟨20, [.mv (.t 2)],
 .seq (.region [u 1 (.box (.t 0)),
 o 2 (.mv (.c (.bl false)))])
 (.seq (.seq (.region [f 5 1 1 1,
 u 6 (.slice (.ar 16 1) (.t 5) (some (.c (.int .i64 4))) none none),
 o 7 (.len (.t 6)),
 o 8 (.mv (.c (.int .i64 0)))])
 (.block 0 (.loop burrowref09_Soundl0)))
 burrowref09_Soundc1)⟩
def burrowref09_Less : AFun := ⟨20, [.mv (.t 4)],
 .seq (.region [u 2 (.box (.t 0)),
 u 3 (.box (.t 1)),
 o 4 (.mv (.c (.bl false)))])
 (.seq (.seq (.region [f 5 0 0 2,
 l 6 5,
 f 7 0 0 3,
 l 8 7,
 o 9 (.bin .neq .bl (.t 6) (.t 8))])
 (.cond (.t 9)
 (.seq (.region [f 10 0 0 2,
 l 11 10,
 o 12 (.un .not (.t 11)),
 m 4 12])
 (.ret))
 (.skip)))
 (.seq (.region [f 13 1 1 2,
 u 14 (.slice (.ar 16 1) (.t 13) none none none),
 o 15 (.convS (.t 14)),
 f 16 1 1 3,
 u 17 (.slice (.ar 16 1) (.t 16) none none none),
 o 18 (.convS (.t 17)),
 o 19 (.bin .lss .no (.t 15) (.t 18)),
 m 4 19])
 (.ret)))⟩
def slices_Clone_api_Peer_api_Peer : AFun := ⟨8, [.mv (.t 2)],
 .seq (.region [o 2 (.mv (.c (.sl 464 [] true)))])
 (.seq (.seq (.region [m 3 0,
 u 4 (.isNil false (.t 3))])
 (.cond (.t 4)
 (.seq (.region [o 2 (.mv (.c (.sl 464 [] true)))])
 (.ret))
 (.skip)))
 (.seq (.region [u 5 (.buildSlice false 464 (.st 464 [(.ar 1 32 (zr 32 (.int .u8 0))), (.ar 1 32 (zr 32 (.int .u8 0))), (.bl false), (.st 18 [(.st 17 [(.bl false), (.ar 1 16 (zr 16 (.int .u8 0)))]), (.int .i64 0)]), (.int .i64 0), (.ar 1 12 (zr 12 (.int .u8 0))), (.bl false), (.int .i64 0), (.st 100 [(.bl false), (.int .u32 0), (.ar 1 32 (zr 32 (.int .u8 0))), (.st 64 [(.ar 1 32 (zr 32 (.int .u8 0))), (.ar 1 32 (zr 32 (.int .u8 0)))]), (.int .i64 0), (.int .i64 0)]), (.bl false), (.ar 1 16 (zr 16 (.int .u8 0))), (.int .i64 0), (.ar 1 16 (zr 16 (.int .u8 0))), (.st 231 [(.st 77 [(.bl false), (.st 76 [(.int .u32 0), (.int .u32 0), (.ar 1 32 (zr 32 (.int .u8 0))), (.ar 1 32 (zr 32 (.int .u8 0))), (.int .u64 0), (.int .u64 0), (.st 6 [(.bl false), (.int .u64 0), (.ar 1 4 (zr 4 (.int .u64 0)))]), (.int .i64 0), (.bl false)])]), (.st 77 [(.bl false), (.st 76 [(.int .u32 0), (.int .u32 0), (.ar 1 32 (zr 32 (.int .u8 0))), (.ar 1 32 (zr 32 (.int .u8 0))), (.int .u64 0), (.int .u64 0), (.st 6 [(.bl false), (.int .u64 0), (.ar 1 4 (zr 4 (.int .u64 0)))]), (.int .i64 0), (.bl false)])]), (.st 77 [(.bl false), (.st 76 [(.int .u32 0), (.int .u32 0), (.ar 1 32 (zr 32 (.int .u8 0))), (.ar 1 32 (zr 32 (.int .u8 0))), (.int .u64 0), (.int .u64 0), (.st 6 [(.bl false), (.int .u64 0), (.ar 1 4 (zr 4 (.int .u64 0)))]), (.int .i64 0), (.bl false)])])]), (.sl 1 [] true)]) 0 []),
 m 6 0,
 u 7 (.append 464 808 false (.t 5) (.t 6)),
 m 2 7])
 (.ret)))⟩
def own_Bytesl0 : ACode :=
 .seq (.region [o 11 (.bin .lss .no (.t 10) (.t 9))])
 (.seq (.cond (.t 11)
 (.skip)
 (.exit 0))
 (.seq (.block 1 (.seq (.region [m 12 10,
 u 13 (.indexA (.sl 1) (.t 8) (.t 10)),
 l 14 13,
 m 4 12,
 m 5 14])
 (.region [m 15 3,
 m 16 4,
 m 17 5,
 c 18 I.slices_Clone_byte_byte_1 [(.t 17)],
 u 19 (.indexA (.sl 1) (.t 15) (.t 16)),
 ⟨none, none, false, .store 1 (.t 19) (.t 18)⟩])))
 (.region [o 20 (.bin .add .no (.t 10) (.c (.int .i64 1))),
 m 10 20])))
def own_Bytesc1 : ACode :=
 .seq (.region [m 21 3,
 m 2 21])
 (.ret)
def own_Bytes : AFun := ⟨22, [.mv (.t 2)],
 .seq (.region [o 2 (.mv (.c (.sl 1 [] true)))])
 (.seq (.region [m 6 0,
 c 7 I.slices_Clone_byte_byte [(.t 6)],
 m 3 7])
 (.seq (.seq (.region [m 8 3,
 o 9 (.len (.t 8)),
 o 10 (.mv (.c (.int .i64 0)))])
 (.block 0 (.loop own_Bytesl0)))
 own_Bytesc1))⟩
def slices_Clone_api_Route_api_Route : AFun := ⟨8, [.mv (.t 2)],
 .seq (.region [o 2 (.mv (.c (.sl 50 [] true)))])
 (.seq (.seq (.region [m 3 0,
 u 4 (.isNil false (.t 3))])
 (.cond (.t 4)
 (.seq (.region [o 2 (.mv (.c (.sl 50 [] true)))])
 (.ret))
 (.skip)))
 (.seq (.region [u 5 (.buildSlice false 50 (.st 50 [(.st 18 [(.st 17 [(.bl false), (.ar 1 16 (zr 16 (.int .u8 0)))]), (.int .i64 0)]), (.ar 1 32 (zr 32 (.int .u8 0)))]) 0 []),
 m 6 0,
 u 7 (.append 50 64 false (.t 5) (.t 6)),
 m 2 7])
 (.ret)))⟩
def slices_Clone_api_Slot_api_Slot : AFun := ⟨8, [.mv (.t 2)],
 .seq (.region [o 2 (.mv (.c (.sl 34 [] true)))])
 (.seq (.seq (.region [m 3 0,
 u 4 (.isNil false (.t 3))])
 (.cond (.t 4)
 (.seq (.region [o 2 (.mv (.c (.sl 34 [] true)))])
 (.ret))
 (.skip)))
 (.seq (.region [u 5 (.buildSlice false 34 (.st 34 [(.int .u32 0), (.ar 1 32 (zr 32 (.int .u8 0))), (.bl false)]) 0 []),
 m 6 0,
 u 7 (.append 34 40 false (.t 5) (.t 6)),
 m 2 7])
 (.ret)))⟩
def slices_Clone_api_Timer_api_Timer : AFun := ⟨8, [.mv (.t 2)],
 .seq (.region [o 2 (.mv (.c (.sl 34 [] true)))])
 (.seq (.seq (.region [m 3 0,
 u 4 (.isNil false (.t 3))])
 (.cond (.t 4)
 (.seq (.region [o 2 (.mv (.c (.sl 34 [] true)))])
 (.ret))
 (.skip)))
 (.seq (.region [u 5 (.buildSlice false 34 (.st 34 [(.int .i64 0), (.ar 1 32 (zr 32 (.int .u8 0))), (.int .i64 0)]) 0 []),
 m 6 0,
 u 7 (.append 34 48 false (.t 5) (.t 6)),
 m 2 7])
 (.ret)))⟩
def slices_Clone_int64_int64 : AFun := ⟨8, [.mv (.t 2)],
 .seq (.region [o 2 (.mv (.c (.sl 1 [] true)))])
 (.seq (.seq (.region [m 3 0,
 u 4 (.isNil false (.t 3))])
 (.cond (.t 4)
 (.seq (.region [o 2 (.mv (.c (.sl 1 [] true)))])
 (.ret))
 (.skip)))
 (.seq (.region [u 5 (.buildSlice false 1 (.int .i64 0) 0 []),
 m 6 0,
 u 7 (.append 1 8 false (.t 5) (.t 6)),
 m 2 7])
 (.ret)))⟩
def slices_Clone_api_Bucket_api_Bucket : AFun := ⟨8, [.mv (.t 2)],
 .seq (.region [o 2 (.mv (.c (.sl 19 [] true)))])
 (.seq (.seq (.region [m 3 0,
 u 4 (.isNil false (.t 3))])
 (.cond (.t 4)
 (.seq (.region [o 2 (.mv (.c (.sl 19 [] true)))])
 (.ret))
 (.skip)))
 (.seq (.region [u 5 (.buildSlice false 19 (.st 19 [(.st 17 [(.bl false), (.ar 1 16 (zr 16 (.int .u8 0)))]), (.int .i64 0), (.int .i64 0)]) 0 []),
 m 6 0,
 u 7 (.append 19 40 false (.t 5) (.t 6)),
 m 2 7])
 (.ret)))⟩
def fence_sessions_1l0 : ACode :=
 .seq (.region [o 34 (.bin .lss .no (.t 33) (.t 32))])
 (.seq (.cond (.t 34)
 (.skip)
 (.exit 2))
 (.seq (.block 3 (.seq (.region [u 35 (.indexA (.sl 1) (.t 31) (.t 33)),
 l 36 35,
 m 6 36])
 (.seq (.region [m 37 6,
 o 38 (.nilCheck (.t 37)),
 f 39 0 0 38,
 l 40 39,
 m 41 40,
 g 42 41 true true (.mv (.t 0)),
 g 43 41 true true (.mv (.t 6)),
 g 44 41 true true (.nilCheck (.t 43)),
 h 45 41 1 1 44,
 g 46 41 true false (.call (.t 42) [(.t 45)]),
 g 47 41 true false (.un .not (.t 46)),
 o 48 (.pick (.t 41) (.t 47) (.c (.bl false)))])
 (.cond (.t 48)
 (.ret)
 (.skip)))))
 (.region [o 49 (.bin .add .no (.t 33) (.c (.int .i64 1))),
 m 33 49])))
def fence_sessions_1c1 : ACode :=
 .region [o 50 (.bin .add .no (.t 12) (.c (.int .i64 1))),
 m 12 50]
def fence_sessions_1l2 : ACode :=
 .seq (.region [o 13 (.bin .lss .no (.t 12) (.t 11))])
 (.seq (.cond (.t 13)
 (.skip)
 (.exit 0))
 (.seq (.block 1 (.seq (.region [m 14 12,
 m 3 14])
 (.seq (.region [l 15 1,
 o 16 (.nilCheck (.t 15)),
 f 17 6 108 16,
 l 18 17,
 m 19 3,
 u 20 (.indexA (.sl 464) (.t 18) (.t 19)),
 f 21 13 232 20,
 m 4 21])
 (.seq (.region [m 22 4,
 o 23 (.nilCheck (.t 22)),
 f 24 0 0 23,
 m 25 4,
 o 26 (.nilCheck (.t 25)),
 f 27 1 77 26,
 m 28 4,
 o 29 (.nilCheck (.t 28)),
 f 30 2 154 29,
 u 31 (.buildSlice false 1 .np 3 [(0, (.t 24)), (1, (.t 27)), (2, (.t 30))]),
 o 32 (.len (.t 31)),
 o 33 (.mv (.c (.int .i64 0)))])
 (.block 2 (.loop fence_sessions_1l0))))))
 fence_sessions_1c1))
def fence_sessions_1 : AFun := ⟨51, [],
 .seq (.region [l 7 1,
 o 8 (.nilCheck (.t 7)),
 f 9 6 108 8,
 l 10 9,
 o 11 (.len (.t 10)),
 o 12 (.mv (.c (.int .i64 0)))])
 (.block 0 (.loop fence_sessions_1l2))⟩
def burrowref09_width : AFun := ⟨5, [.mv (.t 2)],
 .seq (.region [u 1 (.box (.t 0)),
 o 2 (.mv (.c (.int .i64 0)))])
 (.seq (.seq (.region [f 3 0 0 1,
 l 4 3])
 (.cond (.t 4)
 (.seq (.region [o 2 (.mv (.c (.int .i64 128)))])
 (.ret))
 (.skip)))
 (.seq (.region [o 2 (.mv (.c (.int .i64 32)))])
 (.ret)))⟩
def burrowref09_bit : AFun := ⟨15, [.mv (.t 4)],
 .seq (.region [u 2 (.box (.t 0)),
 o 4 (.mv (.c (.int .u8 0)))])
 (.seq (.region [m 5 1,
 u 6 (.bin .quo .no (.t 5) (.c (.int .i64 8))),
 f 7 1 1 2,
 u 8 (.indexA (.ar 16 1) (.t 7) (.t 6)),
 l 9 8,
 m 10 1,
 u 11 (.bin .rem .no (.t 10) (.c (.int .i64 8))),
 o 12 (.bin .sub .no (.c (.int .i64 7)) (.t 11)),
 u 13 (.bin .shr .no (.t 9) (.t 12)),
 o 14 (.bin .and .no (.t 13) (.c (.int .u8 1))),
 m 4 14])
 (.ret))⟩
def burrowref22_localsl0 : ACode :=
 .seq (.region [o 9 (.bin .lss .no (.t 8) (.t 7))])
 (.seq (.cond (.t 9)
 (.skip)
 (.exit 0))
 (.seq (.block 1 (.seq (.region [u 10 (.indexA (.sl 77) (.t 6) (.t 8)),
 o 11 (.load true 77 (.t 10)),
 u 5 (.alloc (.st 77 [(.bl false), (.st 76 [(.int .u32 0), (.int .u32 0), (.ar 1 32 (zr 32 (.int .u8 0))), (.ar 1 32 (zr 32 (.int .u8 0))), (.int .u64 0), (.int .u64 0), (.st 6 [(.bl false), (.int .u64 0), (.ar 1 4 (zr 4 (.int .u64 0)))]), (.int .i64 0), (.bl false)])])),
 ⟨none, none, false, .store 77 (.t 5) (.t 11)⟩])
 (.seq (.region [f 12 0 0 5,
 l 13 12])
 (.cond (.t 13)
 (.region [m 14 3,
 f 15 1 1 5,
 f 16 0 0 15,
 l 17 16,
 u 18 (.buildSlice false 1 (.int .u32 0) 1 [(0, (.t 17))]),
 u 19 (.append 1 4 false (.t 14) (.t 18)),
 m 3 19])
 (.skip)))))
 (.region [o 20 (.bin .add .no (.t 8) (.c (.int .i64 1))),
 m 8 20])))
def burrowref22_localsc1 : ACode :=
 .seq (.region [m 21 3,
 m 2 21])
 (.ret)
def burrowref22_locals : AFun := ⟨22, [.mv (.t 2)],
 .seq (.region [o 2 (.mv (.c (.sl 1 [] true)))])
 (.seq (.region [o 3 (.mv (.c (.sl 1 [] true)))])
 (.seq (.seq (.region [m 6 0,
 o 7 (.len (.t 6)),
 o 8 (.mv (.c (.int .i64 0)))])
 (.block 0 (.loop burrowref22_localsl0)))
 burrowref22_localsc1))⟩
def burrowref22_clean : AFun := ⟨8, [.load true 77 (.t 2)],
 .seq (.region [u 1 (.box (.t 0)),
 u 2 (.alloc (.st 77 [(.bl false), (.st 76 [(.int .u32 0), (.int .u32 0), (.ar 1 32 (zr 32 (.int .u8 0))), (.ar 1 32 (zr 32 (.int .u8 0))), (.int .u64 0), (.int .u64 0), (.st 6 [(.bl false), (.int .u64 0), (.ar 1 4 (zr 4 (.int .u64 0)))]), (.int .i64 0), (.bl false)])]))])
 (.seq (.seq (.region [f 3 0 0 1,
 l 4 3,
 o 5 (.un .not (.t 4))])
 (.cond (.t 5)
 (.seq (.region [u 6 (.build (.st 77 [(.bl false), (.st 76 [(.int .u32 0), (.int .u32 0), (.ar 1 32 (zr 32 (.int .u8 0))), (.ar 1 32 (zr 32 (.int .u8 0))), (.int .u64 0), (.int .u64 0), (.st 6 [(.bl false), (.int .u64 0), (.ar 1 4 (zr 4 (.int .u64 0)))]), (.int .i64 0), (.bl false)])]) []),
 ⟨none, none, false, .store 77 (.t 2) (.t 6)⟩])
 (.ret))
 (.skip)))
 (.seq (.region [o 7 (.load true 77 (.t 1)),
 ⟨none, none, false, .store 77 (.t 2) (.t 7)⟩])
 (.ret)))⟩
def burrowref14_DropSlotl0 : ACode :=
 .seq (.region [o 11 (.bin .lss .no (.t 10) (.t 9))])
 (.seq (.cond (.t 11)
 (.skip)
 (.exit 0))
 (.seq (.block 1 (.seq (.region [u 12 (.indexA (.sl 34) (.t 8) (.t 10)),
 o 13 (.load true 34 (.t 12)),
 u 7 (.alloc (.st 34 [(.int .u32 0), (.ar 1 32 (zr 32 (.int .u8 0))), (.bl false)])),
 ⟨none, none, false, .store 34 (.t 7) (.t 13)⟩])
 (.seq (.region [f 14 0 0 7,
 l 15 14,
 m 16 1,
 o 17 (.bin .neq .no (.t 15) (.t 16))])
 (.cond (.t 17)
 (.region [m 18 5,
 o 19 (.load true 34 (.t 7)),
 u 20 (.buildSlice false 34 (.st 34 [(.int .u32 0), (.ar 1 32 (zr 32 (.int .u8 0))), (.bl false)]) 1 [(0, (.t 19))]),
 u 21 (.append 34 40 false (.t 18) (.t 20)),
 m 5 21])
 (.skip)))))
 (.region [o 22 (.bin .add .no (.t 10) (.c (.int .i64 1))),
 m 10 22])))
def burrowref14_DropSlotc1 : ACode :=
 .seq (.region [m 23 5,
 m 4 23])
 (.ret)
def burrowref14_DropSlot : AFun := ⟨24, [.mv (.t 4)],
 .seq (.region [o 4 (.mv (.c (.sl 34 [] true)))])
 (.seq (.region [o 5 (.mv (.c (.sl 34 [] true)))])
 (.seq (.seq (.region [m 8 0,
 o 9 (.len (.t 8)),
 o 10 (.mv (.c (.int .i64 0)))])
 (.block 0 (.loop burrowref14_DropSlotl0)))
 burrowref14_DropSlotc1))⟩
def burrowref14_CheckWindow : AFun := ⟨34, [.mv (.t 4)],
 .seq (.region [u 2 (.box (.t 0)),
 o 4 (.mv (.c (.bl false)))])
 (.seq (.seq (.region [f 5 0 0 2,
 l 6 5,
 o 7 (.un .not (.t 6)),
 m 8 7,
 g 9 8 false true (.mv (.t 1)),
 g 10 8 false true (.fieldA 1 1 (.t 2)),
 k 11 8 false 10,
 g 12 8 false true (.bin .gtr .no (.t 9) (.t 11)),
 o 13 (.pick (.t 8) (.c (.bl true)) (.t 12))])
 (.cond (.t 13)
 (.seq (.region [o 4 (.mv (.c (.bl true)))])
 (.ret))
 (.skip)))
 (.seq (.region [f 14 1 1 2,
 l 15 14,
 u 16 (.bin .quo .no (.t 15) (.c (.int .u64 64))),
 m 17 1,
 u 18 (.bin .quo .no (.t 17) (.c (.int .u64 64))),
 o 19 (.bin .sub .no (.t 16) (.t 18)),
 o 20 (.bin .leq .no (.t 19) (.c (.int .u64 3))),
 m 21 20,
 g 22 21 true true (.mv (.t 1)),
 g 23 21 true false (.bin .quo .no (.t 22) (.c (.int .u64 64))),
 g 24 21 true false (.bin .rem .no (.t 23) (.c (.int .u64 4))),
 h 25 21 2 2 2,
 g 26 21 true false (.indexA (.ar 4 1) (.t 25) (.t 24)),
 g 27 21 true false (.load false 1 (.t 26)),
 g 28 21 true true (.mv (.t 1)),
 g 29 21 true false (.bin .rem .no (.t 28) (.c (.int .u64 64))),
 g 30 21 true false (.bin .shr .no (.t 27) (.t 29)),
 g 31 21 true false (.bin .and .no (.t 30) (.c (.int .u64 1))),
 g 32 21 true false (.bin .eql .no (.t 31) (.c (.int .u64 0))),
 o 33 (.pick (.t 21) (.t 32) (.c (.bl false))),
 m 4 33])
 (.ret)))⟩
def rules_numbers : AFun := ⟨26, [.mv (.t 2)],
 .seq (.region [u 1 (.box (.t 0)),
 o 2 (.mv (.c (.bl false)))])
 (.seq (.region [f 3 0 0 1,
 o 4 (.load true 10 (.t 3)),
 c 5 I.rules_Rules [(.t 4)],
 m 6 5,
 h 7 6 5 107 1,
 k 8 6 true 7,
 g 9 6 true false (.call (.c (.fn (.func I.rules_within) [] [])) [(.t 8), (.c (.int .i64 0)), (.c (.int .i64 1099511627776))]),
 o 10 (.pick (.t 6) (.t 9) (.c (.bl false))),
 m 11 10,
 h 12 11 3 74 1,
 k 13 11 true 12,
 g 14 11 true true (.bin .geq .no (.t 13) (.c (.int .i64 0))),
 o 15 (.pick (.t 11) (.t 14) (.c (.bl false))),
 m 16 15,
 h 17 16 3 74 1,
 k 18 16 true 17,
 g 19 16 true true (.bin .leq .no (.t 18) (.c (.int .i64 65535))),
 o 20 (.pick (.t 16) (.t 19) (.c (.bl false))),
 m 21 20,
 h 22 21 14 147 1,
 k 23 21 true 22,
 g 24 21 true false (.call (.c (.fn (.func I.rules_within) [] [])) [(.t 23), (.c (.int .i64 0)), (.c (.int .i64 1099511627776))]),
 o 25 (.pick (.t 21) (.t 24) (.c (.bl false))),
 m 2 25])
 (.ret))⟩
def rules_peersl0 : ACode :=
 .seq (.seq (.region [m 4 3,
 f 5 6 108 1,
 l 6 5,
 o 7 (.len (.t 6)),
 o 8 (.bin .lss .no (.t 4) (.t 7))])
 (.cond (.t 8)
 (.skip)
 (.exit 0)))
 (.seq (.block 1 (.seq (.region [f 11 6 108 1,
 l 12 11,
 m 13 3,
 o 14 (.bin .sub .no (.t 13) (.c (.int .i64 1))),
 u 15 (.indexA (.sl 464) (.t 12) (.t 14)),
 f 16 0 0 15,
 u 17 (.slice (.ar 32 1) (.t 16) none none none),
 f 18 6 108 1,
 l 19 18,
 m 20 3,
 u 21 (.indexA (.sl 464) (.t 19) (.t 20)),
 f 22 0 0 21,
 u 23 (.slice (.ar 32 1) (.t 22) none none none),
 u 24 (.callq (.c (.fn (.func I.bytes_Compare) [] [])) [(.t 17), (.t 23)]),
 o 25 (.bin .geq .no (.t 24) (.c (.int .i64 0)))])
 (.cond (.t 25)
 (.seq (.region [o 2 (.mv (.c (.bl false)))])
 (.ret))
 (.skip))))
 (.region [m 9 3,
 o 10 (.bin .add .no (.t 9) (.c (.int .i64 1))),
 m 3 10]))
def rules_peersc1 : ACode :=
 .seq (.region [f 26 6 108 1,
 l 27 26,
 o 28 (.len (.t 27)),
 o 29 (.bin .leq .no (.t 28) (.c (.int .i64 8))),
 m 2 29])
 (.ret)
def rules_peers : AFun := ⟨30, [.mv (.t 2)],
 .seq (.region [u 1 (.box (.t 0)),
 o 2 (.mv (.c (.bl false)))])
 (.seq (.seq (.region [o 3 (.mv (.c (.int .i64 1)))])
 (.block 0 (.loop rules_peersl0)))
 rules_peersc1)⟩
def rules_fields : AFun := ⟨6, [.mv (.t 2)],
 .seq (.region [u 1 (.box (.t 0)),
 o 2 (.mv (.c (.bl false)))])
 (.seq (.region [o 3 (.load true 148 (.t 1)),
 u 4 (.mkFunc (.func I.rules_fields_1) [] [(.t 1)]),
 c 5 I.rules_every [(.t 3), (.t 4)],
 m 2 5])
 (.ret))⟩
def rules_hands : AFun := ⟨6, [.mv (.t 2)],
 .seq (.region [u 1 (.box (.t 0)),
 o 2 (.mv (.c (.bl false)))])
 (.seq (.region [o 3 (.load true 148 (.t 1)),
 u 4 (.mkFunc (.func I.rules_hands_1) [] [(.t 1)]),
 c 5 I.rules_every [(.t 3), (.t 4)],
 m 2 5])
 (.ret))⟩
def rules_sessions : AFun := ⟨6, [.mv (.t 2)],
 .seq (.region [u 1 (.box (.t 0)),
 o 2 (.mv (.c (.bl false)))])
 (.seq (.region [o 3 (.load true 148 (.t 1)),
 u 4 (.mkFunc (.func I.rules_sessions_1) [] [(.t 1)]),
 c 5 I.rules_every [(.t 3), (.t 4)],
 m 2 5])
 (.ret))⟩
def rules_routing : AFun := ⟨13, [.mv (.t 2)],
 .seq (.region [u 1 (.box (.t 0)),
 o 2 (.mv (.c (.bl false)))])
 (.seq (.region [f 3 7 109 1,
 l 4 3,
 c 5 I.routes_Valid [(.t 4)],
 m 6 5,
 h 7 6 7 109 1,
 k 8 6 true 7,
 g 9 6 true false (.mkFunc (.func I.rules_routing_1) [] [(.t 1)]),
 g 10 6 true false (.call (.c (.fn (.func I.slices_ContainsFunc_api_Route_api_Route) [] [])) [(.t 8), (.t 9)]),
 g 11 6 true false (.un .not (.t 10)),
 o 12 (.pick (.t 6) (.t 11) (.c (.bl false))),
 m 2 12])
 (.ret))⟩
def rules_slots : AFun := ⟨13, [.mv (.t 2)],
 .seq (.region [u 1 (.box (.t 0)),
 o 2 (.mv (.c (.bl false)))])
 (.seq (.region [f 3 8 110 1,
 l 4 3,
 u 5 (.callq (.c (.fn (.func I.index_Valid) [] [])) [(.t 4)]),
 m 6 5,
 h 7 6 8 110 1,
 k 8 6 true 7,
 g 9 6 true true (.load true 148 (.t 1)),
 g 10 6 true false (.callq (.c (.fn (.func I.rules_Slots) [] [])) [(.t 9)]),
 g 11 6 true false (.callq (.c (.fn (.func I.slices_Equal_api_Slot_api_Slot) [] [])) [(.t 8), (.t 10)]),
 o 12 (.pick (.t 6) (.t 11) (.c (.bl false))),
 m 2 12])
 (.ret))⟩
def rules_timers : AFun := ⟨16, [.mv (.t 2)],
 .seq (.region [u 1 (.box (.t 0)),
 o 2 (.mv (.c (.bl false)))])
 (.seq (.seq (.region [f 3 9 111 1,
 l 4 3,
 c 5 I.wheel_Valid [(.t 4)],
 o 6 (.un .not (.t 5)),
 m 7 6,
 g 8 7 false true (.fieldA 9 111 (.t 1)),
 k 9 7 false 8,
 g 10 7 false false (.mkFunc (.func I.rules_timers_1) [] [(.t 1)]),
 g 11 7 false false (.call (.c (.fn (.func I.slices_ContainsFunc_api_Timer_api_Timer) [] [])) [(.t 9), (.t 10)]),
 o 12 (.pick (.t 7) (.c (.bl true)) (.t 11))])
 (.cond (.t 12)
 (.seq (.region [o 2 (.mv (.c (.bl false)))])
 (.ret))
 (.skip)))
 (.seq (.region [o 13 (.load true 148 (.t 1)),
 u 14 (.mkFunc (.func I.rules_timers_2) [] [(.t 1)]),
 c 15 I.rules_every [(.t 13), (.t 14)],
 m 2 15])
 (.ret)))⟩
def rules_loadl0 : ACode :=
 .seq (.region [o 38 (.bin .lss .no (.t 37) (.t 36))])
 (.seq (.cond (.t 38)
 (.skip)
 (.exit 0))
 (.seq (.block 1 (.seq (.region [m 39 37,
 u 40 (.indexA (.sl 19) (.t 35) (.t 37)),
 o 41 (.load true 19 (.t 40)),
 u 4 (.alloc (.st 19 [(.st 17 [(.bl false), (.ar 1 16 (zr 16 (.int .u8 0)))]), (.int .i64 0), (.int .i64 0)])),
 m 3 39,
 ⟨none, none, false, .store 19 (.t 4) (.t 41)⟩])
 (.seq (.region [f 42 0 0 4,
 f 43 0 0 42,
 l 44 43,
 u 45 (.build (.st 17 [(.bl false), (.ar 1 16 (zr 16 (.int .u8 0)))]) [(0, (.t 44))]),
 u 46 (.build (.st 18 [(.st 17 [(.bl false), (.ar 1 16 (zr 16 (.int .u8 0)))]), (.int .i64 0)]) [(0, (.t 45))]),
 u 5 (.alloc (.st 18 [(.st 17 [(.bl false), (.ar 1 16 (zr 16 (.int .u8 0)))]), (.int .i64 0)])),
 ⟨none, none, false, .store 18 (.t 5) (.t 46)⟩])
 (.seq (.region [o 47 (.load true 18 (.t 5)),
 f 48 0 0 4,
 o 49 (.load true 17 (.t 48)),
 u 50 (.callq (.c (.fn (.func I.inner_Contains) [] [])) [(.t 47), (.t 49)]),
 o 51 (.un .not (.t 50)),
 m 52 51,
 g 53 52 false true (.fieldA 1 17 (.t 4)),
 k 54 52 false 53,
 g 55 52 false false (.callq (.c (.fn (.func I.rules_within) [] [])) [(.t 54), (.c (.int .i64 0)), (.c (.int .i64 5000))]),
 g 56 52 false false (.un .not (.t 55)),
 o 57 (.pick (.t 52) (.c (.bl true)) (.t 56)),
 m 58 57,
 g 59 58 false true (.fieldA 2 18 (.t 4)),
 k 60 58 false 59,
 g 61 58 false true (.fieldA 5 107 (.t 1)),
 k 62 58 false 61,
 g 63 58 false false (.callq (.c (.fn (.func I.rules_within) [] [])) [(.t 60), (.c (.int .i64 0)), (.t 62)]),
 g 64 58 false false (.un .not (.t 63)),
 o 65 (.pick (.t 58) (.c (.bl true)) (.t 64)),
 m 66 65,
 g 67 66 false true (.mv (.t 3)),
 g 68 66 false true (.bin .gtr .no (.t 67) (.c (.int .i64 0))),
 g 69 66 false true (.mv (.t 68)),
 h 70 69 13 146 1,
 k 71 69 true 70,
 g 72 69 true true (.mv (.t 3)),
 g 73 69 true true (.bin .sub .no (.t 72) (.c (.int .i64 1))),
 g 74 69 true false (.indexA (.sl 19) (.t 71) (.t 73)),
 g 75 69 true false (.fieldA 0 0 (.t 74)),
 g 76 69 true false (.load true 17 (.t 75)),
 h 77 69 0 0 4,
 g 78 69 true true (.load true 17 (.t 77)),
 g 79 69 true false (.callq (.c (.fn (.func I.inner_Less) [] [])) [(.t 76), (.t 78)]),
 g 80 69 true false (.un .not (.t 79)),
 g 81 66 false true (.pick (.t 69) (.t 80) (.c (.bl false))),
 o 82 (.pick (.t 66) (.c (.bl true)) (.t 81))])
 (.cond (.t 82)
 (.seq (.region [o 2 (.mv (.c (.bl false)))])
 (.ret))
 (.skip))))))
 (.region [o 83 (.bin .add .no (.t 37) (.c (.int .i64 1))),
 m 37 83])))
def rules_loadc1 : ACode :=
 .seq (.region [o 2 (.mv (.c (.bl true)))])
 (.ret)
def rules_load : AFun := ⟨84, [.mv (.t 2)],
 .seq (.region [u 1 (.box (.t 0)),
 o 2 (.mv (.c (.bl false)))])
 (.seq (.seq (.region [f 6 11 144 1,
 l 7 6,
 f 8 5 107 1,
 l 9 8,
 c 10 I.rules_within [(.t 7), (.c (.int .i64 0)), (.t 9)],
 o 11 (.un .not (.t 10)),
 m 12 11,
 g 13 12 false true (.fieldA 12 145 (.t 1)),
 k 14 12 false 13,
 g 15 12 false true (.len (.t 14)),
 g 16 12 false true (.bin .gtr .no (.t 15) (.c (.int .i64 64))),
 o 17 (.pick (.t 12) (.c (.bl true)) (.t 16)),
 m 18 17,
 g 19 18 false true (.fieldA 13 146 (.t 1)),
 k 20 18 false 19,
 g 21 18 false true (.len (.t 20)),
 g 22 18 false true (.bin .gtr .no (.t 21) (.c (.int .i64 16))),
 o 23 (.pick (.t 18) (.c (.bl true)) (.t 22)),
 m 24 23,
 g 25 24 false true (.fieldA 12 145 (.t 1)),
 k 26 24 false 25,
 g 27 24 false false (.call (.c (.fn (.func I.slices_IsSorted_int64_int64) [] [])) [(.t 26)]),
 g 28 24 false false (.un .not (.t 27)),
 o 29 (.pick (.t 24) (.c (.bl true)) (.t 28))])
 (.cond (.t 29)
 (.seq (.region [o 2 (.mv (.c (.bl false)))])
 (.ret))
 (.skip)))
 (.seq (.seq (.region [f 30 12 145 1,
 l 31 30,
 u 32 (.mkFunc (.func I.rules_load_1) [] [(.t 1)]),
 c 33 I.slices_ContainsFunc_int64_int64 [(.t 31), (.t 32)]])
 (.cond (.t 33)
 (.seq (.region [o 2 (.mv (.c (.bl false)))])
 (.ret))
 (.skip)))
 (.seq (.seq (.region [f 34 13 146 1,
 l 35 34,
 o 36 (.len (.t 35)),
 o 37 (.mv (.c (.int .i64 0)))])
 (.block 0 (.loop rules_loadl0)))
 rules_loadc1)))⟩
def burrowref13_FormatEndpoint : AFun := ⟨31, [.mv (.t 2)],
 .seq (.region [u 1 (.box (.t 0)),
 o 2 (.mv (.c (.str [])))])
 (.seq (.region [f 4 0 0 1,
 o 5 (.load true 17 (.t 4)),
 c 6 I.burrowref13_FormatAddr [(.t 5)],
 m 3 6])
 (.seq (.seq (.region [m 7 3,
 o 8 (.bin .eql .no (.t 7) (.c (.str []))),
 m 9 8,
 g 10 9 false true (.fieldA 1 17 (.t 1)),
 k 11 9 false 10,
 g 12 9 false true (.bin .lss .no (.t 11) (.c (.int .i64 1))),
 o 13 (.pick (.t 9) (.c (.bl true)) (.t 12)),
 m 14 13,
 g 15 14 false true (.fieldA 1 17 (.t 1)),
 k 16 14 false 15,
 g 17 14 false true (.bin .gtr .no (.t 16) (.c (.int .i64 65535))),
 o 18 (.pick (.t 14) (.c (.bl true)) (.t 17))])
 (.cond (.t 18)
 (.seq (.region [o 2 (.mv (.c (.str [])))])
 (.ret))
 (.skip)))
 (.seq (.seq (.region [f 19 0 0 1,
 f 20 0 0 19,
 l 21 20])
 (.cond (.t 21)
 (.region [m 22 3,
 o 23 (.bin .add .no (.c (.str [91])) (.t 22)),
 o 24 (.bin .add .no (.t 23) (.c (.str [93]))),
 m 3 24])
 (.skip)))
 (.seq (.region [m 25 3,
 o 26 (.bin .add .no (.t 25) (.c (.str [58]))),
 f 27 1 17 1,
 l 28 27,
 c 29 I.burrowref13_Decimal [(.t 28)],
 o 30 (.bin .add .no (.t 26) (.t 29)),
 m 2 30])
 (.ret)))))⟩
def burrowref13_Timed : AFun := ⟨13, [.mv (.t 2)],
 .seq (.region [o 2 (.mv (.c (.bl false)))])
 (.seq (.region [m 3 0,
 o 4 (.bin .eql .no (.t 3) (.c (.int .i64 0))),
 m 5 4,
 g 6 5 false true (.mv (.t 0)),
 g 7 5 false true (.bin .geq .no (.t 6) (.c (.int .i64 1000))),
 g 8 5 false true (.mv (.t 7)),
 g 9 8 true true (.mv (.t 0)),
 g 10 8 true true (.bin .leq .no (.t 9) (.c (.int .i64 1073741824))),
 g 11 5 false true (.pick (.t 8) (.t 10) (.c (.bl false))),
 o 12 (.pick (.t 5) (.c (.bl true)) (.t 11)),
 m 2 12])
 (.ret))⟩
def slices_Clone_byte_byte : AFun := ⟨8, [.mv (.t 2)],
 .seq (.region [o 2 (.mv (.c (.sl 1 [] true)))])
 (.seq (.seq (.region [m 3 0,
 u 4 (.isNil false (.t 3))])
 (.cond (.t 4)
 (.seq (.region [o 2 (.mv (.c (.sl 1 [] true)))])
 (.ret))
 (.skip)))
 (.seq (.region [u 5 (.buildSlice false 1 (.sl 1 [] true) 0 []),
 m 6 0,
 u 7 (.append 1 24 false (.t 5) (.t 6)),
 m 2 7])
 (.ret)))⟩
def slices_Clone_byte_byte_1 : AFun := ⟨8, [.mv (.t 2)],
 .seq (.region [o 2 (.mv (.c (.sl 1 [] true)))])
 (.seq (.seq (.region [m 3 0,
 u 4 (.isNil false (.t 3))])
 (.cond (.t 4)
 (.seq (.region [o 2 (.mv (.c (.sl 1 [] true)))])
 (.ret))
 (.skip)))
 (.seq (.region [u 5 (.buildSlice false 1 (.int .u8 0) 0 []),
 m 6 0,
 u 7 (.append 1 1 false (.t 5) (.t 6)),
 m 2 7])
 (.ret)))⟩
def rules_Rules : AFun := ⟨82, [.mv (.t 2)],
 .seq (.region [u 1 (.box (.t 0)),
 o 2 (.mv (.c (.bl false)))])
 (.seq (.block 0 (.seq (.region [f 4 0 0 1,
 l 5 4,
 o 6 (.bin .lss .no (.t 5) (.c (.int .u64 1))),
 m 7 6,
 g 8 7 false true (.fieldA 0 0 (.t 1)),
 k 9 7 false 8,
 g 10 7 false true (.fieldA 1 1 (.t 1)),
 k 11 7 false 10,
 g 12 7 false true (.bin .gtr .no (.t 9) (.t 11)),
 o 13 (.pick (.t 7) (.c (.bl true)) (.t 12)),
 m 14 13,
 g 15 14 false true (.fieldA 1 1 (.t 1)),
 k 16 14 false 15,
 g 17 14 false true (.bin .gtr .no (.t 16) (.c (.int .u64 18446744073709543423))),
 o 18 (.pick (.t 14) (.c (.bl true)) (.t 17)),
 m 3 18])
 (.cond (.t 3)
 (.seq (.region [o 2 (.mv (.c (.bl false)))])
 (.ret))
 (.seq (.region [f 20 5 5 1,
 l 21 20,
 c 22 I.rules_within [(.t 21), (.c (.int .i64 1000)), (.c (.int .i64 1073741824))],
 o 23 (.un .not (.t 22)),
 m 24 23,
 g 25 24 false true (.fieldA 6 6 (.t 1)),
 k 26 24 false 25,
 g 27 24 false false (.call (.c (.fn (.func I.rules_within) [] [])) [(.t 26), (.c (.int .i64 1000)), (.c (.int .i64 1073741824))]),
 g 28 24 false false (.un .not (.t 27)),
 o 29 (.pick (.t 24) (.c (.bl true)) (.t 28)),
 m 19 29])
 (.cond (.t 19)
 (.seq (.region [o 2 (.mv (.c (.bl false)))])
 (.ret))
 (.seq (.region [f 31 7 7 1,
 l 32 31,
 c 33 I.rules_within [(.t 32), (.c (.int .i64 1)), (.c (.int .i64 1073741824))],
 o 34 (.un .not (.t 33)),
 m 35 34,
 g 36 35 false true (.fieldA 2 2 (.t 1)),
 k 37 35 false 36,
 g 38 35 false false (.call (.c (.fn (.func I.rules_within) [] [])) [(.t 37), (.c (.int .i64 1)), (.c (.int .i64 1073741824))]),
 g 39 35 false false (.un .not (.t 38)),
 o 40 (.pick (.t 35) (.c (.bl true)) (.t 39)),
 m 41 40,
 g 42 41 false true (.fieldA 3 3 (.t 1)),
 k 43 41 false 42,
 g 44 41 false false (.call (.c (.fn (.func I.rules_within) [] [])) [(.t 43), (.c (.int .i64 1)), (.c (.int .i64 1073741824))]),
 g 45 41 false false (.un .not (.t 44)),
 o 46 (.pick (.t 41) (.c (.bl true)) (.t 45)),
 m 30 46])
 (.cond (.t 30)
 (.seq (.region [o 2 (.mv (.c (.bl false)))])
 (.ret))
 (.seq (.region [f 48 2 2 1,
 l 49 48,
 f 50 3 3 1,
 l 51 50,
 o 52 (.bin .gtr .no (.t 49) (.t 51)),
 m 53 52,
 g 54 53 false true (.fieldA 6 6 (.t 1)),
 k 55 53 false 54,
 g 56 53 false true (.fieldA 5 5 (.t 1)),
 k 57 53 false 56,
 g 58 53 false true (.bin .add .no (.t 55) (.t 57)),
 g 59 53 false true (.fieldA 3 3 (.t 1)),
 k 60 53 false 59,
 g 61 53 false true (.bin .geq .no (.t 58) (.t 60)),
 o 62 (.pick (.t 53) (.c (.bl true)) (.t 61)),
 m 63 62,
 g 64 63 false true (.fieldA 4 4 (.t 1)),
 k 65 63 false 64,
 g 66 63 false true (.fieldA 5 5 (.t 1)),
 k 67 63 false 66,
 g 68 63 false true (.fieldA 5 5 (.t 1)),
 k 69 63 false 68,
 g 70 63 false true (.bin .mul .no (.c (.int .i64 20)) (.t 69)),
 g 71 63 false false (.call (.c (.fn (.func I.rules_within) [] [])) [(.t 65), (.t 67), (.t 70)]),
 g 72 63 false false (.un .not (.t 71)),
 o 73 (.pick (.t 63) (.c (.bl true)) (.t 72)),
 m 47 73])
 (.cond (.t 47)
 (.seq (.region [o 2 (.mv (.c (.bl false)))])
 (.ret))
 (.skip))))))))))
 (.seq (.region [f 74 8 8 1,
 l 75 74,
 c 76 I.rules_within [(.t 75), (.c (.int .i64 1)), (.c (.int .i64 64))],
 m 77 76,
 h 78 77 9 9 1,
 k 79 77 true 78,
 g 80 77 true false (.call (.c (.fn (.func I.rules_within) [] [])) [(.t 79), (.c (.int .i64 1)), (.c (.int .i64 8))]),
 o 81 (.pick (.t 77) (.t 80) (.c (.bl false))),
 m 2 81])
 (.ret)))⟩
def rules_within : AFun := ⟨15, [.mv (.t 6)],
 .seq (.region [o 6 (.mv (.c (.bl false)))])
 (.seq (.region [m 7 0,
 m 8 1,
 o 9 (.bin .geq .no (.t 7) (.t 8)),
 m 10 9,
 g 11 10 true true (.mv (.t 0)),
 g 12 10 true true (.mv (.t 2)),
 g 13 10 true true (.bin .leq .no (.t 11) (.t 12)),
 o 14 (.pick (.t 10) (.t 13) (.c (.bl false))),
 m 6 14])
 (.ret))⟩
def rules_every : AFun := ⟨10, [.mv (.t 4)],
 .seq (.region [u 2 (.box (.t 0)),
 u 3 (.box (.t 1)),
 o 4 (.mv (.c (.bl false)))])
 (.seq (.region [f 5 6 108 2,
 l 6 5,
 u 7 (.mkFunc (.func I.rules_every_1) [] [(.t 3)]),
 c 8 I.slices_ContainsFunc_api_Peer_api_Peer [(.t 6), (.t 7)],
 o 9 (.un .not (.t 8)),
 m 4 9])
 (.ret))⟩
def rules_fields_1 : AFun := ⟨87, [.mv (.t 3)],
 .seq (.region [u 2 (.box (.t 0)),
 o 3 (.mv (.c (.bl false)))])
 (.seq (.block 0 (.seq (.region [f 5 2 64 2,
 l 6 5,
 m 7 6,
 h 8 7 3 65 2,
 g 9 7 true true (.load true 18 (.t 8)),
 g 10 7 true false (.call (.c (.fn (.func I.config_FormatEndpoint) [] [])) [(.t 9)]),
 g 11 7 true false (.bin .eql .no (.t 10) (.c (.str []))),
 o 12 (.pick (.t 7) (.t 11) (.c (.bl false))),
 m 13 12,
 g 14 13 false true (.fieldA 2 64 (.t 2)),
 k 15 13 false 14,
 g 16 13 false true (.un .not (.t 15)),
 g 17 13 false true (.mv (.t 16)),
 h 18 17 3 65 2,
 g 19 17 true true (.load true 18 (.t 18)),
 g 20 17 true false (.build (.st 18 [(.st 17 [(.bl false), (.ar 1 16 (zr 16 (.int .u8 0)))]), (.int .i64 0)]) []),
 g 21 17 true false (.bin .neq (.sh (.st [(.st [.b, (.ar 16 (.i .u8))]), (.i .i64)])) (.t 19) (.t 20)),
 g 22 13 false true (.pick (.t 17) (.t 21) (.c (.bl false))),
 o 23 (.pick (.t 13) (.c (.bl true)) (.t 22)),
 m 4 23])
 (.cond (.t 4)
 (.seq (.region [o 3 (.mv (.c (.bl false)))])
 (.ret))
 (.seq (.region [f 25 4 83 2,
 l 26 25,
 o 27 (.bin .neq .no (.t 26) (.c (.int .i64 0))),
 m 28 27,
 h 29 28 4 83 2,
 k 30 28 true 29,
 g 31 28 true false (.call (.c (.fn (.func I.rules_within) [] [])) [(.t 30), (.c (.int .i64 1000)), (.c (.int .i64 1073741824))]),
 g 32 28 true false (.un .not (.t 31)),
 o 33 (.pick (.t 28) (.t 32) (.c (.bl false))),
 m 24 33])
 (.cond (.t 24)
 (.seq (.region [o 3 (.mv (.c (.bl false)))])
 (.ret))
 (.seq (.region [f 35 7 97 2,
 l 36 35,
 f 37 5 107 1,
 l 38 37,
 c 39 I.rules_within [(.t 36), (.c (.int .i64 0)), (.t 38)],
 o 40 (.un .not (.t 39)),
 m 41 40,
 g 42 41 false true (.fieldA 6 96 (.t 2)),
 k 43 41 false 42,
 g 44 41 false true (.un .not (.t 43)),
 g 45 41 false true (.mv (.t 44)),
 h 46 45 7 97 2,
 k 47 45 true 46,
 g 48 45 true true (.bin .neq .no (.t 47) (.c (.int .i64 0))),
 g 49 41 false true (.pick (.t 45) (.t 48) (.c (.bl false))),
 o 50 (.pick (.t 41) (.c (.bl true)) (.t 49)),
 m 34 50])
 (.cond (.t 34)
 (.seq (.region [o 3 (.mv (.c (.bl false)))])
 (.ret))
 (.seq (.region [f 52 11 215 2,
 l 53 52,
 f 54 5 107 1,
 l 55 54,
 c 56 I.rules_within [(.t 53), (.c (.int .i64 0)), (.t 55)],
 o 57 (.un .not (.t 56)),
 m 58 57,
 g 59 58 false true (.fieldA 9 198 (.t 2)),
 k 60 58 false 59,
 g 61 58 false true (.un .not (.t 60)),
 g 62 58 false true (.mv (.t 61)),
 h 63 62 11 215 2,
 k 64 62 true 63,
 g 65 62 true true (.bin .neq .no (.t 64) (.c (.int .i64 0))),
 g 66 62 true true (.mv (.t 65)),
 g 67 66 false true (.fieldA 10 199 (.t 2)),
 g 68 66 false true (.load true 16 (.t 67)),
 g 69 66 false false (.build (.ar 1 16 (zr 16 (.int .u8 0))) []),
 g 70 66 false false (.bin .neq (.sh (.ar 16 (.i .u8))) (.t 68) (.t 69)),
 g 71 62 true true (.pick (.t 66) (.c (.bl true)) (.t 70)),
 g 72 58 false true (.pick (.t 62) (.t 71) (.c (.bl false))),
 o 73 (.pick (.t 58) (.c (.bl true)) (.t 72)),
 m 51 73])
 (.cond (.t 51)
 (.seq (.region [o 3 (.mv (.c (.bl false)))])
 (.ret))
 (.skip))))))))))
 (.seq (.region [f 74 14 463 2,
 l 75 74,
 o 76 (.len (.t 75)),
 f 77 0 0 1,
 f 78 9 9 77,
 l 79 78,
 o 80 (.bin .leq .no (.t 76) (.t 79)),
 m 81 80,
 h 82 81 14 463 2,
 k 83 81 true 82,
 g 84 81 true false (.call (.c (.fn (.func I.slices_ContainsFunc_byte_byte) [] [])) [(.t 83), (.c (.fn (.func I.rules_fields_1_1) [] []))]),
 g 85 81 true false (.un .not (.t 84)),
 o 86 (.pick (.t 81) (.t 85) (.c (.bl false))),
 m 3 86])
 (.ret)))⟩
def config_FormatEndpoint : AFun := ⟨31, [.mv (.t 2)],
 .seq (.region [u 1 (.box (.t 0)),
 o 2 (.mv (.c (.str [])))])
 (.seq (.region [f 4 0 0 1,
 o 5 (.load true 17 (.t 4)),
 c 6 I.config_FormatAddr [(.t 5)],
 m 3 6])
 (.seq (.seq (.region [m 7 3,
 o 8 (.bin .eql .no (.t 7) (.c (.str []))),
 m 9 8,
 g 10 9 false true (.fieldA 1 17 (.t 1)),
 k 11 9 false 10,
 g 12 9 false true (.bin .lss .no (.t 11) (.c (.int .i64 1))),
 o 13 (.pick (.t 9) (.c (.bl true)) (.t 12)),
 m 14 13,
 g 15 14 false true (.fieldA 1 17 (.t 1)),
 k 16 14 false 15,
 g 17 14 false true (.bin .gtr .no (.t 16) (.c (.int .i64 65535))),
 o 18 (.pick (.t 14) (.c (.bl true)) (.t 17))])
 (.cond (.t 18)
 (.seq (.region [o 2 (.mv (.c (.str [])))])
 (.ret))
 (.skip)))
 (.seq (.seq (.region [f 19 0 0 1,
 f 20 0 0 19,
 l 21 20])
 (.cond (.t 21)
 (.region [m 22 3,
 o 23 (.bin .add .no (.c (.str [91])) (.t 22)),
 o 24 (.bin .add .no (.t 23) (.c (.str [93]))),
 m 3 24])
 (.skip)))
 (.seq (.region [m 25 3,
 o 26 (.bin .add .no (.t 25) (.c (.str [58]))),
 f 27 1 17 1,
 l 28 27,
 c 29 I.strconv_Itoa [(.t 28)],
 o 30 (.bin .add .no (.t 26) (.t 29)),
 m 2 30])
 (.ret)))))⟩
def slices_ContainsFunc_byte_byte : AFun := ⟨9, [.mv (.t 4)],
 .seq (.region [o 4 (.mv (.c (.bl false)))])
 (.seq (.region [m 5 0,
 m 6 1,
 c 7 I.slices_IndexFunc_byte_byte [(.t 5), (.t 6)],
 o 8 (.bin .geq .no (.t 7) (.c (.int .i64 0))),
 m 4 8])
 (.ret))⟩
def rules_hands_1 : AFun := ⟨31, [.mv (.t 3)],
 .seq (.region [u 2 (.box (.t 0)),
 o 3 (.mv (.c (.bl false)))])
 (.seq (.seq (.region [f 4 8 98 2,
 f 5 0 0 4,
 l 6 5,
 o 7 (.un .not (.t 6))])
 (.cond (.t 7)
 (.seq (.region [f 8 8 98 2,
 o 9 (.load true 100 (.t 8)),
 u 10 (.build (.st 100 [(.bl false), (.int .u32 0), (.ar 1 32 (zr 32 (.int .u8 0))), (.st 64 [(.ar 1 32 (zr 32 (.int .u8 0))), (.ar 1 32 (zr 32 (.int .u8 0)))]), (.int .i64 0), (.int .i64 0)]) []),
 o 11 (.bin .eql (.sh (.st [.b, (.i .u32), (.ar 32 (.i .u8)), (.st [(.ar 32 (.i .u8)), (.ar 32 (.i .u8))]), (.i .i64), (.i .i64)])) (.t 9) (.t 10)),
 m 3 11])
 (.ret))
 (.skip)))
 (.seq (.region [f 12 2 64 2,
 l 13 12,
 m 14 13,
 h 15 14 8 98 2,
 h 16 14 4 98 15,
 k 17 14 true 16,
 h 18 14 8 98 2,
 h 19 14 5 99 18,
 k 20 14 true 19,
 g 21 14 true false (.call (.c (.fn (.func I.rules_within) [] [])) [(.t 17), (.c (.int .i64 0)), (.t 20)]),
 o 22 (.pick (.t 14) (.t 21) (.c (.bl false))),
 m 23 22,
 h 24 23 8 98 2,
 h 25 23 5 99 24,
 k 26 23 true 25,
 h 27 23 5 107 1,
 k 28 23 true 27,
 g 29 23 true true (.bin .leq .no (.t 26) (.t 28)),
 o 30 (.pick (.t 23) (.t 29) (.c (.bl false))),
 m 3 30])
 (.ret)))⟩
def rules_sessions_1l0 : ACode :=
 .seq (.seq (.region [m 6 4,
 o 7 (.bin .leq .no (.t 6) (.c (.int .i64 3)))])
 (.cond (.t 7)
 (.skip)
 (.exit 0)))
 (.seq (.block 1 (.seq (.region [f 10 13 232 2,
 o 11 (.load true 231 (.t 10)),
 m 12 4,
 c 13 I.ring_Get [(.t 11), (.t 12)],
 u 5 (.alloc (.st 77 [(.bl false), (.st 76 [(.int .u32 0), (.int .u32 0), (.ar 1 32 (zr 32 (.int .u8 0))), (.ar 1 32 (zr 32 (.int .u8 0))), (.int .u64 0), (.int .u64 0), (.st 6 [(.bl false), (.int .u64 0), (.ar 1 4 (zr 4 (.int .u64 0)))]), (.int .i64 0), (.bl false)])])),
 ⟨none, none, false, .store 77 (.t 5) (.t 13)⟩])
 (.seq (.region [f 14 0 0 5,
 l 15 14,
 m 16 15,
 g 17 16 true true (.load true 148 (.t 1)),
 h 18 16 1 1 5,
 g 19 16 true true (.load true 76 (.t 18)),
 g 20 16 true false (.call (.c (.fn (.func I.rules_Session) [] [])) [(.t 17), (.t 19)]),
 g 21 16 true false (.un .not (.t 20)),
 o 22 (.pick (.t 16) (.t 21) (.c (.bl false))),
 m 23 22,
 g 24 23 false true (.fieldA 0 0 (.t 5)),
 k 25 23 false 24,
 g 26 23 false true (.un .not (.t 25)),
 g 27 23 false true (.mv (.t 26)),
 g 28 27 true true (.load true 77 (.t 5)),
 g 29 27 true false (.build (.st 77 [(.bl false), (.st 76 [(.int .u32 0), (.int .u32 0), (.ar 1 32 (zr 32 (.int .u8 0))), (.ar 1 32 (zr 32 (.int .u8 0))), (.int .u64 0), (.int .u64 0), (.st 6 [(.bl false), (.int .u64 0), (.ar 1 4 (zr 4 (.int .u64 0)))]), (.int .i64 0), (.bl false)])]) []),
 g 30 27 true false (.bin .neq (.sh (.st [.b, (.st [(.i .u32), (.i .u32), (.ar 32 (.i .u8)), (.ar 32 (.i .u8)), (.i .u64), (.i .u64), (.st [.b, (.i .u64), (.ar 4 (.i .u64))]), (.i .i64), .b])])) (.t 28) (.t 29)),
 g 31 23 false true (.pick (.t 27) (.t 30) (.c (.bl false))),
 o 32 (.pick (.t 23) (.c (.bl true)) (.t 31))])
 (.cond (.t 32)
 (.seq (.region [o 3 (.mv (.c (.bl false)))])
 (.ret))
 (.skip)))))
 (.region [m 8 4,
 o 9 (.bin .add .no (.t 8) (.c (.int .i64 1))),
 m 4 9]))
def rules_sessions_1c1 : ACode :=
 .seq (.region [o 3 (.mv (.c (.bl true)))])
 (.ret)
def rules_sessions_1 : AFun := ⟨33, [.mv (.t 3)],
 .seq (.region [u 2 (.box (.t 0)),
 o 3 (.mv (.c (.bl false)))])
 (.seq (.seq (.region [o 4 (.mv (.c (.int .i64 1)))])
 (.block 0 (.loop rules_sessions_1l0)))
 rules_sessions_1c1)⟩
def ring_Get : AFun := ⟨26, [.load true 77 (.t 4)],
 .seq (.region [u 2 (.box (.t 0)),
 u 4 (.alloc (.st 77 [(.bl false), (.st 76 [(.int .u32 0), (.int .u32 0), (.ar 1 32 (zr 32 (.int .u8 0))), (.ar 1 32 (zr 32 (.int .u8 0))), (.int .u64 0), (.int .u64 0), (.st 6 [(.bl false), (.int .u64 0), (.ar 1 4 (zr 4 (.int .u64 0)))]), (.int .i64 0), (.bl false)])]))])
 (.seq (.region [o 7 (.load true 231 (.t 2)),
 u 8 (.build (.st 231 [(.st 231 [(.st 77 [(.bl false), (.st 76 [(.int .u32 0), (.int .u32 0), (.ar 1 32 (zr 32 (.int .u8 0))), (.ar 1 32 (zr 32 (.int .u8 0))), (.int .u64 0), (.int .u64 0), (.st 6 [(.bl false), (.int .u64 0), (.ar 1 4 (zr 4 (.int .u64 0)))]), (.int .i64 0), (.bl false)])]), (.st 77 [(.bl false), (.st 76 [(.int .u32 0), (.int .u32 0), (.ar 1 32 (zr 32 (.int .u8 0))), (.ar 1 32 (zr 32 (.int .u8 0))), (.int .u64 0), (.int .u64 0), (.st 6 [(.bl false), (.int .u64 0), (.ar 1 4 (zr 4 (.int .u64 0)))]), (.int .i64 0), (.bl false)])]), (.st 77 [(.bl false), (.st 76 [(.int .u32 0), (.int .u32 0), (.ar 1 32 (zr 32 (.int .u8 0))), (.ar 1 32 (zr 32 (.int .u8 0))), (.int .u64 0), (.int .u64 0), (.st 6 [(.bl false), (.int .u64 0), (.ar 1 4 (zr 4 (.int .u64 0)))]), (.int .i64 0), (.bl false)])])])]) [(0, (.t 7))]),
 u 9 (.box (.t 8)),
 m 5 9])
 (.seq (.region [m 10 5,
 c 11 I.ring_ring_places [(.t 10)],
 u 6 (.alloc (.ar 1 3 (zr 3 .nf))),
 ⟨none, none, false, .store 3 (.t 6) (.t 11)⟩])
 (.seq (.seq (.region [m 12 1,
 o 13 (.bin .lss .no (.t 12) (.c (.int .i64 1))),
 m 14 13,
 g 15 14 false true (.mv (.t 1)),
 g 16 14 false true (.bin .gtr .no (.t 15) (.c (.int .i64 3))),
 o 17 (.pick (.t 14) (.c (.bl true)) (.t 16))])
 (.cond (.t 17)
 (.seq (.region [u 18 (.build (.st 77 [(.bl false), (.st 76 [(.int .u32 0), (.int .u32 0), (.ar 1 32 (zr 32 (.int .u8 0))), (.ar 1 32 (zr 32 (.int .u8 0))), (.int .u64 0), (.int .u64 0), (.st 6 [(.bl false), (.int .u64 0), (.ar 1 4 (zr 4 (.int .u64 0)))]), (.int .i64 0), (.bl false)])]) []),
 ⟨none, none, false, .store 77 (.t 4) (.t 18)⟩])
 (.ret))
 (.skip)))
 (.seq (.region [m 19 1,
 o 20 (.bin .sub .no (.t 19) (.c (.int .i64 1))),
 u 21 (.indexA (.ar 3 1) (.t 6) (.t 20)),
 l 22 21,
 u 23 (.call (.t 22) []),
 o 24 (.nilCheck (.t 23)),
 o 25 (.load true 77 (.t 24)),
 ⟨none, none, false, .store 77 (.t 4) (.t 25)⟩])
 (.ret)))))⟩
def rules_Session : AFun := ⟨34, [.mv (.t 4)],
 .seq (.region [u 2 (.box (.t 0)),
 u 3 (.box (.t 1)),
 o 4 (.mv (.c (.bl false)))])
 (.seq (.region [f 5 7 74 3,
 l 6 5,
 f 7 5 107 2,
 l 8 7,
 c 9 I.rules_within [(.t 6), (.c (.int .i64 0)), (.t 8)],
 m 10 9,
 h 11 10 5 67 3,
 k 12 10 true 11,
 h 13 10 0 0 2,
 h 14 10 1 1 13,
 k 15 10 true 14,
 g 16 10 true true (.bin .eql .no (.t 12) (.t 15)),
 o 17 (.pick (.t 10) (.t 16) (.c (.bl false))),
 m 18 17,
 h 19 18 4 66 3,
 k 20 18 true 19,
 g 21 18 true true (.bin .leq .no (.t 20) (.c (.int .u64 18446744073709543423))),
 o 22 (.pick (.t 18) (.t 21) (.c (.bl false))),
 m 23 22,
 h 24 23 6 68 3,
 h 25 23 0 0 24,
 k 26 23 true 25,
 g 27 23 true true (.mv (.t 26)),
 g 28 27 false true (.fieldA 6 68 (.t 3)),
 g 29 27 false true (.load true 6 (.t 28)),
 g 30 27 false false (.build (.st 6 [(.bl false), (.int .u64 0), (.ar 1 4 (zr 4 (.int .u64 0)))]) []),
 g 31 27 false false (.bin .eql (.sh (.st [.b, (.i .u64), (.ar 4 (.i .u64))])) (.t 29) (.t 30)),
 g 32 23 true true (.pick (.t 27) (.c (.bl true)) (.t 31)),
 o 33 (.pick (.t 23) (.t 32) (.c (.bl false))),
 m 4 33])
 (.ret))⟩
def routes_Validl0 : ACode :=
 .seq (.region [o 8 (.bin .lss .no (.t 7) (.t 6))])
 (.seq (.cond (.t 8)
 (.skip)
 (.exit 0))
 (.seq (.block 1 (.seq (.region [m 9 7,
 u 10 (.indexA (.sl 50) (.t 5) (.t 7)),
 o 11 (.load true 50 (.t 10)),
 u 4 (.alloc (.st 50 [(.st 18 [(.st 17 [(.bl false), (.ar 1 16 (zr 16 (.int .u8 0)))]), (.int .i64 0)]), (.ar 1 32 (zr 32 (.int .u8 0)))])),
 m 3 9,
 ⟨none, none, false, .store 50 (.t 4) (.t 11)⟩])
 (.seq (.region [f 12 0 0 4,
 o 13 (.load true 18 (.t 12)),
 u 14 (.callq (.c (.fn (.func I.inner_Valid) [] [])) [(.t 13)]),
 o 15 (.un .not (.t 14)),
 m 16 15,
 g 17 16 false true (.mv (.t 3)),
 g 18 16 false true (.bin .gtr .no (.t 17) (.c (.int .i64 0))),
 g 19 16 false true (.mv (.t 18)),
 g 20 19 true true (.mv (.t 0)),
 g 21 19 true true (.mv (.t 3)),
 g 22 19 true true (.bin .sub .no (.t 21) (.c (.int .i64 1))),
 g 23 19 true false (.indexA (.sl 50) (.t 20) (.t 22)),
 g 24 19 true false (.fieldA 0 0 (.t 23)),
 g 25 19 true false (.load true 18 (.t 24)),
 h 26 19 0 0 4,
 g 27 19 true true (.load true 18 (.t 26)),
 g 28 19 true false (.callq (.c (.fn (.func I.routes_less) [] [])) [(.t 25), (.t 27)]),
 g 29 19 true false (.un .not (.t 28)),
 g 30 16 false true (.pick (.t 19) (.t 29) (.c (.bl false))),
 o 31 (.pick (.t 16) (.c (.bl true)) (.t 30))])
 (.cond (.t 31)
 (.seq (.region [o 2 (.mv (.c (.bl false)))])
 (.ret))
 (.skip)))))
 (.region [o 32 (.bin .add .no (.t 7) (.c (.int .i64 1))),
 m 7 32])))
def routes_Validc1 : ACode :=
 .seq (.region [m 33 0,
 o 34 (.len (.t 33)),
 o 35 (.bin .leq .no (.t 34) (.c (.int .i64 16))),
 m 2 35])
 (.ret)
def routes_Valid : AFun := ⟨36, [.mv (.t 2)],
 .seq (.region [o 2 (.mv (.c (.bl false)))])
 (.seq (.seq (.region [m 5 0,
 o 6 (.len (.t 5)),
 o 7 (.mv (.c (.int .i64 0)))])
 (.block 0 (.loop routes_Validl0)))
 routes_Validc1)⟩
def slices_ContainsFunc_api_Route_api_Route : AFun := ⟨9, [.mv (.t 4)],
 .seq (.region [o 4 (.mv (.c (.bl false)))])
 (.seq (.region [m 5 0,
 m 6 1,
 c 7 I.slices_IndexFunc_api_Route_api_Route [(.t 5), (.t 6)],
 o 8 (.bin .geq .no (.t 7) (.c (.int .i64 0))),
 m 4 8])
 (.ret))⟩
def rules_routing_1 : AFun := ⟨9, [.mv (.t 3)],
 .seq (.region [u 2 (.box (.t 0)),
 o 3 (.mv (.c (.bl false)))])
 (.seq (.region [o 4 (.load true 148 (.t 1)),
 f 5 1 18 2,
 o 6 (.load true 32 (.t 5)),
 c 7 I.rules_known [(.t 4), (.t 6)],
 o 8 (.un .not (.t 7)),
 m 3 8])
 (.ret))⟩
def rules_known : AFun := ⟨9, [.mv (.t 4)],
 .seq (.region [u 2 (.box (.t 0)),
 u 3 (.box (.t 1)),
 o 4 (.mv (.c (.bl false)))])
 (.seq (.region [f 5 6 108 2,
 l 6 5,
 u 7 (.mkFunc (.func I.rules_known_1) [] [(.t 3)]),
 c 8 I.slices_ContainsFunc_api_Peer_api_Peer [(.t 6), (.t 7)],
 m 4 8])
 (.ret))⟩
def index_Validl0 : ACode :=
 .seq (.region [o 8 (.bin .lss .no (.t 7) (.t 6))])
 (.seq (.cond (.t 8)
 (.skip)
 (.exit 0))
 (.seq (.block 1 (.seq (.region [m 9 7,
 u 10 (.indexA (.sl 34) (.t 5) (.t 7)),
 o 11 (.load true 34 (.t 10)),
 u 4 (.alloc (.st 34 [(.int .u32 0), (.ar 1 32 (zr 32 (.int .u8 0))), (.bl false)])),
 m 3 9,
 ⟨none, none, false, .store 34 (.t 4) (.t 11)⟩])
 (.seq (.region [f 12 0 0 4,
 l 13 12,
 o 14 (.bin .eql .no (.t 13) (.c (.int .u32 0))),
 m 15 14,
 g 16 15 false true (.mv (.t 3)),
 g 17 15 false true (.bin .gtr .no (.t 16) (.c (.int .i64 0))),
 g 18 15 false true (.mv (.t 17)),
 h 19 18 0 0 4,
 k 20 18 true 19,
 g 21 18 true true (.mv (.t 0)),
 g 22 18 true true (.mv (.t 3)),
 g 23 18 true true (.bin .sub .no (.t 22) (.c (.int .i64 1))),
 g 24 18 true false (.indexA (.sl 34) (.t 21) (.t 23)),
 g 25 18 true false (.fieldA 0 0 (.t 24)),
 g 26 18 true false (.load false 1 (.t 25)),
 g 27 18 true false (.bin .leq .no (.t 20) (.t 26)),
 g 28 15 false true (.pick (.t 18) (.t 27) (.c (.bl false))),
 o 29 (.pick (.t 15) (.c (.bl true)) (.t 28))])
 (.cond (.t 29)
 (.seq (.region [o 2 (.mv (.c (.bl false)))])
 (.ret))
 (.skip)))))
 (.region [o 30 (.bin .add .no (.t 7) (.c (.int .i64 1))),
 m 7 30])))
def index_Validc1 : ACode :=
 .seq (.region [m 31 0,
 o 32 (.len (.t 31)),
 o 33 (.bin .leq .no (.t 32) (.c (.int .i64 32))),
 m 2 33])
 (.ret)
def index_Valid : AFun := ⟨34, [.mv (.t 2)],
 .seq (.region [o 2 (.mv (.c (.bl false)))])
 (.seq (.seq (.region [m 5 0,
 o 6 (.len (.t 5)),
 o 7 (.mv (.c (.int .i64 0)))])
 (.block 0 (.loop index_Validl0)))
 index_Validc1)⟩
def slices_Equal_api_Slot_api_Slotl0 : ACode :=
 .seq (.region [o 14 (.bin .lss .no (.t 13) (.t 12))])
 (.seq (.cond (.t 14)
 (.skip)
 (.exit 0))
 (.seq (.block 1 (.seq (.region [m 15 13,
 m 5 15])
 (.seq (.region [m 16 0,
 m 17 5,
 u 18 (.indexA (.sl 34) (.t 16) (.t 17)),
 o 19 (.load true 34 (.t 18)),
 m 20 1,
 m 21 5,
 u 22 (.indexA (.sl 34) (.t 20) (.t 21)),
 o 23 (.load true 34 (.t 22)),
 o 24 (.bin .neq (.sh (.st [(.i .u32), (.ar 32 (.i .u8)), .b])) (.t 19) (.t 23))])
 (.cond (.t 24)
 (.seq (.region [o 4 (.mv (.c (.bl false)))])
 (.ret))
 (.skip)))))
 (.region [o 25 (.bin .add .no (.t 13) (.c (.int .i64 1))),
 m 13 25])))
def slices_Equal_api_Slot_api_Slotc1 : ACode :=
 .seq (.region [o 4 (.mv (.c (.bl true)))])
 (.ret)
def slices_Equal_api_Slot_api_Slot : AFun := ⟨26, [.mv (.t 4)],
 .seq (.region [o 4 (.mv (.c (.bl false)))])
 (.seq (.seq (.region [m 6 0,
 o 7 (.len (.t 6)),
 m 8 1,
 o 9 (.len (.t 8)),
 o 10 (.bin .neq .no (.t 7) (.t 9))])
 (.cond (.t 10)
 (.seq (.region [o 4 (.mv (.c (.bl false)))])
 (.ret))
 (.skip)))
 (.seq (.seq (.region [m 11 0,
 o 12 (.len (.t 11)),
 o 13 (.mv (.c (.int .i64 0)))])
 (.block 0 (.loop slices_Equal_api_Slot_api_Slotl0)))
 slices_Equal_api_Slot_api_Slotc1))⟩
def rules_Slotsl0 : ACode :=
 .seq (.region [o 32 (.bin .lss .no (.t 31) (.t 30))])
 (.seq (.cond (.t 32)
 (.skip)
 (.exit 2))
 (.seq (.block 3 (.seq (.region [u 33 (.indexA (.sl 1) (.t 29) (.t 31)),
 l 34 33,
 m 7 34])
 (.region [m 35 3,
 m 36 7,
 f 37 0 0 5,
 o 38 (.load true 32 (.t 37)),
 u 39 (.build (.st 34 [(.int .u32 0), (.ar 1 32 (zr 32 (.int .u8 0))), (.bl false)]) [(0, (.t 36)), (1, (.t 38)), (2, (.c (.bl true)))]),
 u 40 (.buildSlice false 34 (.st 34 [(.int .u32 0), (.ar 1 32 (zr 32 (.int .u8 0))), (.bl false)]) 1 [(0, (.t 39))]),
 u 41 (.append 34 40 false (.t 35) (.t 40)),
 m 3 41])))
 (.region [o 42 (.bin .add .no (.t 31) (.c (.int .i64 1))),
 m 31 42])))
def rules_Slotsc1 : ACode :=
 .region [o 43 (.bin .add .no (.t 11) (.c (.int .i64 1))),
 m 11 43]
def rules_Slotsl2 : ACode :=
 .seq (.region [o 12 (.bin .lss .no (.t 11) (.t 10))])
 (.seq (.cond (.t 12)
 (.skip)
 (.exit 0))
 (.seq (.block 1 (.seq (.region [u 13 (.indexA (.sl 464) (.t 9) (.t 11)),
 o 14 (.load true 464 (.t 13)),
 u 5 (.alloc (.st 464 [(.ar 1 32 (zr 32 (.int .u8 0))), (.ar 1 32 (zr 32 (.int .u8 0))), (.bl false), (.st 18 [(.st 17 [(.bl false), (.ar 1 16 (zr 16 (.int .u8 0)))]), (.int .i64 0)]), (.int .i64 0), (.ar 1 12 (zr 12 (.int .u8 0))), (.bl false), (.int .i64 0), (.st 100 [(.bl false), (.int .u32 0), (.ar 1 32 (zr 32 (.int .u8 0))), (.st 64 [(.ar 1 32 (zr 32 (.int .u8 0))), (.ar 1 32 (zr 32 (.int .u8 0)))]), (.int .i64 0), (.int .i64 0)]), (.bl false), (.ar 1 16 (zr 16 (.int .u8 0))), (.int .i64 0), (.ar 1 16 (zr 16 (.int .u8 0))), (.st 231 [(.st 77 [(.bl false), (.st 76 [(.int .u32 0), (.int .u32 0), (.ar 1 32 (zr 32 (.int .u8 0))), (.ar 1 32 (zr 32 (.int .u8 0))), (.int .u64 0), (.int .u64 0), (.st 6 [(.bl false), (.int .u64 0), (.ar 1 4 (zr 4 (.int .u64 0)))]), (.int .i64 0), (.bl false)])]), (.st 77 [(.bl false), (.st 76 [(.int .u32 0), (.int .u32 0), (.ar 1 32 (zr 32 (.int .u8 0))), (.ar 1 32 (zr 32 (.int .u8 0))), (.int .u64 0), (.int .u64 0), (.st 6 [(.bl false), (.int .u64 0), (.ar 1 4 (zr 4 (.int .u64 0)))]), (.int .i64 0), (.bl false)])]), (.st 77 [(.bl false), (.st 76 [(.int .u32 0), (.int .u32 0), (.ar 1 32 (zr 32 (.int .u8 0))), (.ar 1 32 (zr 32 (.int .u8 0))), (.int .u64 0), (.int .u64 0), (.st 6 [(.bl false), (.int .u64 0), (.ar 1 4 (zr 4 (.int .u64 0)))]), (.int .i64 0), (.bl false)])])]), (.sl 1 [] true)])),
 ⟨none, none, false, .store 464 (.t 5) (.t 14)⟩])
 (.seq (.seq (.region [f 15 8 98 5,
 f 16 0 0 15,
 l 17 16])
 (.cond (.t 17)
 (.region [m 18 3,
 f 19 8 98 5,
 f 20 1 1 19,
 l 21 20,
 f 22 0 0 5,
 o 23 (.load true 32 (.t 22)),
 u 24 (.build (.st 34 [(.int .u32 0), (.ar 1 32 (zr 32 (.int .u8 0))), (.bl false)]) [(0, (.t 21)), (1, (.t 23))]),
 u 25 (.buildSlice false 34 (.st 34 [(.int .u32 0), (.ar 1 32 (zr 32 (.int .u8 0))), (.bl false)]) 1 [(0, (.t 24))]),
 u 26 (.append 34 40 false (.t 18) (.t 25)),
 m 3 26])
 (.skip)))
 (.seq (.region [f 27 13 232 5,
 o 28 (.load true 231 (.t 27)),
 c 29 I.ring_Locals [(.t 28)],
 o 30 (.len (.t 29)),
 o 31 (.mv (.c (.int .i64 0)))])
 (.block 2 (.loop rules_Slotsl0))))))
 rules_Slotsc1))
def rules_Slotsc3 : ACode :=
 .seq (.region [m 44 3,
 u 45 (.call (.c (.fn (.func I.slices_SortStableFunc_api_Slot_api_Slot) [] [])) [(.t 44), (.c (.fn (.func I.rules_Slots_1) [] []))])])
 (.seq (.region [m 46 3,
 m 2 46])
 (.ret))
def rules_Slots : AFun := ⟨47, [.mv (.t 2)],
 .seq (.region [u 1 (.box (.t 0)),
 o 2 (.mv (.c (.sl 34 [] true)))])
 (.seq (.region [o 3 (.mv (.c (.sl 34 [] true)))])
 (.seq (.seq (.region [f 8 6 108 1,
 l 9 8,
 o 10 (.len (.t 9)),
 o 11 (.mv (.c (.int .i64 0)))])
 (.block 0 (.loop rules_Slotsl2)))
 rules_Slotsc3))⟩
def wheel_Validl0 : ACode :=
 .seq (.region [o 8 (.bin .lss .no (.t 7) (.t 6))])
 (.seq (.cond (.t 8)
 (.skip)
 (.exit 0))
 (.seq (.block 1 (.seq (.region [m 9 7,
 u 10 (.indexA (.sl 34) (.t 5) (.t 7)),
 o 11 (.load true 34 (.t 10)),
 u 4 (.alloc (.st 34 [(.int .i64 0), (.ar 1 32 (zr 32 (.int .u8 0))), (.int .i64 0)])),
 m 3 9,
 ⟨none, none, false, .store 34 (.t 4) (.t 11)⟩])
 (.seq (.region [f 12 2 33 4,
 l 13 12,
 o 14 (.bin .lss .no (.t 13) (.c (.int .i64 1))),
 m 15 14,
 g 16 15 false true (.fieldA 2 33 (.t 4)),
 k 17 15 false 16,
 g 18 15 false true (.bin .gtr .no (.t 17) (.c (.int .i64 5))),
 o 19 (.pick (.t 15) (.c (.bl true)) (.t 18)),
 m 20 19,
 g 21 20 false true (.fieldA 0 0 (.t 4)),
 k 22 20 false 21,
 g 23 20 false true (.bin .lss .no (.t 22) (.c (.int .i64 0))),
 o 24 (.pick (.t 20) (.c (.bl true)) (.t 23)),
 m 25 24,
 g 26 25 false true (.fieldA 0 0 (.t 4)),
 k 27 25 false 26,
 g 28 25 false true (.bin .gtr .no (.t 27) (.c (.int .i64 4398046511104))),
 o 29 (.pick (.t 25) (.c (.bl true)) (.t 28)),
 m 30 29,
 g 31 30 false true (.mv (.t 3)),
 g 32 30 false true (.bin .gtr .no (.t 31) (.c (.int .i64 0))),
 g 33 30 false true (.mv (.t 32)),
 g 34 33 true true (.mv (.t 0)),
 g 35 33 true true (.mv (.t 3)),
 g 36 33 true true (.bin .sub .no (.t 35) (.c (.int .i64 1))),
 g 37 33 true false (.indexA (.sl 34) (.t 34) (.t 36)),
 g 38 33 true false (.load true 34 (.t 37)),
 g 39 33 true true (.load true 34 (.t 4)),
 g 40 33 true false (.callq (.c (.fn (.func I.wheel_Less) [] [])) [(.t 38), (.t 39)]),
 g 41 33 true false (.un .not (.t 40)),
 g 42 30 false true (.pick (.t 33) (.t 41) (.c (.bl false))),
 o 43 (.pick (.t 30) (.c (.bl true)) (.t 42)),
 m 44 43,
 g 45 44 false true (.mv (.t 0)),
 g 46 44 false true (.mv (.t 3)),
 g 47 44 false false (.slice (.sl 34) (.t 45) none (some (.t 46)) none),
 g 48 44 false true (.fieldA 1 1 (.t 4)),
 g 49 44 false true (.load true 32 (.t 48)),
 g 50 44 false true (.fieldA 2 33 (.t 4)),
 k 51 44 false 50,
 g 52 44 false false (.callq (.c (.fn (.func I.wheel_Has) [] [])) [(.t 47), (.t 49), (.t 51)]),
 o 53 (.pick (.t 44) (.c (.bl true)) (.t 52))])
 (.cond (.t 53)
 (.seq (.region [o 2 (.mv (.c (.bl false)))])
 (.ret))
 (.skip)))))
 (.region [o 54 (.bin .add .no (.t 7) (.c (.int .i64 1))),
 m 7 54])))
def wheel_Validc1 : ACode :=
 .seq (.region [o 2 (.mv (.c (.bl true)))])
 (.ret)
def wheel_Valid : AFun := ⟨55, [.mv (.t 2)],
 .seq (.region [o 2 (.mv (.c (.bl false)))])
 (.seq (.seq (.region [m 5 0,
 o 6 (.len (.t 5)),
 o 7 (.mv (.c (.int .i64 0)))])
 (.block 0 (.loop wheel_Validl0)))
 wheel_Validc1)⟩
def slices_ContainsFunc_api_Timer_api_Timer : AFun := ⟨9, [.mv (.t 4)],
 .seq (.region [o 4 (.mv (.c (.bl false)))])
 (.seq (.region [m 5 0,
 m 6 1,
 c 7 I.slices_IndexFunc_api_Timer_api_Timer [(.t 5), (.t 6)],
 o 8 (.bin .geq .no (.t 7) (.c (.int .i64 0))),
 m 4 8])
 (.ret))⟩
def rules_timers_1 : AFun := ⟨16, [.mv (.t 3)],
 .seq (.region [u 2 (.box (.t 0)),
 o 3 (.mv (.c (.bl false)))])
 (.seq (.region [f 4 0 0 2,
 l 5 4,
 f 6 5 107 1,
 l 7 6,
 o 8 (.bin .leq .no (.t 5) (.t 7)),
 m 9 8,
 g 10 9 false true (.load true 148 (.t 1)),
 g 11 9 false true (.fieldA 1 1 (.t 2)),
 g 12 9 false true (.load true 32 (.t 11)),
 g 13 9 false false (.call (.c (.fn (.func I.rules_known) [] [])) [(.t 10), (.t 12)]),
 g 14 9 false false (.un .not (.t 13)),
 o 15 (.pick (.t 9) (.c (.bl true)) (.t 14)),
 m 3 15])
 (.ret))⟩
def rules_timers_2 : AFun := ⟨26, [.mv (.t 3)],
 .seq (.region [u 2 (.box (.t 0)),
 o 3 (.mv (.c (.bl false)))])
 (.seq (.region [f 4 9 111 1,
 l 5 4,
 f 6 0 0 2,
 o 7 (.load true 32 (.t 6)),
 u 8 (.callq (.c (.fn (.func I.wheel_Has) [] [])) [(.t 5), (.t 7), (.c (.int .i64 1))]),
 f 9 8 98 2,
 f 10 0 0 9,
 l 11 10,
 o 12 (.bin .eql .bl (.t 8) (.t 11)),
 m 13 12,
 h 14 13 4 83 2,
 k 15 13 true 14,
 g 16 13 true true (.bin .neq .no (.t 15) (.c (.int .i64 0))),
 g 17 13 true true (.mv (.t 16)),
 g 18 17 false true (.fieldA 9 111 (.t 1)),
 k 19 17 false 18,
 g 20 17 false true (.fieldA 0 0 (.t 2)),
 g 21 17 false true (.load true 32 (.t 20)),
 g 22 17 false false (.callq (.c (.fn (.func I.wheel_Has) [] [])) [(.t 19), (.t 21), (.c (.int .i64 4))]),
 g 23 17 false false (.un .not (.t 22)),
 g 24 13 true true (.pick (.t 17) (.c (.bl true)) (.t 23)),
 o 25 (.pick (.t 13) (.t 24) (.c (.bl false))),
 m 3 25])
 (.ret))⟩
def wheel_Has : AFun := ⟨10, [.mv (.t 6)],
 .seq (.region [u 4 (.box (.t 1)),
 u 5 (.box (.t 2)),
 o 6 (.mv (.c (.bl false)))])
 (.seq (.region [m 7 0,
 u 8 (.mkFunc (.func I.wheel_Has_1) [] [(.t 4), (.t 5)]),
 c 9 I.slices_ContainsFunc_api_Timer_api_Timer [(.t 7), (.t 8)],
 m 6 9])
 (.ret))⟩
def slices_IsSorted_int64_int64l0 : ACode :=
 .seq (.seq (.region [m 7 3,
 o 8 (.bin .gtr .no (.t 7) (.c (.int .i64 0)))])
 (.cond (.t 8)
 (.skip)
 (.exit 0)))
 (.seq (.block 1 (.seq (.region [m 11 0,
 m 12 3,
 u 13 (.indexA (.sl 1) (.t 11) (.t 12)),
 l 14 13,
 m 15 0,
 m 16 3,
 o 17 (.bin .sub .no (.t 16) (.c (.int .i64 1))),
 u 18 (.indexA (.sl 1) (.t 15) (.t 17)),
 l 19 18,
 u 20 (.callq (.c (.fn (.func I.cmp_Less_int64) [] [])) [(.t 14), (.t 19)])])
 (.cond (.t 20)
 (.seq (.region [o 2 (.mv (.c (.bl false)))])
 (.ret))
 (.skip))))
 (.region [m 9 3,
 o 10 (.bin .sub .no (.t 9) (.c (.int .i64 1))),
 m 3 10]))
def slices_IsSorted_int64_int64c1 : ACode :=
 .seq (.region [o 2 (.mv (.c (.bl true)))])
 (.ret)
def slices_IsSorted_int64_int64 : AFun := ⟨21, [.mv (.t 2)],
 .seq (.region [o 2 (.mv (.c (.bl false)))])
 (.seq (.seq (.region [m 4 0,
 o 5 (.len (.t 4)),
 o 6 (.bin .sub .no (.t 5) (.c (.int .i64 1))),
 m 3 6])
 (.block 0 (.loop slices_IsSorted_int64_int64l0)))
 slices_IsSorted_int64_int64c1)⟩
def slices_ContainsFunc_int64_int64 : AFun := ⟨9, [.mv (.t 4)],
 .seq (.region [o 4 (.mv (.c (.bl false)))])
 (.seq (.region [m 5 0,
 m 6 1,
 c 7 I.slices_IndexFunc_int64_int64 [(.t 5), (.t 6)],
 o 8 (.bin .geq .no (.t 7) (.c (.int .i64 0))),
 m 4 8])
 (.ret))⟩
def inner_Less : AFun := ⟨18, [.mv (.t 4)],
 .seq (.region [u 2 (.box (.t 0)),
 u 3 (.box (.t 1)),
 o 4 (.mv (.c (.bl false)))])
 (.seq (.seq (.region [f 5 0 0 2,
 l 6 5,
 f 7 0 0 3,
 l 8 7,
 o 9 (.bin .neq .bl (.t 6) (.t 8))])
 (.cond (.t 9)
 (.seq (.region [f 10 0 0 3,
 l 11 10,
 m 4 11])
 (.ret))
 (.skip)))
 (.seq (.region [f 12 1 1 2,
 u 13 (.slice (.ar 16 1) (.t 12) none none none),
 f 14 1 1 3,
 u 15 (.slice (.ar 16 1) (.t 14) none none none),
 c 16 I.bytes_Compare [(.t 13), (.t 15)],
 o 17 (.bin .lss .no (.t 16) (.c (.int .i64 0))),
 m 4 17])
 (.ret)))⟩
def burrowref13_FormatAddrl0 : ACode :=
 .seq (.seq (.region [m 12 4,
 o 13 (.bin .lss .no (.t 12) (.c (.int .i64 4)))])
 (.cond (.t 13)
 (.skip)
 (.exit 0)))
 (.seq (.block 1 (.region [m 16 3,
 m 17 4,
 f 18 1 1 1,
 u 19 (.indexA (.ar 16 1) (.t 18) (.t 17)),
 l 20 19,
 o 21 (.convI .i64 (.t 20)),
 c 22 I.burrowref13_Decimal [(.t 21)],
 o 23 (.bin .add .no (.c (.str [46])) (.t 22)),
 o 24 (.bin .add .no (.t 16) (.t 23)),
 m 3 24]))
 (.region [m 14 4,
 o 15 (.bin .add .no (.t 14) (.c (.int .i64 1))),
 m 4 15]))
def burrowref13_FormatAddrc1 : ACode :=
 .seq (.region [m 25 3,
 u 26 (.slice .str (.t 25) (some (.c (.int .i64 1))) none none),
 m 2 26])
 (.ret)
def burrowref13_FormatAddrl2 : ACode :=
 .seq (.seq (.region [m 27 5,
 o 28 (.bin .lss .no (.t 27) (.c (.int .i64 8)))])
 (.cond (.t 28)
 (.skip)
 (.exit 2)))
 (.seq (.block 3 (.region [m 31 3,
 m 32 5,
 o 33 (.bin .mul .no (.c (.int .i64 2)) (.t 32)),
 f 34 1 1 1,
 u 35 (.indexA (.ar 16 1) (.t 34) (.t 33)),
 l 36 35,
 o 37 (.convI .i64 (.t 36)),
 u 38 (.bin .shl .no (.t 37) (.c (.int .u64 8))),
 m 39 5,
 o 40 (.bin .mul .no (.c (.int .i64 2)) (.t 39)),
 o 41 (.bin .add .no (.t 40) (.c (.int .i64 1))),
 f 42 1 1 1,
 u 43 (.indexA (.ar 16 1) (.t 42) (.t 41)),
 l 44 43,
 o 45 (.convI .i64 (.t 44)),
 o 46 (.bin .add .no (.t 38) (.t 45)),
 u 47 (.callq (.c (.fn (.func I.burrowref13_group) [] [])) [(.t 46)]),
 o 48 (.bin .add .no (.c (.str [58])) (.t 47)),
 o 49 (.bin .add .no (.t 31) (.t 48)),
 m 3 49]))
 (.region [m 29 5,
 o 30 (.bin .add .no (.t 29) (.c (.int .i64 1))),
 m 5 30]))
def burrowref13_FormatAddrc3 : ACode :=
 .seq (.region [m 50 3,
 u 51 (.slice .str (.t 50) (some (.c (.int .i64 1))) none none),
 m 2 51])
 (.ret)
def burrowref13_FormatAddrc4 : ACode :=
 .seq (.seq (.region [o 5 (.mv (.c (.int .i64 0)))])
 (.block 2 (.loop burrowref13_FormatAddrl2)))
 burrowref13_FormatAddrc3
def burrowref13_FormatAddr : AFun := ⟨52, [.mv (.t 2)],
 .seq (.region [u 1 (.box (.t 0)),
 o 2 (.mv (.c (.str [])))])
 (.seq (.seq (.region [o 6 (.load true 17 (.t 1)),
 c 7 I.burrowref09_Sound [(.t 6)],
 o 8 (.un .not (.t 7))])
 (.cond (.t 8)
 (.seq (.region [o 2 (.mv (.c (.str [])))])
 (.ret))
 (.skip)))
 (.seq (.region [o 3 (.mv (.c (.str [])))])
 (.seq (.seq (.region [f 9 0 0 1,
 l 10 9,
 o 11 (.un .not (.t 10))])
 (.cond (.t 11)
 (.seq (.seq (.region [o 4 (.mv (.c (.int .i64 0)))])
 (.block 0 (.loop burrowref13_FormatAddrl0)))
 burrowref13_FormatAddrc1)
 (.skip)))
 burrowref13_FormatAddrc4)))⟩
def burrowref13_Decimal : AFun := ⟨20, [.mv (.t 2)],
 .seq (.region [o 2 (.mv (.c (.str [])))])
 (.seq (.seq (.region [m 3 0,
 o 4 (.bin .lss .no (.t 3) (.c (.int .i64 10)))])
 (.cond (.t 4)
 (.seq (.region [m 5 0,
 o 6 (.bin .add .no (.c (.int .i64 48)) (.t 5)),
 o 7 (.convI .u8 (.t 6)),
 u 8 (.buildSlice false 1 (.int .u8 0) 1 [(0, (.t 7))]),
 o 9 (.convS (.t 8)),
 m 2 9])
 (.ret))
 (.skip)))
 (.seq (.region [m 10 0,
 u 11 (.bin .quo .no (.t 10) (.c (.int .i64 10))),
 u 12 (.callq (.c (.fn (.func I.burrowref13_Decimal) [] [])) [(.t 11)]),
 m 13 0,
 u 14 (.bin .rem .no (.t 13) (.c (.int .i64 10))),
 o 15 (.bin .add .no (.c (.int .i64 48)) (.t 14)),
 o 16 (.convI .u8 (.t 15)),
 u 17 (.buildSlice false 1 (.int .u8 0) 1 [(0, (.t 16))]),
 o 18 (.convS (.t 17)),
 o 19 (.bin .add .no (.t 12) (.t 18)),
 m 2 19])
 (.ret)))⟩
def slices_ContainsFunc_api_Peer_api_Peer : AFun := ⟨9, [.mv (.t 4)],
 .seq (.region [o 4 (.mv (.c (.bl false)))])
 (.seq (.region [m 5 0,
 m 6 1,
 c 7 I.slices_IndexFunc_api_Peer_api_Peer [(.t 5), (.t 6)],
 o 8 (.bin .geq .no (.t 7) (.c (.int .i64 0))),
 m 4 8])
 (.ret))⟩
def rules_every_1 : AFun := ⟨8, [.mv (.t 3)],
 .seq (.region [u 2 (.box (.t 0)),
 o 3 (.mv (.c (.bl false)))])
 (.seq (.region [l 4 1,
 o 5 (.load true 464 (.t 2)),
 u 6 (.call (.t 4) [(.t 5)]),
 o 7 (.un .not (.t 6)),
 m 3 7])
 (.ret))⟩
def config_FormatAddrl0 : ACode :=
 .seq (.region [o 12 (.bin .lss .no (.t 11) (.c (.int .i64 8)))])
 (.seq (.cond (.t 12)
 (.skip)
 (.exit 0))
 (.seq (.block 1 (.seq (.region [m 13 11,
 m 4 13])
 (.region [m 14 3,
 m 15 4,
 o 16 (.bin .mul .no (.c (.int .i64 2)) (.t 15)),
 f 17 1 1 1,
 u 18 (.indexA (.ar 16 1) (.t 17) (.t 16)),
 l 19 18,
 o 20 (.convI .i64 (.t 19)),
 u 21 (.bin .shl .no (.t 20) (.c (.int .u64 8))),
 m 22 4,
 o 23 (.bin .mul .no (.c (.int .i64 2)) (.t 22)),
 o 24 (.bin .add .no (.t 23) (.c (.int .i64 1))),
 f 25 1 1 1,
 u 26 (.indexA (.ar 16 1) (.t 25) (.t 24)),
 l 27 26,
 o 28 (.convI .i64 (.t 27)),
 o 29 (.bin .or .no (.t 21) (.t 28)),
 u 30 (.callq (.c (.fn (.func I.strconv_FormatInt) [] [])) [(.t 29), (.c (.int .i64 16))]),
 u 31 (.buildSlice false 1 (.str []) 1 [(0, (.t 30))]),
 u 32 (.append 1 16 false (.t 14) (.t 31)),
 m 3 32])))
 (.region [o 33 (.bin .add .no (.t 11) (.c (.int .i64 1))),
 m 11 33])))
def config_FormatAddrc1 : ACode :=
 .seq (.region [m 34 3,
 u 35 (.call (.c (.fn (.func I.strings_Join) [] [])) [(.t 34), (.c (.str [58]))]),
 m 2 35])
 (.ret)
def config_FormatAddrl2 : ACode :=
 .seq (.region [o 37 (.bin .lss .no (.t 36) (.c (.int .i64 4)))])
 (.seq (.cond (.t 37)
 (.skip)
 (.exit 2))
 (.seq (.block 3 (.seq (.region [m 38 36,
 m 5 38])
 (.region [m 39 3,
 m 40 5,
 f 41 1 1 1,
 u 42 (.indexA (.ar 16 1) (.t 41) (.t 40)),
 l 43 42,
 o 44 (.convI .i64 (.t 43)),
 c 45 I.strconv_Itoa [(.t 44)],
 u 46 (.buildSlice false 1 (.str []) 1 [(0, (.t 45))]),
 u 47 (.append 1 16 false (.t 39) (.t 46)),
 m 3 47])))
 (.region [o 48 (.bin .add .no (.t 36) (.c (.int .i64 1))),
 m 36 48])))
def config_FormatAddrc3 : ACode :=
 .seq (.region [m 49 3,
 u 50 (.call (.c (.fn (.func I.strings_Join) [] [])) [(.t 49), (.c (.str [46]))]),
 m 2 50])
 (.ret)
def config_FormatAddrc4 : ACode :=
 .seq (.seq (.region [o 36 (.mv (.c (.int .i64 0)))])
 (.block 2 (.loop config_FormatAddrl2)))
 config_FormatAddrc3
def config_FormatAddr : AFun := ⟨51, [.mv (.t 2)],
 .seq (.region [u 1 (.box (.t 0)),
 o 2 (.mv (.c (.str [])))])
 (.seq (.seq (.region [o 6 (.load true 17 (.t 1)),
 c 7 I.config_valid [(.t 6)],
 o 8 (.un .not (.t 7))])
 (.cond (.t 8)
 (.seq (.region [o 2 (.mv (.c (.str [])))])
 (.ret))
 (.skip)))
 (.seq (.region [o 3 (.mv (.c (.sl 1 [] true)))])
 (.seq (.seq (.region [f 9 0 0 1,
 l 10 9])
 (.cond (.t 10)
 (.seq (.seq (.region [o 11 (.mv (.c (.int .i64 0)))])
 (.block 0 (.loop config_FormatAddrl0)))
 config_FormatAddrc1)
 (.skip)))
 config_FormatAddrc4)))⟩
def slices_IndexFunc_byte_bytel0 : ACode :=
 .seq (.region [o 9 (.bin .lss .no (.t 8) (.t 7))])
 (.seq (.cond (.t 9)
 (.skip)
 (.exit 0))
 (.seq (.block 1 (.seq (.region [m 10 8,
 m 5 10])
 (.seq (.region [m 11 1,
 m 12 0,
 m 13 5,
 u 14 (.indexA (.sl 1) (.t 12) (.t 13)),
 l 15 14,
 u 16 (.call (.t 11) [(.t 15)])])
 (.cond (.t 16)
 (.seq (.region [m 17 5,
 m 4 17])
 (.ret))
 (.skip)))))
 (.region [o 18 (.bin .add .no (.t 8) (.c (.int .i64 1))),
 m 8 18])))
def slices_IndexFunc_byte_bytec1 : ACode :=
 .seq (.region [o 4 (.mv (.c (.int .i64 (-1))))])
 (.ret)
def slices_IndexFunc_byte_byte : AFun := ⟨19, [.mv (.t 4)],
 .seq (.region [o 4 (.mv (.c (.int .i64 0)))])
 (.seq (.seq (.region [m 6 0,
 o 7 (.len (.t 6)),
 o 8 (.mv (.c (.int .i64 0)))])
 (.block 0 (.loop slices_IndexFunc_byte_bytel0)))
 slices_IndexFunc_byte_bytec1)⟩
def ring_ring_places : AFun := ⟨10, [.load true 3 (.t 2)],
 .seq (.region [u 2 (.alloc (.ar 1 3 (zr 3 .nf)))])
 (.seq (.region [m 3 0,
 u 4 (.mkFunc (.func I.ring_ring_previous) [(.t 3)] []),
 m 5 0,
 u 6 (.mkFunc (.func I.ring_ring_current) [(.t 5)] []),
 m 7 0,
 u 8 (.mkFunc (.func I.ring_ring_next) [(.t 7)] []),
 u 9 (.build (.ar 1 3 (zr 3 .nf)) [(0, (.t 4)), (1, (.t 6)), (2, (.t 8))]),
 ⟨none, none, false, .store 3 (.t 2) (.t 9)⟩])
 (.ret))⟩
def inner_Valid : AFun := ⟨31, [.mv (.t 2)],
 .seq (.region [u 1 (.box (.t 0)),
 o 2 (.mv (.c (.bl false)))])
 (.seq (.region [o 3 (.mv (.c (.int .i64 32)))])
 (.seq (.seq (.region [f 4 0 0 1,
 f 5 0 0 4,
 l 6 5])
 (.cond (.t 6)
 (.region [o 3 (.mv (.c (.int .i64 128)))])
 (.skip)))
 (.seq (.region [f 7 0 0 1,
 o 8 (.load true 17 (.t 7)),
 u 9 (.callq (.c (.fn (.func I.inner_valid) [] [])) [(.t 8)]),
 m 10 9,
 h 11 10 1 17 1,
 k 12 10 true 11,
 g 13 10 true true (.bin .geq .no (.t 12) (.c (.int .i64 0))),
 o 14 (.pick (.t 10) (.t 13) (.c (.bl false))),
 m 15 14,
 h 16 15 1 17 1,
 k 17 15 true 16,
 g 18 15 true true (.mv (.t 3)),
 g 19 15 true true (.bin .leq .no (.t 17) (.t 18)),
 o 20 (.pick (.t 15) (.t 19) (.c (.bl false))),
 m 21 20,
 h 22 21 0 0 1,
 g 23 21 true true (.load true 17 (.t 22)),
 h 24 21 1 17 1,
 k 25 21 true 24,
 g 26 21 true false (.callq (.c (.fn (.func I.inner_cut) [] [])) [(.t 23), (.t 25)]),
 h 27 21 0 0 1,
 g 28 21 true true (.load true 17 (.t 27)),
 g 29 21 true false (.bin .eql (.sh (.st [.b, (.ar 16 (.i .u8))])) (.t 26) (.t 28)),
 o 30 (.pick (.t 21) (.t 29) (.c (.bl false))),
 m 2 30])
 (.ret))))⟩
def routes_less : AFun := ⟨20, [.mv (.t 4)],
 .seq (.region [u 2 (.box (.t 0)),
 u 3 (.box (.t 1)),
 o 4 (.mv (.c (.bl false)))])
 (.seq (.seq (.region [f 5 0 0 2,
 o 6 (.load true 17 (.t 5)),
 f 7 0 0 3,
 o 8 (.load true 17 (.t 7)),
 o 9 (.bin .eql (.sh (.st [.b, (.ar 16 (.i .u8))])) (.t 6) (.t 8))])
 (.cond (.t 9)
 (.seq (.region [f 10 1 17 2,
 l 11 10,
 f 12 1 17 3,
 l 13 12,
 o 14 (.bin .lss .no (.t 11) (.t 13)),
 m 4 14])
 (.ret))
 (.skip)))
 (.seq (.region [f 15 0 0 2,
 o 16 (.load true 17 (.t 15)),
 f 17 0 0 3,
 o 18 (.load true 17 (.t 17)),
 c 19 I.inner_Less [(.t 16), (.t 18)],
 m 4 19])
 (.ret)))⟩
def slices_IndexFunc_api_Route_api_Routel0 : ACode :=
 .seq (.region [o 9 (.bin .lss .no (.t 8) (.t 7))])
 (.seq (.cond (.t 9)
 (.skip)
 (.exit 0))
 (.seq (.block 1 (.seq (.region [m 10 8,
 m 5 10])
 (.seq (.region [m 11 1,
 m 12 0,
 m 13 5,
 u 14 (.indexA (.sl 50) (.t 12) (.t 13)),
 o 15 (.load true 50 (.t 14)),
 u 16 (.call (.t 11) [(.t 15)])])
 (.cond (.t 16)
 (.seq (.region [m 17 5,
 m 4 17])
 (.ret))
 (.skip)))))
 (.region [o 18 (.bin .add .no (.t 8) (.c (.int .i64 1))),
 m 8 18])))
def slices_IndexFunc_api_Route_api_Routec1 : ACode :=
 .seq (.region [o 4 (.mv (.c (.int .i64 (-1))))])
 (.ret)
def slices_IndexFunc_api_Route_api_Route : AFun := ⟨19, [.mv (.t 4)],
 .seq (.region [o 4 (.mv (.c (.int .i64 0)))])
 (.seq (.seq (.region [m 6 0,
 o 7 (.len (.t 6)),
 o 8 (.mv (.c (.int .i64 0)))])
 (.block 0 (.loop slices_IndexFunc_api_Route_api_Routel0)))
 slices_IndexFunc_api_Route_api_Routec1)⟩
def rules_known_1 : AFun := ⟨8, [.mv (.t 3)],
 .seq (.region [u 2 (.box (.t 0)),
 o 3 (.mv (.c (.bl false)))])
 (.seq (.region [f 4 0 0 2,
 o 5 (.load true 32 (.t 4)),
 o 6 (.load true 32 (.t 1)),
 o 7 (.bin .eql (.sh (.ar 32 (.i .u8))) (.t 5) (.t 6)),
 m 3 7])
 (.ret))⟩
def ring_Locals : AFun := ⟨11, [.mv (.t 2)],
 .seq (.region [u 1 (.box (.t 0)),
 o 2 (.mv (.c (.sl 1 [] true)))])
 (.seq (.region [f 3 0 0 1,
 o 4 (.load true 77 (.t 3)),
 f 5 1 77 1,
 o 6 (.load true 77 (.t 5)),
 f 7 2 154 1,
 o 8 (.load true 77 (.t 7)),
 u 9 (.buildSlice false 77 (.st 77 [(.bl false), (.st 76 [(.int .u32 0), (.int .u32 0), (.ar 1 32 (zr 32 (.int .u8 0))), (.ar 1 32 (zr 32 (.int .u8 0))), (.int .u64 0), (.int .u64 0), (.st 6 [(.bl false), (.int .u64 0), (.ar 1 4 (zr 4 (.int .u64 0)))]), (.int .i64 0), (.bl false)])]) 3 [(0, (.t 4)), (1, (.t 6)), (2, (.t 8))]),
 c 10 I.ring_locals [(.t 9)],
 m 2 10])
 (.ret))⟩
def slices_SortStableFunc_api_Slot_api_Slot : AFun := ⟨9, [],
 .region [m 4 0,
 m 5 0,
 o 6 (.len (.t 5)),
 m 7 1,
 c 8 I.slices_stableCmpFunc_api_Slot [(.t 4), (.t 6), (.t 7)]]⟩
def rules_Slots_1 : AFun := ⟨12, [.mv (.t 4)],
 .seq (.region [u 2 (.box (.t 0)),
 u 3 (.box (.t 1)),
 o 4 (.mv (.c (.int .i64 0)))])
 (.seq (.region [f 5 0 0 2,
 l 6 5,
 o 7 (.convI .i64 (.t 6)),
 f 8 0 0 3,
 l 9 8,
 o 10 (.convI .i64 (.t 9)),
 o 11 (.bin .sub .no (.t 7) (.t 10)),
 m 4 11])
 (.ret))⟩
def wheel_Less : AFun := ⟨10, [.mv (.t 4)],
 .seq (.region [u 2 (.box (.t 0)),
 u 3 (.box (.t 1)),
 o 4 (.mv (.c (.bl false)))])
 (.seq (.region [o 5 (.load true 34 (.t 2)),
 u 6 (.build (.st 34 [(.st 34 [(.int .i64 0), (.ar 1 32 (zr 32 (.int .u8 0))), (.int .i64 0)])]) [(0, (.t 5))]),
 o 7 (.load true 34 (.t 3)),
 u 8 (.build (.st 34 [(.st 34 [(.int .i64 0), (.ar 1 32 (zr 32 (.int .u8 0))), (.int .i64 0)])]) [(0, (.t 7))]),
 c 9 I.wheel_timer_before [(.t 6), (.t 8)],
 m 4 9])
 (.ret))⟩
def slices_IndexFunc_api_Timer_api_Timerl0 : ACode :=
 .seq (.region [o 9 (.bin .lss .no (.t 8) (.t 7))])
 (.seq (.cond (.t 9)
 (.skip)
 (.exit 0))
 (.seq (.block 1 (.seq (.region [m 10 8,
 m 5 10])
 (.seq (.region [m 11 1,
 m 12 0,
 m 13 5,
 u 14 (.indexA (.sl 34) (.t 12) (.t 13)),
 o 15 (.load true 34 (.t 14)),
 u 16 (.call (.t 11) [(.t 15)])])
 (.cond (.t 16)
 (.seq (.region [m 17 5,
 m 4 17])
 (.ret))
 (.skip)))))
 (.region [o 18 (.bin .add .no (.t 8) (.c (.int .i64 1))),
 m 8 18])))
def slices_IndexFunc_api_Timer_api_Timerc1 : ACode :=
 .seq (.region [o 4 (.mv (.c (.int .i64 (-1))))])
 (.ret)
def slices_IndexFunc_api_Timer_api_Timer : AFun := ⟨19, [.mv (.t 4)],
 .seq (.region [o 4 (.mv (.c (.int .i64 0)))])
 (.seq (.seq (.region [m 6 0,
 o 7 (.len (.t 6)),
 o 8 (.mv (.c (.int .i64 0)))])
 (.block 0 (.loop slices_IndexFunc_api_Timer_api_Timerl0)))
 slices_IndexFunc_api_Timer_api_Timerc1)⟩
def wheel_Has_1 : AFun := ⟨10, [.mv (.t 4)],
 .seq (.region [u 3 (.box (.t 0)),
 o 4 (.mv (.c (.bl false)))])
 (.seq (.region [o 5 (.load true 34 (.t 3)),
 u 6 (.build (.st 34 [(.st 34 [(.int .i64 0), (.ar 1 32 (zr 32 (.int .u8 0))), (.int .i64 0)])]) [(0, (.t 5))]),
 o 7 (.load true 32 (.t 1)),
 l 8 2,
 c 9 I.wheel_timer_of [(.t 6), (.t 7), (.t 8)],
 m 4 9])
 (.ret))⟩
def wheel_timer_of : AFun := ⟨19, [.mv (.t 6)],
 .seq (.region [u 3 (.box (.t 0)),
 u 4 (.box (.t 1)),
 o 6 (.mv (.c (.bl false)))])
 (.seq (.region [f 7 0 0 3,
 f 8 1 1 7,
 o 9 (.load true 32 (.t 8)),
 o 10 (.load true 32 (.t 4)),
 o 11 (.bin .eql (.sh (.ar 32 (.i .u8))) (.t 9) (.t 10)),
 m 12 11,
 h 13 12 0 0 3,
 h 14 12 2 33 13,
 k 15 12 true 14,
 g 16 12 true true (.mv (.t 2)),
 g 17 12 true true (.bin .eql .no (.t 15) (.t 16)),
 o 18 (.pick (.t 12) (.t 17) (.c (.bl false))),
 m 6 18])
 (.ret))⟩
def slices_IndexFunc_int64_int64l0 : ACode :=
 .seq (.region [o 9 (.bin .lss .no (.t 8) (.t 7))])
 (.seq (.cond (.t 9)
 (.skip)
 (.exit 0))
 (.seq (.block 1 (.seq (.region [m 10 8,
 m 5 10])
 (.seq (.region [m 11 1,
 m 12 0,
 m 13 5,
 u 14 (.indexA (.sl 1) (.t 12) (.t 13)),
 l 15 14,
 u 16 (.call (.t 11) [(.t 15)])])
 (.cond (.t 16)
 (.seq (.region [m 17 5,
 m 4 17])
 (.ret))
 (.skip)))))
 (.region [o 18 (.bin .add .no (.t 8) (.c (.int .i64 1))),
 m 8 18])))
def slices_IndexFunc_int64_int64c1 : ACode :=
 .seq (.region [o 4 (.mv (.c (.int .i64 (-1))))])
 (.ret)
def slices_IndexFunc_int64_int64 : AFun := ⟨19, [.mv (.t 4)],
 .seq (.region [o 4 (.mv (.c (.int .i64 0)))])
 (.seq (.seq (.region [m 6 0,
 o 7 (.len (.t 6)),
 o 8 (.mv (.c (.int .i64 0)))])
 (.block 0 (.loop slices_IndexFunc_int64_int64l0)))
 slices_IndexFunc_int64_int64c1)⟩
def inner_valid : AFun := ⟨14, [.mv (.t 2)],
 .seq (.region [u 1 (.box (.t 0)),
 o 2 (.mv (.c (.bl false)))])
 (.seq (.region [o 4 (.load true 17 (.t 1)),
 u 3 (.alloc (.st 17 [(.bl false), (.ar 1 16 (zr 16 (.int .u8 0)))])),
 ⟨none, none, false, .store 17 (.t 3) (.t 4)⟩])
 (.seq (.region [f 5 1 1 3,
 u 6 (.slice (.ar 16 1) (.t 5) (some (.c (.int .i64 4))) none none),
 ⟨none, none, false, .fill 1 (.int .u8 0) (.t 6)⟩])
 (.seq (.region [f 7 0 0 1,
 l 8 7,
 m 9 8,
 g 10 9 false true (.load true 17 (.t 1)),
 g 11 9 false true (.load true 17 (.t 3)),
 g 12 9 false true (.bin .eql (.sh (.st [.b, (.ar 16 (.i .u8))])) (.t 10) (.t 11)),
 o 13 (.pick (.t 9) (.c (.bl true)) (.t 12)),
 m 2 13])
 (.ret))))⟩
def inner_cutl0 : ACode :=
 .seq (.region [o 8 (.bin .lss .no (.t 7) (.c (.int .i64 16)))])
 (.seq (.cond (.t 8)
 (.skip)
 (.exit 0))
 (.seq (.block 1 (.seq (.region [m 9 7,
 m 5 9])
 (.seq (.region [m 10 1,
 m 11 5,
 o 12 (.bin .mul .no (.c (.int .i64 8)) (.t 11)),
 o 13 (.bin .sub .no (.t 10) (.t 12)),
 o 14 (.mm true [(.t 13), (.c (.int .i64 0))]),
 o 15 (.mm false [(.t 14), (.c (.int .i64 8))]),
 m 6 15])
 (.region [m 16 5,
 f 17 1 1 2,
 u 18 (.indexA (.ar 16 1) (.t 17) (.t 16)),
 l 19 18,
 m 20 6,
 u 21 (.bin .shr .no (.c (.int .u8 255)) (.t 20)),
 o 22 (.un .xor (.t 21)),
 o 23 (.bin .and .no (.t 19) (.t 22)),
 f 24 1 1 2,
 u 25 (.indexA (.ar 16 1) (.t 24) (.t 16)),
 ⟨none, none, false, .store 1 (.t 25) (.t 23)⟩]))))
 (.region [o 26 (.bin .add .no (.t 7) (.c (.int .i64 1))),
 m 7 26])))
def inner_cutc1 : ACode :=
 .seq (.region [o 27 (.load true 17 (.t 2)),
 ⟨none, none, false, .store 17 (.t 4) (.t 27)⟩])
 (.ret)
def inner_cut : AFun := ⟨28, [.load true 17 (.t 4)],
 .seq (.region [u 2 (.box (.t 0)),
 u 4 (.alloc (.st 17 [(.bl false), (.ar 1 16 (zr 16 (.int .u8 0)))]))])
 (.seq (.seq (.region [o 7 (.mv (.c (.int .i64 0)))])
 (.block 0 (.loop inner_cutl0)))
 inner_cutc1)⟩
def slices_IndexFunc_api_Peer_api_Peerl0 : ACode :=
 .seq (.region [o 9 (.bin .lss .no (.t 8) (.t 7))])
 (.seq (.cond (.t 9)
 (.skip)
 (.exit 0))
 (.seq (.block 1 (.seq (.region [m 10 8,
 m 5 10])
 (.seq (.region [m 11 1,
 m 12 0,
 m 13 5,
 u 14 (.indexA (.sl 464) (.t 12) (.t 13)),
 o 15 (.load true 464 (.t 14)),
 u 16 (.call (.t 11) [(.t 15)])])
 (.cond (.t 16)
 (.seq (.region [m 17 5,
 m 4 17])
 (.ret))
 (.skip)))))
 (.region [o 18 (.bin .add .no (.t 8) (.c (.int .i64 1))),
 m 8 18])))
def slices_IndexFunc_api_Peer_api_Peerc1 : ACode :=
 .seq (.region [o 4 (.mv (.c (.int .i64 (-1))))])
 (.ret)
def slices_IndexFunc_api_Peer_api_Peer : AFun := ⟨19, [.mv (.t 4)],
 .seq (.region [o 4 (.mv (.c (.int .i64 0)))])
 (.seq (.seq (.region [m 6 0,
 o 7 (.len (.t 6)),
 o 8 (.mv (.c (.int .i64 0)))])
 (.block 0 (.loop slices_IndexFunc_api_Peer_api_Peerl0)))
 slices_IndexFunc_api_Peer_api_Peerc1)⟩
def config_valid : AFun := ⟨10, [.mv (.t 2)],
 .seq (.region [u 1 (.box (.t 0)),
 o 2 (.mv (.c (.bl false)))])
 (.seq (.region [o 3 (.mv (.c (.int .i64 32)))])
 (.seq (.seq (.region [f 4 0 0 1,
 l 5 4])
 (.cond (.t 5)
 (.region [o 3 (.mv (.c (.int .i64 128)))])
 (.skip)))
 (.seq (.region [o 6 (.load true 17 (.t 1)),
 m 7 3,
 u 8 (.build (.st 18 [(.st 17 [(.bl false), (.ar 1 16 (zr 16 (.int .u8 0)))]), (.int .i64 0)]) [(0, (.t 6)), (1, (.t 7))]),
 c 9 I.inner_Valid [(.t 8)],
 m 2 9])
 (.ret))))⟩
def ring_ring_previous : AFun := ⟨7, [.mv (.t 2)],
 .seq (.region [o 2 (.mv (.c .np))])
 (.seq (.region [m 3 0,
 o 4 (.nilCheck (.t 3)),
 f 5 0 0 4,
 f 6 0 0 5,
 m 2 6])
 (.ret))⟩
def ring_ring_current : AFun := ⟨7, [.mv (.t 2)],
 .seq (.region [o 2 (.mv (.c .np))])
 (.seq (.region [m 3 0,
 o 4 (.nilCheck (.t 3)),
 f 5 0 0 4,
 f 6 1 77 5,
 m 2 6])
 (.ret))⟩
def ring_ring_next : AFun := ⟨7, [.mv (.t 2)],
 .seq (.region [o 2 (.mv (.c .np))])
 (.seq (.region [m 3 0,
 o 4 (.nilCheck (.t 3)),
 f 5 0 0 4,
 f 6 2 154 5,
 m 2 6])
 (.ret))⟩
def ring_localsl0 : ACode :=
 .seq (.region [o 9 (.bin .lss .no (.t 8) (.t 7))])
 (.seq (.cond (.t 9)
 (.skip)
 (.exit 0))
 (.seq (.block 1 (.seq (.region [u 10 (.indexA (.sl 77) (.t 6) (.t 8)),
 o 11 (.load true 77 (.t 10)),
 u 5 (.alloc (.st 77 [(.bl false), (.st 76 [(.int .u32 0), (.int .u32 0), (.ar 1 32 (zr 32 (.int .u8 0))), (.ar 1 32 (zr 32 (.int .u8 0))), (.int .u64 0), (.int .u64 0), (.st 6 [(.bl false), (.int .u64 0), (.ar 1 4 (zr 4 (.int .u64 0)))]), (.int .i64 0), (.bl false)])])),
 ⟨none, none, false, .store 77 (.t 5) (.t 11)⟩])
 (.seq (.region [f 12 0 0 5,
 l 13 12])
 (.cond (.t 13)
 (.region [m 14 3,
 f 15 1 1 5,
 f 16 0 0 15,
 l 17 16,
 u 18 (.buildSlice false 1 (.int .u32 0) 1 [(0, (.t 17))]),
 u 19 (.append 1 4 false (.t 14) (.t 18)),
 m 3 19])
 (.skip)))))
 (.region [o 20 (.bin .add .no (.t 8) (.c (.int .i64 1))),
 m 8 20])))
def ring_localsc1 : ACode :=
 .seq (.region [m 21 3,
 m 2 21])
 (.ret)
def ring_locals : AFun := ⟨22, [.mv (.t 2)],
 .seq (.region [o 2 (.mv (.c (.sl 1 [] true)))])
 (.seq (.region [o 3 (.mv (.c (.sl 1 [] true)))])
 (.seq (.seq (.region [m 6 0,
 o 7 (.len (.t 6)),
 o 8 (.mv (.c (.int .i64 0)))])
 (.block 0 (.loop ring_localsl0)))
 ring_localsc1))⟩
def slices_stableCmpFunc_api_Slotl0 : ACode :=
 .seq (.seq (.region [m 11 8,
 m 12 1,
 o 13 (.bin .leq .no (.t 11) (.t 12))])
 (.cond (.t 13)
 (.skip)
 (.exit 0)))
 (.block 1 (.seq (.region [m 14 0,
 m 15 7,
 m 16 8,
 m 17 2,
 c 18 I.slices_insertionSortCmpFunc_api_Slot [(.t 14), (.t 15), (.t 16), (.t 17)]])
 (.seq (.region [m 19 8,
 m 7 19])
 (.region [m 20 8,
 m 21 6,
 o 22 (.bin .add .no (.t 20) (.t 21)),
 m 8 22]))))
def slices_stableCmpFunc_api_Slotl1 : ACode :=
 .seq (.seq (.region [m 33 8,
 m 34 1,
 o 35 (.bin .leq .no (.t 33) (.t 34))])
 (.cond (.t 35)
 (.skip)
 (.exit 4)))
 (.block 5 (.seq (.region [m 36 0,
 m 37 7,
 m 38 7,
 m 39 6,
 o 40 (.bin .add .no (.t 38) (.t 39)),
 m 41 8,
 m 42 2,
 c 43 I.slices_symMergeCmpFunc_api_Slot [(.t 36), (.t 37), (.t 40), (.t 41), (.t 42)]])
 (.seq (.region [m 44 8,
 m 7 44])
 (.region [m 45 8,
 m 46 6,
 o 47 (.bin .mul .no (.c (.int .i64 2)) (.t 46)),
 o 48 (.bin .add .no (.t 45) (.t 47)),
 m 8 48]))))
def slices_stableCmpFunc_api_Slotc2 : ACode :=
 .seq (.seq (.region [m 49 7,
 m 50 6,
 o 51 (.bin .add .no (.t 49) (.t 50)),
 m 9 51])
 (.seq (.region [m 52 9,
 m 53 1,
 o 54 (.bin .lss .no (.t 52) (.t 53))])
 (.cond (.t 54)
 (.region [m 55 0,
 m 56 7,
 m 57 9,
 m 58 1,
 m 59 2,
 c 60 I.slices_symMergeCmpFunc_api_Slot [(.t 55), (.t 56), (.t 57), (.t 58), (.t 59)]])
 (.skip))))
 (.region [m 61 6,
 o 62 (.bin .mul .no (.t 61) (.c (.int .i64 2))),
 m 6 62])
def slices_stableCmpFunc_api_Slotl3 : ACode :=
 .seq (.seq (.region [m 28 6,
 m 29 1,
 o 30 (.bin .lss .no (.t 28) (.t 29))])
 (.cond (.t 30)
 (.skip)
 (.exit 2)))
 (.block 3 (.seq (.region [m 31 6,
 o 32 (.bin .mul .no (.c (.int .i64 2)) (.t 31)),
 o 7 (.mv (.c (.int .i64 0))),
 m 8 32])
 (.seq (.block 4 (.loop slices_stableCmpFunc_api_Slotl1))
 slices_stableCmpFunc_api_Slotc2)))
def slices_stableCmpFunc_api_Slotc4 : ACode :=
 .seq (.region [m 23 0,
 m 24 7,
 m 25 1,
 m 26 2,
 c 27 I.slices_insertionSortCmpFunc_api_Slot [(.t 23), (.t 24), (.t 25), (.t 26)]])
 (.block 2 (.loop slices_stableCmpFunc_api_Slotl3))
def slices_stableCmpFunc_api_Slot : AFun := ⟨63, [],
 .seq (.region [o 6 (.mv (.c (.int .i64 20)))])
 (.seq (.region [m 10 6,
 o 7 (.mv (.c (.int .i64 0))),
 m 8 10])
 (.seq (.block 0 (.loop slices_stableCmpFunc_api_Slotl0))
 slices_stableCmpFunc_api_Slotc4))⟩
def wheel_timer_before : AFun := ⟨38, [.mv (.t 4)],
 .seq (.region [u 2 (.box (.t 0)),
 u 3 (.box (.t 1)),
 o 4 (.mv (.c (.bl false)))])
 (.seq (.seq (.region [f 6 0 0 2,
 f 7 0 0 6,
 l 8 7,
 f 9 0 0 3,
 f 10 0 0 9,
 l 11 10,
 o 12 (.bin .neq .no (.t 8) (.t 11))])
 (.cond (.t 12)
 (.seq (.region [f 13 0 0 2,
 f 14 0 0 13,
 l 15 14,
 f 16 0 0 3,
 f 17 0 0 16,
 l 18 17,
 o 19 (.bin .lss .no (.t 15) (.t 18)),
 m 4 19])
 (.ret))
 (.skip)))
 (.seq (.seq (.region [f 20 0 0 2,
 f 21 1 1 20,
 u 22 (.slice (.ar 32 1) (.t 21) none none none),
 f 23 0 0 3,
 f 24 1 1 23,
 u 25 (.slice (.ar 32 1) (.t 24) none none none),
 c 26 I.bytes_Compare [(.t 22), (.t 25)],
 m 5 26])
 (.seq (.region [m 27 5,
 o 28 (.bin .neq .no (.t 27) (.c (.int .i64 0)))])
 (.cond (.t 28)
 (.seq (.region [m 29 5,
 o 30 (.bin .lss .no (.t 29) (.c (.int .i64 0))),
 m 4 30])
 (.ret))
 (.skip))))
 (.seq (.region [f 31 0 0 2,
 f 32 2 33 31,
 l 33 32,
 f 34 0 0 3,
 f 35 2 33 34,
 l 36 35,
 o 37 (.bin .lss .no (.t 33) (.t 36)),
 m 4 37])
 (.ret))))⟩
def slices_insertionSortCmpFunc_api_Slotl0 : ACode :=
 .seq (.seq (.region [m 18 9,
 m 19 1,
 o 20 (.bin .gtr .no (.t 18) (.t 19)),
 m 21 20,
 g 22 21 true true (.mv (.t 3)),
 g 23 21 true true (.mv (.t 0)),
 g 24 21 true true (.mv (.t 9)),
 g 25 21 true false (.indexA (.sl 34) (.t 23) (.t 24)),
 g 26 21 true false (.load true 34 (.t 25)),
 g 27 21 true true (.mv (.t 0)),
 g 28 21 true true (.mv (.t 9)),
 g 29 21 true true (.bin .sub .no (.t 28) (.c (.int .i64 1))),
 g 30 21 true false (.indexA (.sl 34) (.t 27) (.t 29)),
 g 31 21 true false (.load true 34 (.t 30)),
 g 32 21 true false (.callq (.t 22) [(.t 26), (.t 31)]),
 g 33 21 true false (.bin .lss .no (.t 32) (.c (.int .i64 0))),
 o 34 (.pick (.t 21) (.t 33) (.c (.bl false)))])
 (.cond (.t 34)
 (.skip)
 (.exit 2)))
 (.seq (.block 3 (.regionD [m 37 0,
 m 38 9,
 m 39 0,
 m 40 9,
 o 41 (.bin .sub .no (.t 40) (.c (.int .i64 1))),
 m 42 0,
 m 43 9,
 o 44 (.bin .sub .no (.t 43) (.c (.int .i64 1))),
 u 45 (.indexA (.sl 34) (.t 42) (.t 44)),
 o 46 (.load true 34 (.t 45)),
 m 47 0,
 m 48 9,
 u 49 (.indexA (.sl 34) (.t 47) (.t 48)),
 o 50 (.load true 34 (.t 49)),
 u 51 (.indexA (.sl 34) (.t 37) (.t 38)),
 ⟨none, none, false, .store 34 (.t 51) (.t 46)⟩,
 u 52 (.indexA (.sl 34) (.t 39) (.t 41)),
 ⟨none, none, false, .store 34 (.t 52) (.t 50)⟩] [0, 1, 2, 3, 4, 5, 6, 7, 8, 9, 10, 11, 12, 13, 14, 15, 16, 17] []))
 (.region [m 35 9,
 o 36 (.bin .sub .no (.t 35) (.c (.int .i64 1))),
 m 9 36]))
def slices_insertionSortCmpFunc_api_Slotc1 : ACode :=
 .region [m 15 8,
 o 16 (.bin .add .no (.t 15) (.c (.int .i64 1))),
 m 8 16]
def slices_insertionSortCmpFunc_api_Slotl2 : ACode :=
 .seq (.seq (.region [m 12 8,
 m 13 2,
 o 14 (.bin .lss .no (.t 12) (.t 13))])
 (.cond (.t 14)
 (.skip)
 (.exit 0)))
 (.seq (.block 1 (.seq (.region [m 17 8,
 m 9 17])
 (.block 2 (.loop slices_insertionSortCmpFunc_api_Slotl0))))
 slices_insertionSortCmpFunc_api_Slotc1)
def slices_insertionSortCmpFunc_api_Slot : AFun := ⟨53, [],
 .seq (.region [m 10 1,
 o 11 (.bin .add .no (.t 10) (.c (.int .i64 1))),
 m 8 11])
 (.block 0 (.loop slices_insertionSortCmpFunc_api_Slotl2))⟩
end Go.Ab.F
