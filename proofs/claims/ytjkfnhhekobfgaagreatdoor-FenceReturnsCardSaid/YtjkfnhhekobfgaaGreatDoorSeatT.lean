/- Each function is read so. Written by program. No condition. -/
import Derived.Test.YtjkfnhhekobfgaaGreatDoorSeatF
import Derived.Test.YtjkfnhhekobfgaaGreatDoorProg
import Derived.KernelRfl
import Derived.Lib.ItoaNum
namespace Go.Ab
noncomputable abbrev Pg : Program := Go.Proofs.Tryz.prog
instance : Tabs := ⟨fun b => if b = 1 then some (Go.Lib.pow10Tab.map fun z => Value.int .u64 z).toArray else none⟩
namespace T
open Go.Ab
theorem burrowlaw29_FenceReturns : trFun Pg [49] [30] I.burrowlaw29_FenceReturns = some F.burrowlaw29_FenceReturns.er := by kernel_rfl
theorem burrowmake_Daemon : trFun Pg [68, 117, 119, 23, 27] [] I.burrowmake_Daemon = some F.burrowmake_Daemon.er := by kernel_rfl
theorem burrowcase_New : trFun Pg [] [] I.burrowcase_New = some F.burrowcase_New.er := by kernel_rfl
theorem burrowref24_Copy : trFun Pg [] [] I.burrowref24_Copy = some F.burrowref24_Copy.er := by kernel_rfl
theorem burrowref24_Check : trFun Pg [] [24, 18, 12] I.burrowref24_Check = some F.burrowref24_Check.er := by kernel_rfl
theorem fence_Reserve : trFun Pg [11, 13] [] I.fence_Reserve = some F.fence_Reserve.er := by kernel_rfl
theorem burrowref25_Same : trFun Pg [] [] I.burrowref25_Same = some F.burrowref25_Same.er := by kernel_rfl
theorem fence_Lift : trFun Pg [] [] I.fence_Lift = some F.fence_Lift.er := by kernel_rfl
theorem daemon_Valid : trFun Pg [] [] I.daemon_Valid = some F.daemon_Valid.er := by kernel_rfl
theorem burrowmake_Sessions : trFun Pg [] [] I.burrowmake_Sessions = some F.burrowmake_Sessions.er := by kernel_rfl
theorem burrowlaw29_begun : trFun Pg [] [] I.burrowlaw29_begun = some F.burrowlaw29_begun.er := by kernel_rfl
theorem burrowcase_Codes_Rules : trFun Pg [30, 37, 44] [] I.burrowcase_Codes_Rules = some F.burrowcase_Codes_Rules.er := by kernel_rfl
theorem burrowcase_Codes_Key : trFun Pg [6] [] I.burrowcase_Codes_Key = some F.burrowcase_Codes_Key.er := by kernel_rfl
theorem burrowcase_Codes_Big : trFun Pg [] [] I.burrowcase_Codes_Big = some F.burrowcase_Codes_Big.er := by kernel_rfl
theorem burrowcase_Codes_Next : trFun Pg [] [] I.burrowcase_Codes_Next = some F.burrowcase_Codes_Next.er := by kernel_rfl
theorem burrowmake_Peer : trFun Pg [] [] I.burrowmake_Peer = some F.burrowmake_Peer.er := by kernel_rfl
theorem burrowmake_At : trFun Pg [] [] I.burrowmake_At = some F.burrowmake_At.er := by kernel_rfl
theorem burrowref14_Set : trFun Pg [33] [24, 22] I.burrowref14_Set = some F.burrowref14_Set.er := by kernel_rfl
theorem burrowref14_InsertRoute : trFun Pg [61] [50, 48, 47] I.burrowref14_InsertRoute = some F.burrowref14_InsertRoute.er := by kernel_rfl
theorem burrowcase_Masked : trFun Pg [] [] I.burrowcase_Masked = some F.burrowcase_Masked.er := by kernel_rfl
theorem burrowcase_Host : trFun Pg [] [] I.burrowcase_Host = some F.burrowcase_Host.er := by kernel_rfl
theorem burrowref24_Install : trFun Pg [] [] I.burrowref24_Install = some F.burrowref24_Install.er := by kernel_rfl
theorem burrowmake_Session : trFun Pg [75, 15, 23, 25, 28, 60] [] I.burrowmake_Session = some F.burrowmake_Session.er := by kernel_rfl
theorem burrowcase_Codes_Bool : trFun Pg [] [] I.burrowcase_Codes_Bool = some F.burrowcase_Codes_Bool.er := by kernel_rfl
theorem burrowref24_ValidRules : trFun Pg [] [44, 38, 32, 26] I.burrowref24_ValidRules = some F.burrowref24_ValidRules.er := by kernel_rfl
theorem burrowref24_within : trFun Pg [] [] I.burrowref24_within = some F.burrowref24_within.er := by kernel_rfl
theorem burrowref24_peers : trFun Pg [] [27, 26, 23, 21] I.burrowref24_peers = some F.burrowref24_peers.er := by kernel_rfl
theorem burrowref24_each : trFun Pg [] [39, 29, 20] I.burrowref24_each = some F.burrowref24_each.er := by kernel_rfl
theorem burrowref24_routes : trFun Pg [] [] I.burrowref24_routes = some F.burrowref24_routes.er := by kernel_rfl
theorem burrowref24_slots : trFun Pg [] [] I.burrowref24_slots = some F.burrowref24_slots.er := by kernel_rfl
theorem burrowref24_timers : trFun Pg [] [43, 42, 41] I.burrowref24_timers = some F.burrowref24_timers.er := by kernel_rfl
theorem burrowref24_load : trFun Pg [] [47, 46, 90, 86, 85, 74, 67] I.burrowref24_load = some F.burrowref24_load.er := by kernel_rfl
theorem own_Daemon : trFun Pg [] [] I.own_Daemon = some F.own_Daemon.er := by kernel_rfl
theorem fence_sessions : trFun Pg [] [] I.fence_sessions = some F.fence_sessions.er := by kernel_rfl
theorem fence_Edge : trFun Pg [] [] I.fence_Edge = some F.fence_Edge.er := by kernel_rfl
theorem burrowref25_SamePeer : trFun Pg [] [] I.burrowref25_SamePeer = some F.burrowref25_SamePeer.er := by kernel_rfl
theorem burrowref25_sameLists : trFun Pg [] [] I.burrowref25_sameLists = some F.burrowref25_sameLists.er := by kernel_rfl
theorem rules_Check : trFun Pg [] [] I.rules_Check = some F.rules_Check.er := by kernel_rfl
theorem burrowref22_Get : trFun Pg [] [] I.burrowref22_Get = some F.burrowref22_Get.er := by kernel_rfl
theorem burrowcase_Codes_Bytes : trFun Pg [] [] I.burrowcase_Codes_Bytes = some F.burrowcase_Codes_Bytes.er := by kernel_rfl
theorem burrowcase_Codes_Left : trFun Pg [] [] I.burrowcase_Codes_Left = some F.burrowcase_Codes_Left.er := by kernel_rfl
theorem burrowref14_Cancel : trFun Pg [] [] I.burrowref14_Cancel = some F.burrowref14_Cancel.er := by kernel_rfl
theorem burrowref14_LessTimer : trFun Pg [] [] I.burrowref14_LessTimer = some F.burrowref14_LessTimer.er := by kernel_rfl
theorem burrowref09_Valid : trFun Pg [] [19] I.burrowref09_Valid = some F.burrowref09_Valid.er := by kernel_rfl
theorem burrowref14_before : trFun Pg [] [] I.burrowref14_before = some F.burrowref14_before.er := by kernel_rfl
theorem burrowref24_Valid : trFun Pg [] [] I.burrowref24_Valid = some F.burrowref24_Valid.er := by kernel_rfl
theorem burrowref24_find : trFun Pg [] [] I.burrowref24_find = some F.burrowref24_find.er := by kernel_rfl
theorem burrowref14_FindSlot : trFun Pg [] [] I.burrowref14_FindSlot = some F.burrowref14_FindSlot.er := by kernel_rfl
theorem burrowref24_sound : trFun Pg [] [30] I.burrowref24_sound = some F.burrowref24_sound.er := by kernel_rfl
theorem burrowref22_Begin : trFun Pg [] [] I.burrowref22_Begin = some F.burrowref22_Begin.er := by kernel_rfl
theorem burrowref22_Answer : trFun Pg [] [] I.burrowref22_Answer = some F.burrowref22_Answer.er := by kernel_rfl
theorem burrowref24_machine_drop : trFun Pg [] [] I.burrowref24_machine_drop = some F.burrowref24_machine_drop.er := by kernel_rfl
theorem burrowref14_Take : trFun Pg [] [43, 41, 40] I.burrowref14_Take = some F.burrowref14_Take.er := by kernel_rfl
theorem burrowref24_machine_set : trFun Pg [] [] I.burrowref24_machine_set = some F.burrowref24_machine_set.er := by kernel_rfl
theorem burrowref22_New : trFun Pg [] [] I.burrowref22_New = some F.burrowref22_New.er := by kernel_rfl
theorem burrowref14_AcceptWindow : trFun Pg [] [] I.burrowref14_AcceptWindow = some F.burrowref14_AcceptWindow.er := by kernel_rfl
theorem rules_All : trFun Pg [] [] I.rules_All = some F.rules_All.er := by kernel_rfl
theorem burrowref24_fields : trFun Pg [] [32, 25, 15, 68, 54] I.burrowref24_fields = some F.burrowref24_fields.er := by kernel_rfl
theorem burrowref24_hand : trFun Pg [] [] I.burrowref24_hand = some F.burrowref24_hand.er := by kernel_rfl
theorem burrowref24_ring : trFun Pg [] [31, 22] I.burrowref24_ring = some F.burrowref24_ring.er := by kernel_rfl
theorem burrowref14_ValidRoutes : trFun Pg [] [29, 25, 24] I.burrowref14_ValidRoutes = some F.burrowref14_ValidRoutes.er := by kernel_rfl
theorem burrowref14_ValidSlots : trFun Pg [] [27, 26, 25] I.burrowref14_ValidSlots = some F.burrowref14_ValidSlots.er := by kernel_rfl
theorem burrowref22_Locals : trFun Pg [] [] I.burrowref22_Locals = some F.burrowref22_Locals.er := by kernel_rfl
theorem burrowref14_ValidTimers : trFun Pg [] [43, 40] I.burrowref14_ValidTimers = some F.burrowref14_ValidTimers.er := by kernel_rfl
theorem burrowref14_Has : trFun Pg [] [] I.burrowref14_Has = some F.burrowref14_Has.er := by kernel_rfl
theorem burrowref24_past : trFun Pg [] [] I.burrowref24_past = some F.burrowref24_past.er := by kernel_rfl
theorem burrowref09_Sound : trFun Pg [] [] I.burrowref09_Sound = some F.burrowref09_Sound.er := by kernel_rfl
theorem burrowref09_Less : trFun Pg [] [] I.burrowref09_Less = some F.burrowref09_Less.er := by kernel_rfl
theorem slices_Clone_api_Peer_api_Peer : trFun Pg [] [] I.slices_Clone_api_Peer_api_Peer = some F.slices_Clone_api_Peer_api_Peer.er := by kernel_rfl
theorem own_Bytes : trFun Pg [] [] I.own_Bytes = some F.own_Bytes.er := by kernel_rfl
theorem slices_Clone_api_Route_api_Route : trFun Pg [] [] I.slices_Clone_api_Route_api_Route = some F.slices_Clone_api_Route_api_Route.er := by kernel_rfl
theorem slices_Clone_api_Slot_api_Slot : trFun Pg [] [] I.slices_Clone_api_Slot_api_Slot = some F.slices_Clone_api_Slot_api_Slot.er := by kernel_rfl
theorem slices_Clone_api_Timer_api_Timer : trFun Pg [] [] I.slices_Clone_api_Timer_api_Timer = some F.slices_Clone_api_Timer_api_Timer.er := by kernel_rfl
theorem slices_Clone_int64_int64 : trFun Pg [] [] I.slices_Clone_int64_int64 = some F.slices_Clone_int64_int64.er := by kernel_rfl
theorem slices_Clone_api_Bucket_api_Bucket : trFun Pg [] [] I.slices_Clone_api_Bucket_api_Bucket = some F.slices_Clone_api_Bucket_api_Bucket.er := by kernel_rfl
theorem fence_sessions_1 : trFun Pg [] [47] I.fence_sessions_1 = some F.fence_sessions_1.er := by kernel_rfl
theorem burrowref09_width : trFun Pg [] [] I.burrowref09_width = some F.burrowref09_width.er := by kernel_rfl
theorem burrowref09_bit : trFun Pg [] [] I.burrowref09_bit = some F.burrowref09_bit.er := by kernel_rfl
theorem burrowref22_locals : trFun Pg [] [] I.burrowref22_locals = some F.burrowref22_locals.er := by kernel_rfl
theorem burrowref22_clean : trFun Pg [] [] I.burrowref22_clean = some F.burrowref22_clean.er := by kernel_rfl
theorem burrowref14_DropSlot : trFun Pg [] [] I.burrowref14_DropSlot = some F.burrowref14_DropSlot.er := by kernel_rfl
theorem burrowref14_CheckWindow : trFun Pg [] [32, 31, 27] I.burrowref14_CheckWindow = some F.burrowref14_CheckWindow.er := by kernel_rfl
theorem rules_numbers : trFun Pg [] [] I.rules_numbers = some F.rules_numbers.er := by kernel_rfl
theorem rules_peers : trFun Pg [] [] I.rules_peers = some F.rules_peers.er := by kernel_rfl
theorem rules_fields : trFun Pg [] [] I.rules_fields = some F.rules_fields.er := by kernel_rfl
theorem rules_hands : trFun Pg [] [] I.rules_hands = some F.rules_hands.er := by kernel_rfl
theorem rules_sessions : trFun Pg [] [] I.rules_sessions = some F.rules_sessions.er := by kernel_rfl
theorem rules_routing : trFun Pg [] [11] I.rules_routing = some F.rules_routing.er := by kernel_rfl
theorem rules_slots : trFun Pg [] [] I.rules_slots = some F.rules_slots.er := by kernel_rfl
theorem rules_timers : trFun Pg [] [] I.rules_timers = some F.rules_timers.er := by kernel_rfl
theorem rules_load : trFun Pg [] [28, 80, 76, 75, 64, 56] I.rules_load = some F.rules_load.er := by kernel_rfl
theorem burrowref13_FormatEndpoint : trFun Pg [] [] I.burrowref13_FormatEndpoint = some F.burrowref13_FormatEndpoint.er := by kernel_rfl
theorem burrowref13_Timed : trFun Pg [] [] I.burrowref13_Timed = some F.burrowref13_Timed.er := by kernel_rfl
theorem slices_Clone_byte_byte : trFun Pg [] [] I.slices_Clone_byte_byte = some F.slices_Clone_byte_byte.er := by kernel_rfl
theorem slices_Clone_byte_byte_1 : trFun Pg [] [] I.slices_Clone_byte_byte_1 = some F.slices_Clone_byte_byte_1.er := by kernel_rfl
theorem rules_Rules : trFun Pg [] [28, 45, 39, 72] I.rules_Rules = some F.rules_Rules.er := by kernel_rfl
theorem rules_within : trFun Pg [] [] I.rules_within = some F.rules_within.er := by kernel_rfl
theorem rules_every : trFun Pg [] [] I.rules_every = some F.rules_every.er := by kernel_rfl
theorem rules_fields_1 : trFun Pg [] [21, 11, 32, 70, 85] I.rules_fields_1 = some F.rules_fields_1.er := by kernel_rfl
theorem config_FormatEndpoint : trFun Pg [] [] I.config_FormatEndpoint = some F.config_FormatEndpoint.er := by kernel_rfl
theorem slices_ContainsFunc_byte_byte : trFun Pg [] [] I.slices_ContainsFunc_byte_byte = some F.slices_ContainsFunc_byte_byte.er := by kernel_rfl
theorem rules_hands_1 : trFun Pg [] [] I.rules_hands_1 = some F.rules_hands_1.er := by kernel_rfl
theorem rules_sessions_1 : trFun Pg [] [30, 21] I.rules_sessions_1 = some F.rules_sessions_1.er := by kernel_rfl
theorem ring_Get : trFun Pg [] [] I.ring_Get = some F.ring_Get.er := by kernel_rfl
theorem rules_Session : trFun Pg [] [31] I.rules_Session = some F.rules_Session.er := by kernel_rfl
theorem routes_Valid : trFun Pg [] [29, 25, 24] I.routes_Valid = some F.routes_Valid.er := by kernel_rfl
theorem slices_ContainsFunc_api_Route_api_Route : trFun Pg [] [] I.slices_ContainsFunc_api_Route_api_Route = some F.slices_ContainsFunc_api_Route_api_Route.er := by kernel_rfl
theorem rules_routing_1 : trFun Pg [] [] I.rules_routing_1 = some F.rules_routing_1.er := by kernel_rfl
theorem rules_known : trFun Pg [] [] I.rules_known = some F.rules_known.er := by kernel_rfl
theorem index_Valid : trFun Pg [] [27, 26, 25] I.index_Valid = some F.index_Valid.er := by kernel_rfl
theorem slices_Equal_api_Slot_api_Slot : trFun Pg [] [] I.slices_Equal_api_Slot_api_Slot = some F.slices_Equal_api_Slot_api_Slot.er := by kernel_rfl
theorem rules_Slots : trFun Pg [] [] I.rules_Slots = some F.rules_Slots.er := by kernel_rfl
theorem wheel_Valid : trFun Pg [] [41, 38] I.wheel_Valid = some F.wheel_Valid.er := by kernel_rfl
theorem slices_ContainsFunc_api_Timer_api_Timer : trFun Pg [] [] I.slices_ContainsFunc_api_Timer_api_Timer = some F.slices_ContainsFunc_api_Timer_api_Timer.er := by kernel_rfl
theorem rules_timers_1 : trFun Pg [] [14] I.rules_timers_1 = some F.rules_timers_1.er := by kernel_rfl
theorem rules_timers_2 : trFun Pg [] [23] I.rules_timers_2 = some F.rules_timers_2.er := by kernel_rfl
theorem wheel_Has : trFun Pg [] [] I.wheel_Has = some F.wheel_Has.er := by kernel_rfl
theorem slices_IsSorted_int64_int64 : trFun Pg [] [] I.slices_IsSorted_int64_int64 = some F.slices_IsSorted_int64_int64.er := by kernel_rfl
theorem slices_ContainsFunc_int64_int64 : trFun Pg [] [] I.slices_ContainsFunc_int64_int64 = some F.slices_ContainsFunc_int64_int64.er := by kernel_rfl
theorem inner_Less : trFun Pg [16] [] I.inner_Less = some F.inner_Less.er := by kernel_rfl
theorem burrowref13_FormatAddr : trFun Pg [] [] I.burrowref13_FormatAddr = some F.burrowref13_FormatAddr.er := by kernel_rfl
theorem burrowref13_Decimal : trFun Pg [] [] I.burrowref13_Decimal = some F.burrowref13_Decimal.er := by kernel_rfl
theorem slices_ContainsFunc_api_Peer_api_Peer : trFun Pg [] [] I.slices_ContainsFunc_api_Peer_api_Peer = some F.slices_ContainsFunc_api_Peer_api_Peer.er := by kernel_rfl
theorem rules_every_1 : trFun Pg [] [] I.rules_every_1 = some F.rules_every_1.er := by kernel_rfl
theorem config_FormatAddr : trFun Pg [] [] I.config_FormatAddr = some F.config_FormatAddr.er := by kernel_rfl
theorem slices_IndexFunc_byte_byte : trFun Pg [] [] I.slices_IndexFunc_byte_byte = some F.slices_IndexFunc_byte_byte.er := by kernel_rfl
theorem ring_ring_places : trFun Pg [] [] I.ring_ring_places = some F.ring_ring_places.er := by kernel_rfl
theorem inner_Valid : trFun Pg [] [29] I.inner_Valid = some F.inner_Valid.er := by kernel_rfl
theorem routes_less : trFun Pg [] [] I.routes_less = some F.routes_less.er := by kernel_rfl
theorem slices_IndexFunc_api_Route_api_Route : trFun Pg [] [] I.slices_IndexFunc_api_Route_api_Route = some F.slices_IndexFunc_api_Route_api_Route.er := by kernel_rfl
theorem rules_known_1 : trFun Pg [] [] I.rules_known_1 = some F.rules_known_1.er := by kernel_rfl
theorem ring_Locals : trFun Pg [] [] I.ring_Locals = some F.ring_Locals.er := by kernel_rfl
theorem slices_SortStableFunc_api_Slot_api_Slot : trFun Pg [] [] I.slices_SortStableFunc_api_Slot_api_Slot = some F.slices_SortStableFunc_api_Slot_api_Slot.er := by kernel_rfl
theorem rules_Slots_1 : trFun Pg [] [] I.rules_Slots_1 = some F.rules_Slots_1.er := by kernel_rfl
theorem wheel_Less : trFun Pg [] [] I.wheel_Less = some F.wheel_Less.er := by kernel_rfl
theorem slices_IndexFunc_api_Timer_api_Timer : trFun Pg [] [] I.slices_IndexFunc_api_Timer_api_Timer = some F.slices_IndexFunc_api_Timer_api_Timer.er := by kernel_rfl
theorem wheel_Has_1 : trFun Pg [] [] I.wheel_Has_1 = some F.wheel_Has_1.er := by kernel_rfl
theorem wheel_timer_of : trFun Pg [] [] I.wheel_timer_of = some F.wheel_timer_of.er := by kernel_rfl
theorem slices_IndexFunc_int64_int64 : trFun Pg [] [] I.slices_IndexFunc_int64_int64 = some F.slices_IndexFunc_int64_int64.er := by kernel_rfl
theorem inner_valid : trFun Pg [] [] I.inner_valid = some F.inner_valid.er := by kernel_rfl
theorem inner_cut : trFun Pg [] [] I.inner_cut = some F.inner_cut.er := by kernel_rfl
theorem slices_IndexFunc_api_Peer_api_Peer : trFun Pg [] [] I.slices_IndexFunc_api_Peer_api_Peer = some F.slices_IndexFunc_api_Peer_api_Peer.er := by kernel_rfl
theorem config_valid : trFun Pg [] [] I.config_valid = some F.config_valid.er := by kernel_rfl
theorem ring_ring_previous : trFun Pg [] [] I.ring_ring_previous = some F.ring_ring_previous.er := by kernel_rfl
theorem ring_ring_current : trFun Pg [] [] I.ring_ring_current = some F.ring_ring_current.er := by kernel_rfl
theorem ring_ring_next : trFun Pg [] [] I.ring_ring_next = some F.ring_ring_next.er := by kernel_rfl
theorem ring_locals : trFun Pg [] [] I.ring_locals = some F.ring_locals.er := by kernel_rfl
theorem slices_stableCmpFunc_api_Slot : trFun Pg [] [] I.slices_stableCmpFunc_api_Slot = some F.slices_stableCmpFunc_api_Slot.er := by kernel_rfl
theorem wheel_timer_before : trFun Pg [26] [] I.wheel_timer_before = some F.wheel_timer_before.er := by kernel_rfl
theorem slices_insertionSortCmpFunc_api_Slot : trFun Pg [] [33, 31, 26] I.slices_insertionSortCmpFunc_api_Slot = some F.slices_insertionSortCmpFunc_api_Slot.er := by kernel_rfl
end T
end Go.Ab
