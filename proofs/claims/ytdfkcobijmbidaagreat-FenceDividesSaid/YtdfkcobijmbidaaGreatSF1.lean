/- Functions of the program as the abstract reading has them. Written by program. No condition. -/
import Derived.Test.YtdfkcobijmbidaaGreatSI
set_option maxRecDepth 100000
set_option maxHeartbeats 0
namespace Go.Ab
open Go.Ab.Q
noncomputable def F.burrowmake_Daemonl0 : ACode :=
 .seq (.seq (.region [m 38 5,
 m 39 4,
 o 40 (.bin .lss .no (x 38) (x 39))])
 (.cond (x 40)
 (.skip)
 (.exit 0)))
 (.seq (.block 1 (.seq (.region [m 43 5,
 c 44 I.burrowmake_Peer [(x 43)],
 m 45 0,
 c 46 I.burrowcase_Codes_Next [(x 45), (.c (.int .i64 8))],
 o 47 (.bin .gtr .no (x 46) (.c z4)),
 u 48 (.build (.st 464 [z32, z32, (.bl false), (.st 18 [(.st 17 [(.bl false), z16]), z4]), z4, z12, (.bl false), z4, (.st 100 [(.bl false), (.int .u32 0), z32, (.st 64 [z32, z32]), z4, z4]), (.bl false), z16, z4, z16, zR, (.sl 1 [] true)]) [(0, (x 44)), (2, (x 47))]),
 u 6 (.alloc (.st 464 [z32, z32, (.bl false), (.st 18 [(.st 17 [(.bl false), z16]), z4]), z4, z12, (.bl false), z4, (.st 100 [(.bl false), (.int .u32 0), z32, (.st 64 [z32, z32]), z4, z4]), (.bl false), z16, z4, z16, zR, (.sl 1 [] true)])),
 ⟨none, none, false, .store 464 (x 6) (x 48)⟩])
 (.seq (.seq (.region [f 49 2 64 6,
 l 50 49])
 (.cond (x 50)
 (.region [m 51 5,
 c 52 I.burrowmake_At [(x 51)],
 f 53 3 65 6,
 ⟨none, none, false, .store 18 (x 53) (x 52)⟩])
 (.skip)))
 (.seq (.seq (.region [m 54 0,
 c 55 I.burrowcase_Codes_Next [(x 54), (.c (.int .i64 4))],
 o 56 (.bin .eql .no (x 55) (.c (.int .i64 1)))])
 (.cond (x 56)
 (.seq (.region [m 57 0,
 c 58 I.burrowcase_Codes_Next [(x 57), (.c (.int .i64 30))],
 o 59 (.bin .add .no (.c (.int .i64 1)) (x 58)),
 o 60 (.bin .mul .no (.c (.int .i64 1000)) (x 59)),
 f 61 4 83 6,
 ⟨none, none, false, .store 1 (x 61) (x 60)⟩])
 (.regionD [f 62 9 111 3,
 l 63 62,
 f 64 5 107 3,
 l 65 64,
 o 66 (.bin .add .no (x 65) (.c (.int .i64 1))),
 m 67 0,
 c 68 I.burrowcase_Codes_Next [(x 67), (.c (.int .i64 200))],
 o 69 (.bin .mul .no (x 68) (.c (.int .i64 10))),
 o 70 (.bin .add .no (x 66) (x 69)),
 f 71 0 0 6,
 o 72 (.load true 32 (x 71)),
 u 73 (.build (.st 34 [z4, z32, z4]) [(0, (x 70)), (1, (x 72)), (2, (.c (.int .i64 4)))]),
 q 74 I.burrowref14_Set [(x 63), (x 73)],
 f 75 9 111 3,
 ⟨none, none, false, .store 1 (x 75) (x 74)⟩] [0, 1, 2, 3, 4, 5, 9, 10, 6, 7, 8, 11, 12, 13, 14] [0, 1, 2, 3, 9, 10, 6]))
 (.skip)))
 (.seq (.region [f 76 6 108 3,
 l 77 76,
 o 78 (.load true 464 (x 6)),
 u 79 (.buildSlice false 464 (.st 464 [z32, z32, (.bl false), (.st 18 [(.st 17 [(.bl false), z16]), z4]), z4, z12, (.bl false), z4, (.st 100 [(.bl false), (.int .u32 0), z32, (.st 64 [z32, z32]), z4, z4]), (.bl false), z16, z4, z16, zR, (.sl 1 [] true)]) 1 [(0, (x 78))]),
 u 80 (.append 464 808 false (x 77) (x 79)),
 f 81 6 108 3,
 ⟨none, none, false, .store 1 (x 81) (x 80)⟩])
 (.region [f 83 7 109 3,
 l 84 83,
 m 85 5,
 o 86 (.bin .add .no (x 85) (.c (.int .i64 1))),
 q 87 I.burrowcase_Host [(x 86), (.c z4)],
 q 88 I.burrowcase_Masked [(x 87), (.c (.int .i64 16))],
 f 89 0 0 6,
 o 90 (.load true 32 (x 89)),
 q 91 I.burrowref14_InsertRoute [(x 84), (x 88), (x 90)],
 m 82 91,
 o 92 (.extract 0 (x 82)),
 o 93 (.extract 1 (x 82)),
 f 94 7 109 3,
 ⟨none, none, false, .store 1 (x 94) (x 92)⟩]))))))
 (.region [m 41 5,
 o 42 (.bin .add .no (x 41) (.c (.int .i64 1))),
 m 5 42]))
noncomputable def F.burrowmake_Daemonl1 : ACode :=
 .seq (.seq (.region [m 102 8,
 o 103 (.bin .gtr .no (x 102) (.c z4))])
 (.cond (x 103)
 (.skip)
 (.exit 4)))
 (.seq (.block 5 (.regionD [o 107 (.load true 148 (x 3)),
 m 108 7,
 q 109 I.burrowmake_Peer [(x 108)],
 m 110 0,
 o 111 (.load true 148 (x 3)),
 m 112 7,
 o 113 (.bin .mul .no (.c (.int .i64 10)) (x 112)),
 m 114 8,
 o 115 (.bin .add .no (x 113) (x 114)),
 o 116 (.convI .u32 (x 115)),
 c 117 I.burrowmake_Session [(x 110), (x 111), (x 116)],
 m 118 0,
 c 119 I.burrowcase_Codes_Bool [(x 118)],
 q 120 I.burrowref24_Install [(x 107), (x 109), (x 117), (x 119)],
 m 106 120,
 o 121 (.extract 0 (x 106)),
 o 122 (.extract 1 (x 106)),
 ⟨none, none, false, .store 148 (x 3) (x 121)⟩] [0, 1, 2, 3, 4, 5, 6, 7, 8, 9, 11, 10, 12, 13, 14, 15, 16, 17] [0, 10, 12]))
 (.region [m 104 8,
 o 105 (.bin .sub .no (x 104) (.c (.int .i64 1))),
 m 8 105]))
noncomputable def F.burrowmake_Daemonc2 : ACode :=
 .region [m 98 7,
 o 99 (.bin .add .no (x 98) (.c (.int .i64 1))),
 m 7 99]
noncomputable def F.burrowmake_Daemonl3 : ACode :=
 .seq (.seq (.region [m 95 7,
 m 96 4,
 o 97 (.bin .lss .no (x 95) (x 96))])
 (.cond (x 97)
 (.skip)
 (.exit 2)))
 (.seq (.block 3 (.seq (.region [m 100 0,
 c 101 I.burrowcase_Codes_Next [(x 100), (.c (.int .i64 4))],
 m 8 101])
 (.block 4 (.loop F.burrowmake_Daemonl1))))
 F.burrowmake_Daemonc2)
noncomputable def F.burrowmake_Daemonc4 : ACode :=
 .seq (.region [o 123 (.load true 148 (x 3)),
 ⟨none, none, false, .store 148 (x 2) (x 123)⟩])
 (.ret)
noncomputable def F.burrowmake_Daemonc5 : ACode :=
 .seq (.seq (.region [o 7 (.mv (.c z4))])
 (.block 2 (.loop F.burrowmake_Daemonl3)))
 F.burrowmake_Daemonc4
noncomputable def F.burrowmake_Daemon : AFun :=
 ⟨124, [.load true 148 (x 2)],
 .seq (.region [u 2 (.alloc (.st 148 [(.st 10 [z8, z8, z4, z4, z4, z4, z4, z4, z4, z4]), z32, z32, z4, z32, z4, (.sl 464 [] true), (.sl 50 [] true), (.sl 34 [] true), (.sl 34 [] true), z32, z4, (.sl 1 [] true), (.sl 19 [] true), z4]))])
 (.seq (.region [m 9 0,
 c 10 I.burrowcase_Codes_Rules [(x 9)],
 m 11 0,
 c 12 I.burrowcase_Codes_Key [(x 11)],
 m 13 0,
 c 14 I.burrowcase_Codes_Key [(x 13)],
 m 15 0,
 c 16 I.burrowcase_Codes_Big [(x 15), (.c (.int .i64 65536))],
 m 17 0,
 c 18 I.burrowcase_Codes_Key [(x 17)],
 m 19 0,
 c 20 I.burrowcase_Codes_Big [(x 19), (.c (.int .i64 16777216))],
 u 21 (.build (.st 148 [(.st 10 [z8, z8, z4, z4, z4, z4, z4, z4, z4, z4]), z32, z32, z4, z32, z4, (.sl 464 [] true), (.sl 50 [] true), (.sl 34 [] true), (.sl 34 [] true), z32, z4, (.sl 1 [] true), (.sl 19 [] true), z4]) [(0, (x 10)), (1, (x 12)), (2, (x 14)), (3, (x 16)), (4, (x 18)), (5, (x 20))]),
 u 3 (.alloc (.st 148 [(.st 10 [z8, z8, z4, z4, z4, z4, z4, z4, z4, z4]), z32, z32, z4, z32, z4, (.sl 464 [] true), (.sl 50 [] true), (.sl 34 [] true), (.sl 34 [] true), z32, z4, (.sl 1 [] true), (.sl 19 [] true), z4])),
 ⟨none, none, false, .store 148 (x 3) (x 21)⟩])
 (.seq (.regionD [m 22 0,
 c 23 I.burrowcase_Codes_Key [(x 22)],
 f 24 5 107 3,
 l 25 24,
 m 26 0,
 c 27 I.burrowcase_Codes_Next [(x 26), (.c (.int .i64 2))],
 f 28 5 107 3,
 l 29 28,
 o 30 (.mm false [(x 29), (.c (.int .i64 20000))]),
 o 31 (.bin .mul .no (x 27) (x 30)),
 o 32 (.bin .sub .no (x 25) (x 31)),
 f 33 10 112 3,
 ⟨none, none, false, .store 32 (x 33) (x 23)⟩,
 f 34 11 144 3,
 ⟨none, none, false, .store 1 (x 34) (x 32)⟩] [0, 2, 3, 4, 6, 7, 8, 1, 11, 5, 9, 10, 12, 13, 14] [2, 3, 6, 7, 11, 1, 5])
 (.seq (.region [m 35 0,
 c 36 I.burrowcase_Codes_Next [(x 35), (.c (.int .i64 2))],
 o 37 (.bin .add .no (.c (.int .i64 2)) (x 36)),
 m 4 37])
 (.seq (.seq (.region [o 5 (.mv (.c z4))])
 (.block 0 (.loop F.burrowmake_Daemonl0)))
 F.burrowmake_Daemonc5))))⟩
theorem T.burrowmake_Daemon : trFun Pg [68, 117, 119, 23, 27] [] I.burrowmake_Daemon = some F.burrowmake_Daemon.er := by kernel_rfl
noncomputable def F.burrowref24_hand : AFun := (⟨_, by cbv⟩ : RF Pg [] [] I.burrowref24_hand).1
theorem T.burrowref24_hand : trFun Pg [] [] I.burrowref24_hand = some F.burrowref24_hand.er := rd_er (by kernel_rfl)
noncomputable def F.burrowref22_Locals : AFun := (⟨_, by cbv⟩ : RF Pg [] [] I.burrowref22_Locals).1
theorem T.burrowref22_Locals : trFun Pg [] [] I.burrowref22_Locals = some F.burrowref22_Locals.er := rd_er (by kernel_rfl)
noncomputable def F.burrowref24_Copy : AFun :=
 ⟨63, [.load true 148 (x 2)], .seq (.region [u 1 (.box (x 0)), u 2 (.alloc (.st 148 [(.st 10 [z8, z8, z4, z4, z4, z4, z4, z4, z4, z4]), z32, z32, z4, z32, z4, (.sl 464 [] true), (.sl 50 [] true), (.sl 34 [] true), (.sl 34 [] true), z32, z4, (.sl 1 [] true), (.sl 19 [] true), z4]))]) (.seq (.region [f 7 6 108 1, l 8 7, u 9 (.append 464 808 false (.c (.sl 0 [] true)) (x 8)), f 10 6 108 1, ⟨none, none, false, .store 1 (x 10) (x 9)⟩]) (.seq (.seq (.region [f 11 6 108 1, l 12 11, o 13 (.len (x 12)), o 14 (.mv (.c z4))]) (.block 0 (.loop (lk (.seq (.region [o 15 (.bin .lss .no (x 14) (x 13))]) (.seq (.cond (x 15) (.skip) (.exit 0)) (.seq (.block 1 (.seq (.region [m 16 14, m 3 16]) (.seq (.region [o 4 (.mv (.c (.sl 1 [] true)))]) (.seq (.seq (.region [f 17 6 108 1, l 18 17, m 19 3, u 20 (.indexA (.sl 464) (x 18) (x 19)), f 21 14 463 20, l 22 21, o 23 (.len (x 22)), o 24 (.mv (.c z4))]) (.block 2 (.loop (lk (.seq (.region [o 25 (.bin .lss .no (x 24) (x 23))]) (.seq (.cond (x 25) (.skip) (.exit 2)) (.seq (.block 3 (.seq (.region [u 26 (.indexA (.sl 1) (x 22) (x 24)), l 27 26, m 6 27]) (.region [m 28 4, u 29 (.buildSlice false 1 (.int .u8 0) 0 []), m 30 6, u 31 (.append 1 1 false (x 29) (x 30)), u 32 (.buildSlice false 1 (.sl 1 [] true) 1 [(0, (x 31))]), u 33 (.append 1 24 false (x 28) (x 32)), m 4 33]))) (.region [o 34 (.bin .add .no (x 24) (.c (.int .i64 1))), m 24 34])))))))) (lk (.region [f 35 6 108 1, l 36 35, m 37 3, m 38 4, u 39 (.indexA (.sl 464) (x 36) (x 37)), f 40 14 463 39, ⟨none, none, false, .store 1 (x 40) (x 38)⟩])))))) (lk (.region [o 41 (.bin .add .no (x 14) (.c (.int .i64 1))), m 14 41]))))))))) (lk (.seq (.regionD [f 42 7 109 1, l 43 42, u 44 (.append 50 64 false (.c (.sl 0 [] true)) (x 43)), f 45 8 110 1, l 46 45, u 47 (.append 34 40 false (.c (.sl 0 [] true)) (x 46)), f 48 7 109 1, ⟨none, none, false, .store 1 (x 48) (x 44)⟩, f 49 8 110 1, ⟨none, none, false, .store 1 (x 49) (x 47)⟩] [0, 1, 3, 4, 2, 6, 5, 7, 8, 9] [3, 4, 6, 2, 5]) (.seq (.regionD [f 50 9 111 1, l 51 50, u 52 (.append 34 48 false (.c (.sl 0 [] true)) (x 51)), f 53 12 145 1, l 54 53, u 55 (.append 1 8 false (.c (.sl 0 [] true)) (x 54)), f 56 9 111 1, ⟨none, none, false, .store 1 (x 56) (x 52)⟩, f 57 12 145 1, ⟨none, none, false, .store 1 (x 57) (x 55)⟩] [0, 1, 3, 4, 2, 6, 5, 7, 8, 9] [3, 4, 6, 2, 5]) (.seq (.region [f 58 13 146 1, l 59 58, u 60 (.append 19 40 false (.c (.sl 0 [] true)) (x 59)), f 61 13 146 1, ⟨none, none, false, .store 1 (x 61) (x 60)⟩]) (.seq (.region [o 62 (.load true 148 (x 1)), ⟨none, none, false, .store 148 (x 2) (x 62)⟩]) (.ret))))))))⟩
theorem T.burrowref24_Copy : trFun Pg [] [] I.burrowref24_Copy = some F.burrowref24_Copy.er := rd_er (by kernel_rfl)
noncomputable def F.burrowcase_Codes_Big : AFun := (⟨_, by cbv⟩ : RF Pg [] [] I.burrowcase_Codes_Big).1
theorem T.burrowcase_Codes_Big : trFun Pg [] [] I.burrowcase_Codes_Big = some F.burrowcase_Codes_Big.er := rd_er (by kernel_rfl)
noncomputable def F.burrowref14_Set : AFun :=
 ⟨39, [.mv (x 4)], .seq (.region [u 3 (.box (x 1)), o 4 (.mv (.c (.sl 34 [] true)))]) (.seq (.region [m 7 0, f 8 1 1 3, o 9 (.load true 32 (x 8)), f 10 2 33 3, l 11 10, c 12 I.burrowref14_Cancel [(x 7), (x 9), (x 11)], m 5 12]) (.seq (.region [o 6 (.mv (.c z4))]) (.seq (.block 0 (.loop (lk (.seq (.seq (.region [m 13 6, m 14 5, o 15 (.len (x 14)), o 16 (.bin .lss .no (x 13) (x 15)), m 17 16, g 18 17 true true (.load true 34 (x 3)), g 19 17 true true (.mv (x 5)), g 20 17 true true (.mv (x 6)), g 21 17 true false (.indexA (.sl 34) (x 19) (x 20)), g 22 17 true false (.load true 34 (x 21)), g 23 17 true false (.callq (.c (.fn (.func I.burrowref14_LessTimer) [] [])) [(x 18), (x 22)]), g 24 17 true false (.un .not (x 23)), o 25 (.pick (x 17) (x 24) (.c (.bl false)))]) (.cond (x 25) (.skip) (.exit 0))) (.block 1 (.region [m 26 6, o 27 (.bin .add .no (x 26) (.c (.int .i64 1))), m 6 27])))))) (lk (.seq (.regionD [m 28 5, m 29 6, m 30 6, u 31 (.slice (.sl 34) (x 28) none (some (x 29)) (some (x 30))), o 32 (.load true 34 (x 3)), u 33 (.buildSlice true 34 (.st 34 [z4, z32, z4]) 1 [(0, (x 32))]), m 34 5, m 35 6, u 36 (.slice (.sl 34) (x 34) (some (x 35)) none none), u 37 (.append 34 48 false (x 33) (x 36)), u 38 (.append 34 48 false (x 31) (x 37)), m 4 38] [0, 1, 2, 3, 4, 6, 7, 8, 5, 9, 10, 11] [3, 8, 5, 9]) (.ret))))))⟩
theorem T.burrowref14_Set : trFun Pg [33] [24, 22] I.burrowref14_Set = some F.burrowref14_Set.er := rd_er (by kernel_rfl)
noncomputable def F.burrowref24_Install : AFun :=
 ⟨102, [.load true 148 (x 8), .mv (x 9)], .seq (.region [u 4 (.box (x 0)), u 5 (.box (x 1)), u 6 (.box (x 2)), u 8 (.alloc (.st 148 [(.st 10 [z8, z8, z4, z4, z4, z4, z4, z4, z4, z4]), z32, z32, z4, z32, z4, (.sl 464 [] true), (.sl 50 [] true), (.sl 34 [] true), (.sl 34 [] true), z32, z4, (.sl 1 [] true), (.sl 19 [] true), z4])), o 9 (.mv (.c z4))]) (.seq (.seq (.region [o 16 (.load true 148 (x 4)), c 17 I.burrowref24_Valid [(x 16)], o 18 (.un .not (x 17))]) (.cond (x 18) (.seq (.region [u 19 (.build (.st 148 [(.st 10 [z8, z8, z4, z4, z4, z4, z4, z4, z4, z4]), z32, z32, z4, z32, z4, (.sl 464 [] true), (.sl 50 [] true), (.sl 34 [] true), (.sl 34 [] true), z32, z4, (.sl 1 [] true), (.sl 19 [] true), z4]) []), ⟨none, none, false, .store 148 (x 8) (x 19)⟩, o 9 (.mv (.c (.int .i64 13)))]) (.ret)) (.skip))) (.seq (.region [o 20 (.load true 148 (x 4)), o 21 (.load true 32 (x 5)), c 22 I.burrowref24_find [(x 20), (x 21)], m 10 22]) (.seq (.seq (.region [m 23 10, o 24 (.bin .lss .no (x 23) (.c z4))]) (.cond (x 24) (.seq (.region [u 25 (.build (.st 148 [(.st 10 [z8, z8, z4, z4, z4, z4, z4, z4, z4, z4]), z32, z32, z4, z32, z4, (.sl 464 [] true), (.sl 50 [] true), (.sl 34 [] true), (.sl 34 [] true), z32, z4, (.sl 1 [] true), (.sl 19 [] true), z4]) []), ⟨none, none, false, .store 148 (x 8) (x 25)⟩, o 9 (.mv (.c (.int .i64 8)))]) (.ret)) (.skip))) (.seq (.seq (.region [f 27 8 110 4, l 28 27, f 29 0 0 6, l 30 29, c 31 I.burrowref14_FindSlot [(x 28), (x 30)], m 26 31, o 32 (.extract 0 (x 26)), o 33 (.extract 1 (x 26)), u 11 (.alloc (.st 34 [(.int .u32 0), z32, (.bl false)])), ⟨none, none, false, .store 34 (x 11) (x 32)⟩, m 12 33]) (.seq (.region [f 34 0 0 6, l 35 34, o 36 (.bin .eql .no (x 35) (.c (.int .u32 0))), m 37 36, g 38 37 false true (.mv (x 12)), o 39 (.pick (x 37) (.c (.bl true)) (x 38))]) (.cond (x 39) (.seq (.region [u 40 (.build (.st 148 [(.st 10 [z8, z8, z4, z4, z4, z4, z4, z4, z4, z4]), z32, z32, z4, z32, z4, (.sl 464 [] true), (.sl 50 [] true), (.sl 34 [] true), (.sl 34 [] true), z32, z4, (.sl 1 [] true), (.sl 19 [] true), z4]) []), ⟨none, none, false, .store 148 (x 8) (x 40)⟩, o 9 (.mv (.c (.int .i64 9)))]) (.ret)) (.skip)))) (.seq (.seq (.region [o 41 (.load true 148 (x 4)), o 42 (.load true 76 (x 6)), c 43 I.burrowref24_sound [(x 41), (x 42)], o 44 (.un .not (x 43))]) (.cond (x 44) (.seq (.region [u 45 (.build (.st 148 [(.st 10 [z8, z8, z4, z4, z4, z4, z4, z4, z4, z4]), z32, z32, z4, z32, z4, (.sl 464 [] true), (.sl 50 [] true), (.sl 34 [] true), (.sl 34 [] true), z32, z4, (.sl 1 [] true), (.sl 19 [] true), z4]) []), ⟨none, none, false, .store 148 (x 8) (x 45)⟩, o 9 (.mv (.c (.int .i64 1)))]) (.ret)) (.skip))) (.seq (.region [o 46 (.load true 148 (x 4)), c 47 I.burrowref24_Copy [(x 46)], u 48 (.build (.st 149 [(.st 148 [(.st 10 [z8, z8, z4, z4, z4, z4, z4, z4, z4, z4]), z32, z32, z4, z32, z4, (.sl 464 [] true), (.sl 50 [] true), (.sl 34 [] true), (.sl 34 [] true), z32, z4, (.sl 1 [] true), (.sl 19 [] true), z4]), (.sl 86 [] true)]) [(0, (x 47))]), u 13 (.alloc (.st 149 [(.st 148 [(.st 10 [z8, z8, z4, z4, z4, z4, z4, z4, z4, z4]), z32, z32, z4, z32, z4, (.sl 464 [] true), (.sl 50 [] true), (.sl 34 [] true), (.sl 34 [] true), z32, z4, (.sl 1 [] true), (.sl 19 [] true), z4]), (.sl 86 [] true)])), ⟨none, none, false, .store 149 (x 13) (x 48)⟩]) (.seq (.region [f 49 0 0 13, f 50 6 108 49, l 51 50, m 52 10, u 53 (.indexA (.sl 464) (x 51) (x 52)), m 14 53]) (.seq (.region [o 15 (.mv (.c (.sl 1 [] true)))]) (.seq (.seq (.region [m 54 3]) (.cond (x 54) (.region [m 56 14, m 57 14, o 58 (.nilCheck (x 57)), f 59 13 232 58, o 60 (.load true 231 (x 59)), o 61 (.load true 76 (x 6)), q 62 I.burrowref22_Begin [(x 60), (x 61)], m 55 62, o 63 (.extract 0 (x 55)), o 64 (.extract 1 (x 55)), o 65 (.nilCheck (x 56)), f 66 13 232 65, ⟨none, none, false, .store 231 (x 66) (x 63)⟩, m 15 64]) (.region [m 68 14, m 69 14, o 70 (.nilCheck (x 69)), f 71 13 232 70, o 72 (.load true 231 (x 71)), o 73 (.load true 76 (x 6)), q 74 I.burrowref22_Answer [(x 72), (x 73)], m 67 74, o 75 (.extract 0 (x 67)), o 76 (.extract 1 (x 67)), o 77 (.nilCheck (x 68)), f 78 13 232 77, ⟨none, none, false, .store 231 (x 78) (x 75)⟩, m 15 76]))) (.seq (.region [m 79 15, c 80 I.burrowref24_machine_drop [(x 13), (x 79)]]) (.seq (.region [f 82 0 0 13, f 83 8 110 82, l 84 83, f 85 0 0 6, l 86 85, o 87 (.load true 32 (x 5)), c 88 I.burrowref14_Take [(x 84), (x 86), (x 87), (.c (.bl true))], m 81 88, o 89 (.extract 0 (x 81)), o 90 (.extract 1 (x 81)), o 91 (.extract 2 (x 81)), f 92 0 0 13, f 93 8 110 92, ⟨none, none, false, .store 1 (x 93) (x 89)⟩]) (.seq (.region [m 94 10, f 95 0 0 4, f 96 3 3 95, l 97 96, o 98 (.bin .mul .no (.c (.int .i64 3)) (x 97)), c 99 I.burrowref24_machine_set [(x 13), (x 94), (.c (.int .i64 5)), (x 98)]]) (.seq (.region [f 100 0 0 13, o 101 (.load true 148 (x 100)), ⟨none, none, false, .store 148 (x 8) (x 101)⟩, o 9 (.mv (.c z4))]) (.ret))))))))))))))⟩
theorem T.burrowref24_Install : trFun Pg [] [] I.burrowref24_Install = some F.burrowref24_Install.er := rd_er (by kernel_rfl)
noncomputable def F.poly_wide_plus : AFun := (⟨_, by cbv⟩ : RF Pg [] [] I.poly_wide_plus).1
theorem T.poly_wide_plus : trFun Pg [] [] I.poly_wide_plus = some F.poly_wide_plus.er := rd_er (by kernel_rfl)
noncomputable def F.burrowmake_Sessions : AFun := (⟨_, by cbv⟩ : RF Pg [] [] I.burrowmake_Sessions).1
theorem T.burrowmake_Sessions : trFun Pg [] [] I.burrowmake_Sessions = some F.burrowmake_Sessions.er := rd_er (by kernel_rfl)
noncomputable def F.message_DecodeTransport : AFun := (⟨_, by cbv⟩ : RF Pg [] [] I.message_DecodeTransport).1
theorem T.message_DecodeTransport : trFun Pg [] [] I.message_DecodeTransport = some F.message_DecodeTransport.er := rd_er (by kernel_rfl)
noncomputable def F.message_EncodeTransport : AFun := (⟨_, by cbv⟩ : RF Pg [] [] I.message_EncodeTransport).1
theorem T.message_EncodeTransport : trFun Pg [] [] I.message_EncodeTransport = some F.message_EncodeTransport.er := rd_er (by kernel_rfl)
noncomputable def F.message_cursor_take : AFun := (⟨_, by cbv⟩ : RF Pg [] [] I.message_cursor_take).1
theorem T.message_cursor_take : trFun Pg [] [] I.message_cursor_take = some F.message_cursor_take.er := rd_er (by kernel_rfl)
noncomputable def F.poly_Sum : AFun :=
 ⟨67, [.load true 16 (x 4)], .seq (.region [u 2 (.box (x 0)), u 4 (.alloc z16)]) (.seq (.region [u 10 (.slice (.ar 32 1) (x 2) none (some (.c (.int .i64 8))) none), c 11 I.codec_ReadLittle [(x 10)], o 12 (.bin .and .no (x 11) (.c (.int .u64 1152921487695413247))), m 5 12]) (.seq (.region [u 13 (.slice (.ar 32 1) (x 2) (some (.c (.int .i64 8))) (some (.c (.int .i64 16))) none), c 14 I.codec_ReadLittle [(x 13)], o 15 (.bin .and .no (x 14) (.c (.int .u64 1152921487695413244))), m 6 15]) (.seq (.region [u 7 (.alloc (.ar 1 3 (zr 3 z8)))]) (.seq (.block 0 (.loop (lk (.seq (.seq (.region [m 16 1, o 17 (.len (x 16)), o 18 (.bin .gtr .no (x 17) (.c z4))]) (.cond (x 18) (.skip) (.exit 0))) (.block 1 (.seq (.region [m 19 1, o 20 (.len (x 19)), o 21 (.mm false [(x 20), (.c (.int .i64 16))]), m 8 21]) (.seq (.region [u 9 (.alloc (.ar 1 24 (zr 24 (.int .u8 0))))]) (.seq (.region [u 22 (.slice (.ar 24 1) (x 9) none none none), m 23 1, m 24 8, u 25 (.slice (.sl 1) (x 23) none (some (x 24)) none), u 26 (.copy 1 (x 22) (x 25))]) (.seq (.region [m 27 8, u 28 (.indexA (.ar 24 1) (x 9) (x 27)), ⟨none, none, false, .store 1 (x 28) (.c (.int .u8 1))⟩]) (.seq (.region [m 29 1, m 30 8, u 31 (.slice (.sl 1) (x 29) (some (x 30)) none none), m 1 31]) (.seq (.regionD [o 32 (.load true 3 (x 7)), u 33 (.slice (.ar 24 1) (x 9) (some (.c (.int .i64 8))) (some (.c (.int .i64 16))) none), c 34 I.codec_ReadLittle [(x 33)], u 35 (.slice (.ar 24 1) (x 9) none (some (.c (.int .i64 8))) none), c 36 I.codec_ReadLittle [(x 35)], u 37 (.build (.st 2 [z8, z8]) [(0, (x 34)), (1, (x 36))]), q 38 I.poly_number_add [(x 32), (x 37)], ⟨none, none, false, .store 3 (x 7) (x 38)⟩] [0, 1, 3, 2, 4, 5, 6, 7] [0, 3, 2, 4]) (.seq (.regionD [u 39 (.indexA (.ar 3 1) (x 7) (.c (.int .i64 2))), l 40 39, u 41 (.slice (.ar 24 1) (x 9) (some (.c (.int .i64 16))) none none), c 42 I.codec_ReadLittle [(x 41)], o 43 (.bin .add .no (x 40) (x 42)), u 44 (.indexA (.ar 3 1) (x 7) (.c (.int .i64 2))), ⟨none, none, false, .store 1 (x 44) (x 43)⟩] [0, 1, 2, 3, 4, 5, 6] [0, 1, 3]) (.region [o 45 (.load true 3 (x 7)), m 46 5, m 47 6, c 48 I.poly_number_times [(x 45), (x 46), (x 47)], ⟨none, none, false, .store 3 (x 7) (x 48)⟩]))))))))))))) (lk (.seq (.regionD [o 49 (.load true 3 (x 7)), q 50 I.poly_number_reduced [(x 49)], u 51 (.slice (.ar 32 1) (x 2) (some (.c (.int .i64 24))) none none), c 52 I.codec_ReadLittle [(x 51)], u 53 (.slice (.ar 32 1) (x 2) (some (.c (.int .i64 16))) (some (.c (.int .i64 24))) none), c 54 I.codec_ReadLittle [(x 53)], u 55 (.build (.st 2 [z8, z8]) [(0, (x 52)), (1, (x 54))]), q 56 I.poly_number_add [(x 50), (x 55)], ⟨none, none, false, .store 3 (x 7) (x 56)⟩] [0, 1, 2, 4, 3, 5, 6, 7, 8] [4, 3]) (.seq (.region [u 57 (.indexA (.ar 3 1) (x 7) (.c z4)), l 58 57, q 59 I.codec_Little [(x 58), (.c (.int .i64 8))], u 60 (.indexA (.ar 3 1) (x 7) (.c (.int .i64 1))), l 61 60, q 62 I.codec_Little [(x 61), (.c (.int .i64 8))], u 63 (.buildSlice false 1 (.sl 1 [] true) 2 [(0, (x 59)), (1, (x 62))]), q 64 I.codec_Join [(x 63)], o 65 (.s2a 16 1 (x 64)), o 66 (.load true 16 (x 65)), ⟨none, none, false, .store 16 (x 4) (x 66)⟩]) (.ret))))))))⟩
theorem T.poly_Sum : trFun Pg [34, 36, 42, 52, 54] [] I.poly_Sum = some F.poly_Sum.er := rd_er (by kernel_rfl)
end Go.Ab
