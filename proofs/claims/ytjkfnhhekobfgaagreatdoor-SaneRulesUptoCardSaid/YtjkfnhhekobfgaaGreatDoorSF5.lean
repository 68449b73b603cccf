/- Functions of the program as the abstract reading has them. Written by program. No condition. -/
import Derived.Test.YtjkfnhhekobfgaaGreatDoorSI
set_option maxRecDepth 100000
set_option maxHeartbeats 0
namespace Go.Ab
open Go.Ab.Q
noncomputable def F.bz:fU:=
 ⟨67,[.mv (x 6),.mv (x 7)],w ([u 4 (.box (x 1)),u 5 (.box (x 2)),o 6 (.mv (.c (.sl 50 [] true))),o 7 (.mv (i 0))]) (.seq (w ([o 11 (.load true 18 (x 4)),c 12 I.bK [(x 11)],o 13 (.un .not (x 12))]) (.cond (x 13) (w ([o 6 (.mv (.c (.sl 50 [] true))),o 7 (.mv (i 1))]) (.ret)) (.skip))) (w ([m 14 0,u 15 (.append 50 64 false (.c (.sl 0 [] true)) (x 14)),m 8 15]) (.seq (w ([m 16 8,o 17 (.len (x 16)),o 18 (.mv (i 0))]) (.block 0 (.loop (lk (w ([o 19 (.bin .lss .no (x 18) (x 17))]) (.seq (.cond (x 19) (.skip) (.exit 0)) (.seq (.block 1 (w ([m 20 18,m 9 20]) (w ([m 21 8,m 22 9,u 23 (.indexA (.sl 50) (x 21) (x 22)),f 24 0 0 23,o 25 (.load true 18 (x 24)),o 26 (.load true 18 (x 4)),o 27 (.bin .eql (.sh (.st [(.st [.b,(.ar 16 (.i .u8))]),(.i .i64)])) (x 25) (x 26))]) (.cond (x 27) (w ([m 28 8,m 29 9,o 30 (.load true 32 (x 5)),u 31 (.indexA (.sl 50) (x 28) (x 29)),f 32 1 18 31,s 32 32 30]) (w ([m 33 8,m 6 33,o 7 (.mv (i 0))]) (.ret))) (.skip))))) (.region [o 34 (.bin .add .no (x 18) (i 1)),m 18 34])))))))) (lk (.seq (w ([m 35 0,o 36 (.len (x 35)),o 37 (.bin .geq .no (x 36) (i 16))]) (.cond (x 37) (w ([o 6 (.mv (.c (.sl 50 [] true))),o 7 (.mv (i 12))]) (.ret)) (.skip))) (w ([o 10 (.mv (i 0))]) (.seq (.block 2 (.loop (lk (.seq (w ([m 38 10,m 39 8,o 40 (.len (x 39)),o 41 (.bin .lss .no (x 38) (x 40)),m 42 41,g 43 42 true true (.load true 18 (x 4)),g 44 42 true true (.mv (x 8)),g 45 42 true true (.mv (x 10)),g 46 42 true false (.indexA (.sl 50) (x 44) (x 45)),g 47 42 true false (.fieldA 0 0 (x 46)),g 48 42 true false (.load true 18 (x 47)),g 49 42 true false (.callq (.c (.fn (.func I.bu) [] [])) [(x 43),(x 48)]),g 50 42 true false (.un .not (x 49)),o 51 (.pick (x 42) (x 50) (.c (.bl false)))]) (.cond (x 51) (.skip) (.exit 2))) (.block 3 (.region [m 52 10,o 53 (.bin .add .no (x 52) (i 1)),m 10 53])))))) (lk (.seq (.regionD [m 54 8,m 55 10,m 56 10,u 57 (.slice (.sl 50) (x 54) none (some (x 55)) (some (x 56))),o 58 (.load true 18 (x 4)),o 59 (.load true 32 (x 5)),u 60 (.build (.st 50 [zE,mB]) [(0,(x 58)),(1,(x 59))]),u 61 (.buildSlice true 50 (.st 50 [zE,mB]) 1 [(0,(x 60))]),m 62 8,m 63 10,u 64 (.slice (.sl 50) (x 62) (some (x 63)) none none),u 65 (.append 50 64 false (x 61) (x 64)),u 66 (.append 50 64 false (x 57) (x 65)),m 6 66,o 7 (.mv (i 0))] [0,1,2,3,4,5,6,8,9,10,7,11,12,13,14] [3,10,7,11]) (.ret))))))))))⟩
theorem T.bz:TF [61] [50,48,47] I.bz F.bz:=aN (by kernel_rfl)
noncomputable def F.dx:=(⟨_,by cbv⟩:RF Pg [] [] I.dx).1
theorem T.dx:TF [] [] I.dx F.dx:=aN (by kernel_rfl)
noncomputable def F.bK:=(⟨_,by cbv⟩:RF Pg [] [19] I.bK).1
theorem T.bK:TF [] [19] I.bK F.bK:=aN (by kernel_rfl)
noncomputable def F.aX:=(⟨_,by cbv⟩:RF Pg [] [] I.aX).1
theorem T.aX:TF [] [] I.aX F.aX:=aN (by kernel_rfl)
noncomputable def F.cF:=(⟨_,by cbv⟩:RF Pg [] [] I.cF).1
theorem T.cF:TF [] [] I.cF F.cF:=aN (by kernel_rfl)
noncomputable def F.aZ:fU:=
 ⟨55,[.load true 6 (x 4),.mv (x 5)],w ([u 2 (.box (x 0)),u 4 (.alloc (.st 6 [(.bl false),z8,(.ar 1 4 (zr 4 z8))])),o 5 (.mv (.c (.bl false)))]) (.seq (w ([o 7 (.load true 6 (x 2)),m 8 1,c 9 I.bA [(x 7),(x 8)],o 10 (.un .not (x 9))]) (.cond (x 10) (w ([o 11 (.load true 6 (x 2)),s 6 4 11,o 5 (.mv (.c (.bl false)))]) (.ret)) (.skip))) (.seq (w ([f 12 0 0 2,l 13 12,o 14 (.un .not (x 13))]) (.cond (x 14) (.region [m 15 1,u 16 (.build (.st 6 [(.bl false),z8,(.ar 1 4 (zr 4 z8))]) [(0,(.c (.bl true))),(1,(x 15))]),s 6 2 16]) (.skip))) (.seq (w ([m 17 1,f 18 1 1 2,l 19 18,o 20 (.bin .gtr .no (x 17) (x 19))]) (.cond (x 20) (.seq (w ([o 6 (.mv (.c (.int .u64 1)))]) (.block 0 (.loop (lk (.seq (w ([m 21 6,m 22 1,u 23 (.bin .quo .no (x 22) (.c (.int .u64 64))),f 24 1 1 2,l 25 24,u 26 (.bin .quo .no (x 25) (.c (.int .u64 64))),o 27 (.bin .sub .no (x 23) (x 26)),o 28 (.mm false [(x 27),(.c (.int .u64 4))]),o 29 (.bin .leq .no (x 21) (x 28))]) (.cond (x 29) (.skip) (.exit 0))) (.seq (.block 1 (.region [f 32 1 1 2,l 33 32,u 34 (.bin .quo .no (x 33) (.c (.int .u64 64))),m 35 6,o 36 (.bin .add .no (x 34) (x 35)),u 37 (.bin .rem .no (x 36) (.c (.int .u64 4))),f 38 2 2 2,u 39 (.indexA (.ar 4 1) (x 38) (x 37)),v (.store 1 (x 39) (.c z8))])) (.region [m 30 6,o 31 (.bin .add .no (x 30) (.c (.int .u64 1))),m 6 31]))))))) (lk (.region [m 40 1,f 41 1 1 2,s 1 41 40]))) (.skip))) (lk (w ([m 42 1,u 43 (.bin .quo .no (x 42) (.c (.int .u64 64))),u 44 (.bin .rem .no (x 43) (.c (.int .u64 4))),f 45 2 2 2,u 46 (.indexA (.ar 4 1) (x 45) (x 44)),l 47 46,m 48 1,u 49 (.bin .rem .no (x 48) (.c (.int .u64 64))),u 50 (.bin .shl .no (.c (.int .u64 1)) (x 49)),o 51 (.bin .or .no (x 47) (x 50)),f 52 2 2 2,u 53 (.indexA (.ar 4 1) (x 52) (x 44)),s 1 53 51]) (w ([o 54 (.load true 6 (x 2)),s 6 4 54,o 5 (.mv (.c (.bl true)))]) (.ret)))))))⟩
theorem T.aZ:TF [] [] I.aZ F.aZ:=aN (by kernel_rfl)
noncomputable def F.aS:=(⟨_,by cbv⟩:RF Pg [] [] I.aS).1
theorem T.aS:TF [] [] I.aS F.aS:=aN (by kernel_rfl)
noncomputable def F.bY:=(⟨_,by cbv⟩:RF Pg [] [] I.bY).1
theorem T.bY:TF [] [] I.bY F.bY:=aN (by kernel_rfl)
noncomputable def F.gX:=(⟨_,by cbv⟩:RF Pg [] [29] I.gX).1
theorem T.gX:TF [] [29] I.gX F.gX:=aN (by kernel_rfl)
noncomputable def F.ek:=(⟨_,by cbv⟩:RF Pg [] [] I.ek).1
theorem T.ek:TF [] [] I.ek F.ek:=aN (by kernel_rfl)
noncomputable def F.bt:=(⟨_,by cbv⟩:RF Pg [] [] I.bt).1
theorem T.bt:TF [] [] I.bt F.bt:=aN (by kernel_rfl)
noncomputable def F.kh:dT:=
 .seq (w ([m 38 5,
 m 39 4,
 o 40 (.bin .lss .no (x 38) (x 39))])
 (.cond (x 40)
 (.skip)
 (.exit 0)))
 (.seq (.block 1 (w ([m 43 5,
 c 44 I.dD [(x 43)],
 m 45 0,
 c 46 I.aC [(x 45),(i 8)],
 o 47 (.bin .gtr .no (x 46) (i 0)),
 u 48 (.build (.st 464 [mB,mB,(.bl false),zE,z4,z12,(.bl false),z4,zH,(.bl false),BN,z4,BN,zR,(.sl 1 [] true)]) [(0,(x 44)),(2,(x 47))]),
 u 6 (.alloc (.st 464 [mB,mB,(.bl false),zE,z4,z12,(.bl false),z4,zH,(.bl false),BN,z4,BN,zR,(.sl 1 [] true)])),
 s 464 6 48])
 (.seq (w ([f 49 2 64 6,
 l 50 49])
 (.cond (x 50)
 (.region [m 51 5,
 c 52 I.eO [(x 51)],
 f 53 3 65 6,
 s 18 53 52])
 (.skip)))
 (.seq (w ([m 54 0,
 c 55 I.aC [(x 54),(i 4)],
 o 56 (.bin .eql .no (x 55) (i 1))])
 (.cond (x 56)
 (w ([m 57 0,
 c 58 I.aC [(x 57),(i 30)],
 o 59 (.bin .add .no (i 1) (x 58)),
 o 60 (.bin .mul .no (i 1000) (x 59)),
 f 61 4 83 6,
 s 1 61 60])
 (.regionD [f 62 9 111 3,
 l 63 62,
 f 64 5 107 3,
 l 65 64,
 o 66 (.bin .add .no (x 65) (i 1)),
 m 67 0,
 c 68 I.aC [(x 67),(i 200)],
 o 69 (.bin .mul .no (x 68) (i 10)),
 o 70 (.bin .add .no (x 66) (x 69)),
 f 71 0 0 6,
 o 72 (.load true 32 (x 71)),
 u 73 (.build (.st 34 [z4,mB,z4]) [(0,(x 70)),(1,(x 72)),(2,(i 4))]),
 q 74 I.dC [(x 63),(x 73)],
 f 75 9 111 3,
 s 1 75 74] [0,1,2,3,4,5,9,10,6,7,8,11,12,13,14] [0,1,2,3,9,10,6]))
 (.skip)))
 (w ([f 76 6 108 3,
 l 77 76,
 o 78 (.load true 464 (x 6)),
 u 79 (.buildSlice false 464 (.st 464 [mB,mB,(.bl false),zE,z4,z12,(.bl false),z4,zH,(.bl false),BN,z4,BN,zR,(.sl 1 [] true)]) 1 [(0,(x 78))]),
 u 80 (.append 464 808 false (x 77) (x 79)),
 f 81 6 108 3,
 s 1 81 80])
 (.region [f 83 7 109 3,
 l 84 83,
 m 85 5,
 o 86 (.bin .add .no (x 85) (i 1)),
 q 87 I.en [(x 86),(i 0)],
 q 88 I.cG [(x 87),(i 16)],
 f 89 0 0 6,
 o 90 (.load true 32 (x 89)),
 q 91 I.bz [(x 84),(x 88),(x 90)],
 m 82 91,
 o 92 (.extract 0 (x 82)),
 o 93 (.extract 1 (x 82)),
 f 94 7 109 3,
 s 1 94 92]))))))
 (.region [m 41 5,
 o 42 (.bin .add .no (x 41) (i 1)),
 m 5 42]))
noncomputable def F.kg:dT:=
 .seq (w ([m 102 8,
 o 103 (.bin .gtr .no (x 102) (i 0))])
 (.cond (x 103)
 (.skip)
 (.exit 4)))
 (.seq (.block 5 (.regionD [o 107 (.load true 148 (x 3)),
 m 108 7,
 q 109 I.dD [(x 108)],
 m 110 0,
 o 111 (.load true 148 (x 3)),
 m 112 7,
 o 113 (.bin .mul .no (i 10) (x 112)),
 m 114 8,
 o 115 (.bin .add .no (x 113) (x 114)),
 o 116 (.convI .u32 (x 115)),
 c 117 I.dI [(x 110),(x 111),(x 116)],
 m 118 0,
 c 119 I.cR [(x 118)],
 q 120 I.ej [(x 107),(x 109),(x 117),(x 119)],
 m 106 120,
 o 121 (.extract 0 (x 106)),
 o 122 (.extract 1 (x 106)),
 s 148 3 121] [0,1,2,3,4,5,6,7,8,9,11,10,12,13,14,15,16,17] [0,10,12]))
 (.region [m 104 8,
 o 105 (.bin .sub .no (x 104) (i 1)),
 m 8 105]))
noncomputable def F.mM:dT:=
 .region [m 98 7,
 o 99 (.bin .add .no (x 98) (i 1)),
 m 7 99]
noncomputable def F.kf:dT:=
 .seq (w ([m 95 7,
 m 96 4,
 o 97 (.bin .lss .no (x 95) (x 96))])
 (.cond (x 97)
 (.skip)
 (.exit 2)))
 (.seq (.block 3 (w ([m 100 0,
 c 101 I.aC [(x 100),(i 4)],
 m 8 101])
 (.block 4 (.loop F.kg))))
 F.mM)
noncomputable def F.mN:dT:=
 w ([o 123 (.load true 148 (x 3)),
 s 148 2 123])
 (.ret)
noncomputable def F.ke:dT:=
 .seq (w ([o 7 (.mv (i 0))])
 (.block 2 (.loop F.kf)))
 F.mN
noncomputable def F.ec:fU:=
 ⟨124,[.load true 148 (x 2)],
 w ([u 2 (.alloc zM)])
 (w ([m 9 0,
 c 10 I.dy [(x 9)],
 m 11 0,
 c 12 I.bQ [(x 11)],
 m 13 0,
 c 14 I.bQ [(x 13)],
 m 15 0,
 c 16 I.cZ [(x 15),(i 65536)],
 m 17 0,
 c 18 I.bQ [(x 17)],
 m 19 0,
 c 20 I.cZ [(x 19),(i 16777216)],
 u 21 (.build zM [(0,(x 10)),(1,(x 12)),(2,(x 14)),(3,(x 16)),(4,(x 18)),(5,(x 20))]),
 u 3 (.alloc zM),
 s 148 3 21])
 (.seq (.regionD [m 22 0,
 c 23 I.bQ [(x 22)],
 f 24 5 107 3,
 l 25 24,
 m 26 0,
 c 27 I.aC [(x 26),(i 2)],
 f 28 5 107 3,
 l 29 28,
 o 30 (.mm false [(x 29),(i 20000)]),
 o 31 (.bin .mul .no (x 27) (x 30)),
 o 32 (.bin .sub .no (x 25) (x 31)),
 f 33 10 112 3,
 s 32 33 23,
 f 34 11 144 3,
 s 1 34 32] [0,2,3,4,6,7,8,1,11,5,9,10,12,13,14] [2,3,6,7,11,1,5])
 (w ([m 35 0,
 c 36 I.aC [(x 35),(i 2)],
 o 37 (.bin .add .no (i 2) (x 36)),
 m 4 37])
 (.seq (w ([o 5 (.mv (i 0))])
 (.block 0 (.loop F.kh)))
 F.ke))))⟩
theorem T.ec:jI Pg [68,117,119,23,27] [] I.ec=some F.ec.er:=by kernel_rfl
noncomputable def F.dE:fU:=
 ⟨31,[.load true 231 (x 4),.mv (x 5)],w ([u 2 (.box (x 0)),u 3 (.box (x 1)),u 4 (.alloc zR),o 5 (.mv (.c (.sl 1 [] true)))]) (w ([o 7 (.load true 76 (x 3)),u 8 (.build zP [(0,(.c (.bl true))),(1,(x 7))]),u 6 (.alloc zP),s 77 6 8]) (.seq (w ([f 9 2 154 2,f 10 0 0 9,l 11 10]) (.cond (x 11) (w ([f 12 2 154 2,o 13 (.load true 77 (x 12)),o 14 (.load true 77 (x 6)),u 15 (.build zR [(0,(x 13)),(1,(x 14))]),f 16 0 0 2,o 17 (.load true 77 (x 16)),f 18 1 77 2,o 19 (.load true 77 (x 18)),u 20 (.buildSlice false 77 zP 2 [(0,(x 17)),(1,(x 19))]),q 21 I.bR [(x 20)],s 231 4 15,m 5 21]) (.ret)) (.skip))) (w ([f 22 1 77 2,o 23 (.load true 77 (x 22)),q 24 I.de [(x 23)],o 25 (.load true 77 (x 6)),u 26 (.build zR [(0,(x 24)),(1,(x 25))]),f 27 0 0 2,o 28 (.load true 77 (x 27)),u 29 (.buildSlice false 77 zP 1 [(0,(x 28))]),q 30 I.bR [(x 29)],s 231 4 26,m 5 30]) (.ret))))⟩
theorem T.dE:TF [] [] I.dE F.dE:=aN (by kernel_rfl)
noncomputable def F.fR:=(⟨_,by cbv⟩:RF Pg [] [] I.fR).1
theorem T.fR:TF [] [] I.fR F.fR:=aN (by kernel_rfl)
noncomputable def F.fL:=(⟨_,by cbv⟩:RF Pg [] [] I.fL).1
theorem T.fL:TF [] [] I.fL F.fL:=aN (by kernel_rfl)
noncomputable def F.b7:=(⟨_,by cbv⟩:RF Pg [] [] I.b7).1
theorem T.b7:TF [] [] I.b7 F.b7:=aN (by kernel_rfl)
noncomputable def F.bh:=(⟨_,by cbv⟩:RF Pg [] [] I.bh).1
theorem T.bh:TF [] [] I.bh F.bh:=aN (by kernel_rfl)
noncomputable def F.fw:=(⟨_,by cbv⟩:RF Pg [] [] I.fw).1
theorem T.fw:TF [] [] I.fw F.fw:=aN (by kernel_rfl)
noncomputable def F.jC:=(⟨_,by cbv⟩:RF Pg [] [] I.jC).1
theorem T.jC:TF [] [] I.jC F.jC:=aN (by kernel_rfl)
noncomputable def F.fT:=(⟨_,by cbv⟩:RF Pg [] [] I.fT).1
theorem T.fT:TF [] [] I.fT F.fT:=aN (by kernel_rfl)
noncomputable def F.ie:=(⟨_,by cbv⟩:RF Pg [] [] I.ie).1
theorem T.ie:TF [] [] I.ie F.ie:=aN (by kernel_rfl)
noncomputable def F.dF:=(⟨_,by cbv⟩:RF Pg [] [] I.dF).1
theorem T.dF:TF [] [] I.dF F.dF:=aN (by kernel_rfl)
noncomputable def F.ef:=(⟨_,by cbv⟩:RF Pg [26] [] I.ef).1
theorem T.ef:TF [26] [] I.ef F.ef:=aN (by kernel_rfl)
noncomputable def F.eD:fU:=
 ⟨102,[.mv (x 10),.mv (x 11)],w ([o 10 (.mv (.c (.sl 1 [] true))),o 11 (.mv (.c (.str [])))]) (.seq (w ([m 19 2,o 20 (.bin .lss .no (x 19) (i 2)),m 21 20,g 22 21 false true (.mv (x 2)),g 23 21 false true (.bin .eql .no (x 22) (i 10)),o 24 (.pick (x 21) (.c (.bl true)) (x 23)),m 25 24,g 26 25 false true (.mv (x 2)),g 27 25 false true (.bin .gtr .no (x 26) (i 36)),o 28 (.pick (x 25) (.c (.bl true)) (x 27))]) (.cond (x 28) (.region [o 29 (.len (.c (.bl true))),⟨none,none,true,.len (.c (.bl true))⟩]) (.skip))) (w ([u 12 (.alloc (.ar 1 65 (zr 65 (.int .u8 0))))]) (w ([o 13 (.mv (i 65))]) (.seq (w ([m 30 3]) (.cond (x 30) (.region [m 31 1,o 32 (.un .neg (x 31)),m 1 32]) (.skip))) (.seq (w ([m 33 2,c 34 I.dz [(x 33)]]) (.cond (x 34) (w ([m 35 2,o 36 (.convI .u64 (x 35)),c 37 I.kU [(x 36)],o 38 (.convI .u64 (x 37)),m 14 38]) (w ([m 39 2,o 40 (.convI .u64 (x 39)),m 15 40]) (w ([m 41 2,o 42 (.convI .u64 (x 41)),o 43 (.bin .sub .no (x 42) (.c (.int .u64 1))),m 16 43]) (.seq (.block 0 (.loop (lk (.seq (w ([m 44 1,m 45 15,o 46 (.bin .geq .no (x 44) (x 45))]) (.cond (x 46) (.skip) (.exit 0))) (.block 1 (w ([m 47 13,o 48 (.bin .sub .no (x 47) (i 1)),m 13 48]) (w ([m 49 13,m 50 1,m 51 16,o 52 (.bin .and .no (x 50) (x 51)),u 53 (.indexS (.c (.str [48,49,50,51,52,53,54,55,56,57,97,98,99,100,101,102,103,104,105,106,107,108,109,110,111,112,113,114,115,116,117,118,119,120,121,122])) (x 52)),u 54 (.indexA (.ar 65 1) (x 12) (x 49)),s 1 54 53]) (.region [m 55 1,m 56 14,u 57 (.bin .shr .no (x 55) (x 56)),m 1 57])))))))) (lk (w ([m 58 13,o 59 (.bin .sub .no (x 58) (i 1)),m 13 59]) (.region [m 60 13,m 61 1,u 62 (.indexS (.c (.str [48,49,50,51,52,53,54,55,56,57,97,98,99,100,101,102,103,104,105,106,107,108,109,110,111,112,113,114,115,116,117,118,119,120,121,122])) (x 61)),u 63 (.indexA (.ar 65 1) (x 12) (x 60)),s 1 63 62]))))))) (w ([m 64 2,o 65 (.convI .u64 (x 64)),m 17 65]) (.seq (.block 2 (.loop (lk (.seq (w ([m 66 1,m 67 17,o 68 (.bin .geq .no (x 66) (x 67))]) (.cond (x 68) (.skip) (.exit 2))) (.block 3 (w ([m 69 13,o 70 (.bin .sub .no (x 69) (i 1)),m 13 70]) (w ([m 71 1,m 72 17,u 73 (.bin .quo .no (x 71) (x 72)),m 18 73]) (w ([m 74 13,m 75 1,m 76 18,m 77 17,o 78 (.bin .mul .no (x 76) (x 77)),o 79 (.bin .sub .no (x 75) (x 78)),u 80 (.indexS (.c (.str [48,49,50,51,52,53,54,55,56,57,97,98,99,100,101,102,103,104,105,106,107,108,109,110,111,112,113,114,115,116,117,118,119,120,121,122])) (x 79)),u 81 (.indexA (.ar 65 1) (x 12) (x 74)),s 1 81 80]) (.region [m 82 18,m 1 82]))))))))) (lk (w ([m 83 13,o 84 (.bin .sub .no (x 83) (i 1)),m 13 84]) (.region [m 85 13,m 86 1,u 87 (.indexS (.c (.str [48,49,50,51,52,53,54,55,56,57,97,98,99,100,101,102,103,104,105,106,107,108,109,110,111,112,113,114,115,116,117,118,119,120,121,122])) (x 86)),u 88 (.indexA (.ar 65 1) (x 12) (x 85)),s 1 88 87]))))))) (lk (.seq (w ([m 89 3]) (.cond (x 89) (w ([m 90 13,o 91 (.bin .sub .no (x 90) (i 1)),m 13 91]) (.region [m 92 13,u 93 (.indexA (.ar 65 1) (x 12) (x 92)),v (.store 1 (x 93) (.c (.int .u8 45)))])) (.skip))) (.seq (w ([m 94 4]) (.cond (x 94) (w ([m 95 0,m 96 13,u 97 (.slice (.ar 65 1) (x 12) (some (x 96)) none none),u 98 (.append 1 1 false (x 95) (x 97)),m 10 98]) (.ret)) (.skip))) (w ([m 99 13,u 100 (.slice (.ar 65 1) (x 12) (some (x 99)) none none),o 101 (.convS (x 100)),m 11 101]) (.ret))))))))))⟩
theorem T.eD:TF [] [] I.eD F.eD:=aN (by kernel_rfl)
noncomputable def F.bT:=(⟨_,by cbv⟩:RF Pg [] [] I.bT).1
theorem T.bT:TF [] [] I.bT F.bT:=aN (by kernel_rfl)
noncomputable def F.fM:=(⟨_,by cbv⟩:RF Pg [] [] I.fM).1
theorem T.fM:TF [] [] I.fM F.fM:=aN (by kernel_rfl)
noncomputable def F.fx:=(⟨_,by cbv⟩:RF Pg [] [] I.fx).1
theorem T.fx:TF [] [] I.fx F.fx:=aN (by kernel_rfl)
noncomputable def F.gz:fU:=
 ⟨82,[.mv (x 2)],w ([u 1 (.box (x 0)),o 2 (.mv (.c (.bl false)))]) (.seq (.block 0 (w ([f 4 0 0 1,l 5 4,o 6 (.bin .lss .no (x 5) (.c (.int .u64 1))),m 7 6,g 8 7 false true (.fieldA 0 0 (x 1)),k 9 7 false 8,g 10 7 false true (.fieldA 1 1 (x 1)),k 11 7 false 10,g 12 7 false true (.bin .gtr .no (x 9) (x 11)),o 13 (.pick (x 7) (.c (.bl true)) (x 12)),m 14 13,g 15 14 false true (.fieldA 1 1 (x 1)),k 16 14 false 15,g 17 14 false true (.bin .gtr .no (x 16) (.c (.int .u64 18446744073709543423))),o 18 (.pick (x 14) (.c (.bl true)) (x 17)),m 3 18]) (.cond (x 3) (w ([o 2 (.mv (.c (.bl false)))]) (.ret)) (w ([f 20 5 5 1,l 21 20,c 22 I.cr [(x 21),(i 1000),(i 1073741824)],o 23 (.un .not (x 22)),m 24 23,g 25 24 false true (.fieldA 6 6 (x 1)),k 26 24 false 25,g 27 24 false false (.call (.c (.fn (.func I.cr) [] [])) [(x 26),(i 1000),(i 1073741824)]),g 28 24 false false (.un .not (x 27)),o 29 (.pick (x 24) (.c (.bl true)) (x 28)),m 19 29]) (.cond (x 19) (w ([o 2 (.mv (.c (.bl false)))]) (.ret)) (w ([f 31 7 7 1,l 32 31,c 33 I.cr [(x 32),(i 1),(i 1073741824)],o 34 (.un .not (x 33)),m 35 34,g 36 35 false true (.fieldA 2 2 (x 1)),k 37 35 false 36,g 38 35 false false (.call (.c (.fn (.func I.cr) [] [])) [(x 37),(i 1),(i 1073741824)]),g 39 35 false false (.un .not (x 38)),o 40 (.pick (x 35) (.c (.bl true)) (x 39)),m 41 40,g 42 41 false true (.fieldA 3 3 (x 1)),k 43 41 false 42,g 44 41 false false (.call (.c (.fn (.func I.cr) [] [])) [(x 43),(i 1),(i 1073741824)]),g 45 41 false false (.un .not (x 44)),o 46 (.pick (x 41) (.c (.bl true)) (x 45)),m 30 46]) (.cond (x 30) (w ([o 2 (.mv (.c (.bl false)))]) (.ret)) (w ([f 48 2 2 1,l 49 48,f 50 3 3 1,l 51 50,o 52 (.bin .gtr .no (x 49) (x 51)),m 53 52,g 54 53 false true (.fieldA 6 6 (x 1)),k 55 53 false 54,g 56 53 false true (.fieldA 5 5 (x 1)),k 57 53 false 56,g 58 53 false true (.bin .add .no (x 55) (x 57)),g 59 53 false true (.fieldA 3 3 (x 1)),k 60 53 false 59,g 61 53 false true (.bin .geq .no (x 58) (x 60)),o 62 (.pick (x 53) (.c (.bl true)) (x 61)),m 63 62,g 64 63 false true (.fieldA 4 4 (x 1)),k 65 63 false 64,g 66 63 false true (.fieldA 5 5 (x 1)),k 67 63 false 66,g 68 63 false true (.fieldA 5 5 (x 1)),k 69 63 false 68,g 70 63 false true (.bin .mul .no (i 20) (x 69)),g 71 63 false false (.call (.c (.fn (.func I.cr) [] [])) [(x 65),(x 67),(x 70)]),g 72 63 false false (.un .not (x 71)),o 73 (.pick (x 63) (.c (.bl true)) (x 72)),m 47 73]) (.cond (x 47) (w ([o 2 (.mv (.c (.bl false)))]) (.ret)) (.skip)))))))))) (w ([f 74 8 8 1,l 75 74,c 76 I.cr [(x 75),(i 1),(i 64)],m 77 76,h 78 77 9 9 1,k 79 77 true 78,g 80 77 true false (.call (.c (.fn (.func I.cr) [] [])) [(x 79),(i 1),(i 8)]),o 81 (.pick (x 77) (x 80) (.c (.bl false))),m 2 81]) (.ret)))⟩
theorem T.gz:TF [] [28,45,39,72] I.gz F.gz:=aN (by kernel_rfl)
noncomputable def F.jB:=(⟨_,by cbv⟩:RF Pg [] [] I.jB).1
theorem T.jB:TF [] [] I.jB F.jB:=aN (by kernel_rfl)
noncomputable def F.fu:=(⟨_,by cbv⟩:RF Pg [] [26] I.fu).1
theorem T.fu:TF [] [26] I.fu F.fu:=aN (by kernel_rfl)
noncomputable def F.ff:fU:=
 ⟨51,[.mv (x 2)],w ([u 1 (.box (x 0)),o 2 (.mv (.c (.str [])))]) (.seq (w ([o 6 (.load true 17 (x 1)),c 7 I.fT [(x 6)],o 8 (.un .not (x 7))]) (.cond (x 8) (w ([o 2 (.mv (.c (.str [])))]) (.ret)) (.skip))) (w ([o 3 (.mv (.c (.sl 1 [] true)))]) (.seq (w ([f 9 0 0 1,l 10 9]) (.cond (x 10) (.seq (w ([o 11 (.mv (i 0))]) (.block 0 (.loop (lk (w ([o 12 (.bin .lss .no (x 11) (i 8))]) (.seq (.cond (x 12) (.skip) (.exit 0)) (.seq (.block 1 (w ([m 13 11,m 4 13]) (.region [m 14 3,m 15 4,o 16 (.bin .mul .no (i 2) (x 15)),f 17 1 1 1,u 18 (.indexA (.ar 16 1) (x 17) (x 16)),l 19 18,o 20 (.convI .i64 (x 19)),u 21 (.bin .shl .no (x 20) (.c (.int .u64 8))),m 22 4,o 23 (.bin .mul .no (i 2) (x 22)),o 24 (.bin .add .no (x 23) (i 1)),f 25 1 1 1,u 26 (.indexA (.ar 16 1) (x 25) (x 24)),l 27 26,o 28 (.convI .i64 (x 27)),o 29 (.bin .or .no (x 21) (x 28)),q 30 I.ey [(x 29),(i 16)],u 31 (.buildSlice false 1 (.str []) 1 [(0,(x 30))]),u 32 (.append 1 16 false (x 14) (x 31)),m 3 32]))) (.region [o 33 (.bin .add .no (x 11) (i 1)),m 11 33])))))))) (lk (w ([m 34 3,u 35 (.call (.c (.fn (.func I.strings_Join) [] [])) [(x 34),(.c (.str [58]))]),m 2 35]) (.ret)))) (.skip))) (lk (.seq (w ([o 36 (.mv (i 0))]) (.block 2 (.loop (lk (w ([o 37 (.bin .lss .no (x 36) (i 4))]) (.seq (.cond (x 37) (.skip) (.exit 2)) (.seq (.block 3 (w ([m 38 36,m 5 38]) (.region [m 39 3,m 40 5,f 41 1 1 1,u 42 (.indexA (.ar 16 1) (x 41) (x 40)),l 43 42,o 44 (.convI .i64 (x 43)),c 45 I.strconv_Itoa [(x 44)],u 46 (.buildSlice false 1 (.str []) 1 [(0,(x 45))]),u 47 (.append 1 16 false (x 39) (x 46)),m 3 47]))) (.region [o 48 (.bin .add .no (x 36) (i 1)),m 36 48])))))))) (lk (w ([m 49 3,u 50 (.call (.c (.fn (.func I.strings_Join) [] [])) [(x 49),(.c (.str [46]))]),m 2 50]) (.ret))))))))⟩
theorem T.ff:TF [] [] I.ff F.ff:=aN (by kernel_rfl)
end Go.Ab
