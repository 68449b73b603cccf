/- Functions of the program as the abstract reading has them. Written by program. No condition. -/
import Derived.Test.YtlcojgogfjlceaaGreatDoorSI
set_option maxRecDepth 100000
set_option maxHeartbeats 0
set_option linter.defProp false
noncomputable section
namespace Go.Ab
open Go.Ab.Q
def R.bY:C 39:=⟨_,by cbv⟩
def R.rV:C 63:=⟨_,by cbv⟩
def R.ny:C 81:=⟨_,by cbv⟩
def F.ku:cM:=
 ⟨28,[.mv (x 4)],.seq (.region (⟨_,by cbv⟩:RL [] [26] 105 0).1) (.seq (.region (⟨_,by cbv⟩:RL [] [26] 105 1).1) (.ret))⟩
def T.ku:=t1 [] [26] 105 F.ku (by kernel_rfl)
def R.ft:C 165:=⟨_,by cbv⟩
def F.je:cM:=
 ⟨94,[.mv (x 2)],w ([u 1 (.box (x 0)),o 2 (.mv (.c (.bl false)))]) (.seq (.seq (.region (⟨_,by cbv⟩:RL [] [13,14,15,16,19,20,21,22,40,41,42,43,44,45,46,47,48,64,65,66,67,70,71,72,73,74,80,81,82,83,84,85,86,87,88,89,90,91] 190 1).1) (.cond (x 23) (w ([o 2 (.mv (.c (.bl false)))]) (.ret)) (.skip))) (.seq (.seq (.region (⟨_,by cbv⟩:RL [] [13,14,15,16,19,20,21,22,40,41,42,43,44,45,46,47,48,64,65,66,67,70,71,72,73,74,80,81,82,83,84,85,86,87,88,89,90,91] 190 3).1) (.block 0 (.loop (lk (w ([o 28 (.bin .lss .no (x 27) (x 26))]) (.seq (.cond (x 28) (.skip) (.exit 0)) (.seq (.block 1 (.seq (.region (⟨_,by cbv⟩:RL [] [13,14,15,16,19,20,21,22,40,41,42,43,44,45,46,47,48,64,65,66,67,70,71,72,73,74,80,81,82,83,84,85,86,87,88,89,90,91] 190 5).1) (.seq (.region (⟨_,by cbv⟩:RL [] [13,14,15,16,19,20,21,22,40,41,42,43,44,45,46,47,48,64,65,66,67,70,71,72,73,74,80,81,82,83,84,85,86,87,88,89,90,91] 190 6).1) (.cond (x 49) (w ([o 2 (.mv (.c (.bl false)))]) (.ret)) (.skip))))) (.region [o 50 (.bin .add .no (x 27) (i 1)),m 27 50])))))))) (lk (.seq (.seq (.region (⟨_,by cbv⟩:RL [] [13,14,15,16,19,20,21,22,40,41,42,43,44,45,46,47,48,64,65,66,67,70,71,72,73,74,80,81,82,83,84,85,86,87,88,89,90,91] 190 9).1) (.block 2 (.loop (lk (w ([o 55 (.bin .lss .no (x 54) (x 53))]) (.seq (.cond (x 55) (.skip) (.exit 2)) (.seq (.block 3 (.seq (.region (⟨_,by cbv⟩:RL [] [13,14,15,16,19,20,21,22,40,41,42,43,44,45,46,47,48,64,65,66,67,70,71,72,73,74,80,81,82,83,84,85,86,87,88,89,90,91] 190 11).1) (.seq (.region (⟨_,by cbv⟩:RL [] [13,14,15,16,19,20,21,22,40,41,42,43,44,45,46,47,48,64,65,66,67,70,71,72,73,74,80,81,82,83,84,85,86,87,88,89,90,91] 190 12).1) (.cond (x 92) (w ([o 2 (.mv (.c (.bl false)))]) (.ret)) (.skip))))) (.region [o 93 (.bin .add .no (x 54) (i 1)),m 54 93])))))))) (lk (w ([o 2 (.mv (.c (.bl true)))]) (.ret)))))))⟩
def T.je:=t1 [] [13,14,15,16,19,20,21,22,40,41,42,43,44,45,46,47,48,64,65,66,67,70,71,72,73,74,80,81,82,83,84,85,86,87,88,89,90,91] 190 F.je (by kernel_rfl)
def R.eH:C 178:=⟨_,by cbv⟩
def R.tM:C 227:=⟨_,by cbv⟩
def R.oH:C 251:=⟨_,by cbv⟩
def R.dc:C 257:=⟨_,by cbv⟩
def R.oi:RF Pg [] [18,19,20,21,22,29,30,31,32] 282:=⟨_,by cbv⟩
def F.dP:cM:=
 ⟨146,[.load true 8 (x 8)],w ([u 4 (.box (x 0)),u 8 (.alloc (.ar 1 8 (zr 8 (.int .u32 0))))]) (w ([u 9 (.alloc (.ar 1 16 (zr 16 (.int .u32 0))))]) (.seq (w ([o 18 (.mv (i 0))]) (.block 0 (.loop (lk (w ([o 19 (.bin .lss .no (x 18) (i 16))]) (.seq (.cond (x 19) (.skip) (.exit 0)) (.seq (.block 1 (w ([m 20 18,m 10 20]) (.region (⟨_,by cbv⟩:RL [89,125] [] 327 5).1))) (.region [o 32 (.bin .add .no (x 18) (i 1)),m 18 32])))))))) (lk (w ([u 11 (.alloc (.ar 1 16 (zr 16 (.int .u32 0))))]) (.seq (.region (⟨_,by cbv⟩:RL [89,125] [] 327 8).1) (.seq (.region (⟨_,by cbv⟩:RL [89,125] [] 327 9).1) (.seq (.region (⟨_,by cbv⟩:RL [89,125] [] 327 10).1) (.seq (.region (⟨_,by cbv⟩:RL [89,125] [] 327 11).1) (.seq (.region (⟨_,by cbv⟩:RL [89,125] [] 327 12).1) (.seq (w ([m 53 3]) (.cond (x 53) (.region (⟨_,by cbv⟩:RL [89,125] [] 327 14).1) (.skip))) (.seq (.seq (.region (⟨_,by cbv⟩:RL [89,125] [] 327 15).1) (.block 2 (.loop (lk (w ([o 60 (.bin .lss .no (x 59) (i 10))]) (.seq (.cond (x 60) (.skip) (.exit 2)) (.seq (.block 3 (.seq (.region (⟨_,by cbv⟩:RL [89,125] [] 327 17).1) (.seq (w ([o 62 (.mv (i 0))]) (.block 4 (.loop (lk (w ([o 63 (.bin .lss .no (x 62) (i 4))]) (.seq (.cond (x 63) (.skip) (.exit 4)) (.seq (.block 5 (w ([m 64 62,m 15 64]) (.region (⟨_,by cbv⟩:RL [89,125] [] 327 21).1))) (.region [o 90 (.bin .add .no (x 62) (i 1)),m 62 90])))))))) (lk (w ([o 91 (.mv (i 0))]) (.block 6 (.loop (lk (w ([o 92 (.bin .lss .no (x 91) (i 4))]) (.seq (.cond (x 92) (.skip) (.exit 6)) (.seq (.block 7 (w ([m 93 91,m 16 93]) (.region (⟨_,by cbv⟩:RL [89,125] [] 327 26).1))) (.region [o 126 (.bin .add .no (x 91) (i 1)),m 91 126])))))))))))) (lk (.region [o 127 (.bin .add .no (x 59) (i 1)),m 59 127]))))))))) (lk (.seq (w ([o 128 (.mv (i 0))]) (.block 8 (.loop (lk (w ([o 129 (.bin .lss .no (x 128) (i 8))]) (.seq (.cond (x 129) (.skip) (.exit 8)) (.seq (.block 9 (w ([m 130 128,m 17 130]) (.region (⟨_,by cbv⟩:RL [89,125] [] 327 32).1))) (.region [o 144 (.bin .add .no (x 128) (i 1)),m 128 144])))))))) (lk (w ([o 145 (.load true 8 (x 4)),s 8 8 145]) (.ret))))))))))))))))⟩
def T.dP:=t1 [89,125] [] 327 F.dP (by kernel_rfl)
def F.lF:b7:=
 .seq (w ([m 38 5,
 m 39 4,
 o 40 (.bin .lss .no (x 38) (x 39))])
 (.cond (x 40)
 (.skip)
 (.exit 0)))
 (.seq (.block 1 (w ([m 43 5,
 c 44 16 [(x 43)],
 m 45 0,
 c 46 15 [(x 45),(i 8)],
 o 47 (.bin .gtr .no (x 46) (i 0)),
 u 48 (.build (.st 464 [Fa,Fa,(.bl false),zE,z4,z12,(.bl false),z4,zH,(.bl false),Wt,z4,Wt,zR,(.sl 1 [] true)]) [(0,(x 44)),(2,(x 47))]),
 u 6 (.alloc (.st 464 [Fa,Fa,(.bl false),zE,z4,z12,(.bl false),z4,zH,(.bl false),Wt,z4,Wt,zR,(.sl 1 [] true)])),
 s 464 6 48])
 (.seq (w ([f 49 2 64 6,
 l 50 49])
 (.cond (x 50)
 (.region [m 51 5,
 c 52 17 [(x 51)],
 f 53 3 65 6,
 s 18 53 52])
 (.skip)))
 (.seq (w ([m 54 0,
 c 55 15 [(x 54),(i 4)],
 o 56 (.bin .eql .no (x 55) (i 1))])
 (.cond (x 56)
 (w ([m 57 0,
 c 58 15 [(x 57),(i 30)],
 o 59 (.bin .add .no (i 1) (x 58)),
 o 60 (.bin .mul .no (i 1000) (x 59)),
 f 61 4 83 6,
 s 1 61 60])
 (.regionD [f 62 9 111 3,
 l 63 62,
 f 64 5 107 3,
 l 65 64,
 o 66 (.bin .add .no (x 65) (i 1)),
 m 67 0,
 c 68 15 [(x 67),(i 200)],
 o 69 (.bin .mul .no (x 68) (i 10)),
 o 70 (.bin .add .no (x 66) (x 69)),
 f 71 0 0 6,
 o 72 (.load true 32 (x 71)),
 u 73 (.build (.st 34 [z4,Fa,z4]) [(0,(x 70)),(1,(x 72)),(2,(i 4))]),
 q 74 18 [(x 63),(x 73)],
 f 75 9 111 3,
 s 1 75 74] [0,1,2,3,4,5,9,10,6,7,8,11,12,13,14] [0,1,2,3,9,10,6]))
 (.skip)))
 (w ([f 76 6 108 3,
 l 77 76,
 o 78 (.load true 464 (x 6)),
 u 79 (.buildSlice false 464 (.st 464 [Fa,Fa,(.bl false),zE,z4,z12,(.bl false),z4,zH,(.bl false),Wt,z4,Wt,zR,(.sl 1 [] true)]) 1 [(0,(x 78))]),
 u 80 (.append 464 808 false (x 77) (x 79)),
 f 81 6 108 3,
 s 1 81 80])
 (.region [f 83 7 109 3,
 l 84 83,
 m 85 5,
 o 86 (.bin .add .no (x 85) (i 1)),
 q 87 21 [(x 86),(i 0)],
 q 88 20 [(x 87),(i 16)],
 f 89 0 0 6,
 o 90 (.load true 32 (x 89)),
 q 91 19 [(x 84),(x 88),(x 90)],
 m 82 91,
 o 92 (.extract 0 (x 82)),
 o 93 (.extract 1 (x 82)),
 f 94 7 109 3,
 s 1 94 92]))))))
 (.region [m 41 5,
 o 42 (.bin .add .no (x 41) (i 1)),
 m 5 42]))
def F.lE:b7:=
 .seq (w ([m 102 8,
 o 103 (.bin .gtr .no (x 102) (i 0))])
 (.cond (x 103)
 (.skip)
 (.exit 4)))
 (.seq (.block 5 (.regionD [o 107 (.load true 148 (x 3)),
 m 108 7,
 q 109 16 [(x 108)],
 m 110 0,
 o 111 (.load true 148 (x 3)),
 m 112 7,
 o 113 (.bin .mul .no (i 10) (x 112)),
 m 114 8,
 o 115 (.bin .add .no (x 113) (x 114)),
 o 116 (.convI .u32 (x 115)),
 c 117 23 [(x 110),(x 111),(x 116)],
 m 118 0,
 c 119 24 [(x 118)],
 q 120 22 [(x 107),(x 109),(x 117),(x 119)],
 m 106 120,
 o 121 (.extract 0 (x 106)),
 o 122 (.extract 1 (x 106)),
 s 148 3 121] [0,1,2,3,4,5,6,7,8,9,11,10,12,13,14,15,16,17] [0,10,12]))
 (.region [m 104 8,
 o 105 (.bin .sub .no (x 104) (i 1)),
 m 8 105]))
def F.px:b7:=
 .region [m 98 7,
 o 99 (.bin .add .no (x 98) (i 1)),
 m 7 99]
def F.lD:b7:=
 .seq (w ([m 95 7,
 m 96 4,
 o 97 (.bin .lss .no (x 95) (x 96))])
 (.cond (x 97)
 (.skip)
 (.exit 2)))
 (.seq (.block 3 (w ([m 100 0,
 c 101 15 [(x 100),(i 4)],
 m 8 101])
 (.block 4 (.loop F.lE))))
 F.px)
def F.py:b7:=
 w ([o 123 (.load true 148 (x 3)),
 s 148 2 123])
 (.ret)
def F.lC:b7:=
 .seq (w ([o 7 (.mv (i 0))])
 (.block 2 (.loop F.lD)))
 F.py
def F.eO:cM:=
 ⟨124,[.load true 148 (x 2)],
 w ([u 2 (.alloc zM)])
 (w ([m 9 0,
 c 10 12 [(x 9)],
 m 11 0,
 c 12 13 [(x 11)],
 m 13 0,
 c 14 13 [(x 13)],
 m 15 0,
 c 16 14 [(x 15),(i 65536)],
 m 17 0,
 c 18 13 [(x 17)],
 m 19 0,
 c 20 14 [(x 19),(i 16777216)],
 u 21 (.build zM [(0,(x 10)),(1,(x 12)),(2,(x 14)),(3,(x 16)),(4,(x 18)),(5,(x 20))]),
 u 3 (.alloc zM),
 s 148 3 21])
 (.seq (.regionD [m 22 0,
 c 23 13 [(x 22)],
 f 24 5 107 3,
 l 25 24,
 m 26 0,
 c 27 15 [(x 26),(i 2)],
 f 28 5 107 3,
 l 29 28,
 o 30 (.mm false [(x 29),(i 20000)]),
 o 31 (.bin .mul .no (x 27) (x 30)),
 o 32 (.bin .sub .no (x 25) (x 31)),
 f 33 10 112 3,
 s 32 33 23,
 f 34 11 144 3,
 s 1 34 32] [0,2,3,4,6,7,8,1,11,5,9,10,12,13,14] [2,3,6,7,11,1,5])
 (w ([m 35 0,
 c 36 15 [(x 35),(i 2)],
 o 37 (.bin .add .no (i 2) (x 36)),
 m 4 37])
 (.seq (w ([o 5 (.mv (i 0))])
 (.block 0 (.loop F.lF)))
 F.lC))))⟩
theorem T.eO:nk Pg [68,117,119,23,27] [] 5=some F.eO.er:=by kernel_rfl
end Go.Ab
