/- Functions of the program as the abstract reading has them. Written by program. No condition. -/
import Derived.Test.YtlcojgogfjlceaaGreatDoorESI
set_option maxRecDepth 100000
set_option maxHeartbeats 0
set_option linter.defProp false
noncomputable section
namespace Go.Ab
open Go.Ab.Q
def R.nr:C 33:=⟨_,by cbv⟩
def F.ed:cZ:=
 ⟨36,[],.region (⟨_,by cbv⟩:D 51 0).1⟩
def T.ed:= @t0 51 F.ed (by kernel_rfl)
def R.eo:C 87:=⟨_,by cbv⟩
def R.uT:C 117:=⟨_,by cbv⟩
def R.dA:C 171:=⟨_,by cbv⟩
def R.aZ:C 256:=⟨_,by cbv⟩
def R.qC:C 314:=⟨_,by cbv⟩
def F.eL:cZ:=
 ⟨52,[.mv (x 2)],w ([u 1 (.box (x 0)),o 2 (.mv (.c (.str [])))]) (.seq (.seq (.region (⟨_,by cbv⟩:D 367 1).1) (.cond (x 8) (w ([o 2 (.mv (.c (.str [])))]) (.ret)) (.skip))) (w ([o 3 (.mv (.c (.str [])))]) (.seq (.seq (.region (⟨_,by cbv⟩:D 367 4).1) (.cond (x 11) (.seq (w ([o 4 (.mv (i 0))]) (.block 0 (.loop (lk (.seq (w ([m 12 4,o 13 (.bin .lss .no (x 12) (i 4))]) (.cond (x 13) (.skip) (.exit 0))) (.seq (.block 1 (.region (⟨_,by cbv⟩:D 367 7).1)) (.region (⟨_,by cbv⟩:D 367 8).1))))))) (lk (.seq (.region (⟨_,by cbv⟩:D 367 9).1) (.ret)))) (.skip))) (lk (.seq (w ([o 5 (.mv (i 0))]) (.block 2 (.loop (lk (.seq (w ([m 27 5,o 28 (.bin .lss .no (x 27) (i 8))]) (.cond (x 28) (.skip) (.exit 2))) (.seq (.block 3 (.region (⟨_,by cbv⟩:D 367 12).1)) (.region (⟨_,by cbv⟩:D 367 13).1))))))) (lk (.seq (.region (⟨_,by cbv⟩:D 367 14).1) (.ret))))))))⟩
def T.eL:= @t0 367 F.eL (by kernel_rfl)
def R.ny:RF Pg [] [24,18,12] 94:=⟨_,by cbv⟩
def F.ib:cZ:=
 ⟨51,[.mv (x 2)],w ([u 1 (.box (x 0)),o 2 (.mv (.c (.str [])))]) (.seq (.seq (.region (⟨_,by cbv⟩:D 118 1).1) (.cond (x 8) (w ([o 2 (.mv (.c (.str [])))]) (.ret)) (.skip))) (w ([o 3 (.mv (.c (.sl 1 [] true)))]) (.seq (w ([f 9 0 0 1,l 10 9]) (.cond (x 10) (.seq (w ([o 11 (.mv (i 0))]) (.block 0 (.loop (lk (w ([o 12 (.bin .lss .no (x 11) (i 8))]) (.seq (.cond (x 12) (.skip) (.exit 0)) (.seq (.block 1 (w ([m 13 11,m 4 13]) (.region (⟨_,by cbv⟩:D 118 8).1))) (.region [o 33 (.bin .add .no (x 11) (i 1)),m 11 33])))))))) (lk (.seq (.region (⟨_,by cbv⟩:D 118 10).1) (.ret)))) (.skip))) (lk (.seq (w ([o 36 (.mv (i 0))]) (.block 2 (.loop (lk (w ([o 37 (.bin .lss .no (x 36) (i 4))]) (.seq (.cond (x 37) (.skip) (.exit 2)) (.seq (.block 3 (w ([m 38 36,m 5 38]) (.region (⟨_,by cbv⟩:D 118 14).1))) (.region [o 48 (.bin .add .no (x 36) (i 1)),m 36 48])))))))) (lk (.seq (.region (⟨_,by cbv⟩:D 118 16).1) (.ret))))))))⟩
def T.ib:= @t0 118 F.ib (by kernel_rfl)
def R.iM:C 382:=⟨_,by cbv⟩
def F.ie:cZ:=
 ⟨64,[.mv (x 0)],w ([o 0 (.mv (.c (.bl false)))]) (.seq (.region (⟨_,by cbv⟩:RL [] [62,61,60,59,49,48,47,46] 10 1).1) (.seq (.region (⟨_,by cbv⟩:RL [] [62,61,60,59,49,48,47,46] 10 2).1) (.seq (.region (⟨_,by cbv⟩:RL [] [62,61,60,59,49,48,47,46] 10 3).1) (.seq (.region (⟨_,by cbv⟩:RL [] [62,61,60,59,49,48,47,46] 10 4).1) (.ret)))))⟩
def T.ie:=t1 [] [62,61,60,59,49,48,47,46] 10 F.ie (by kernel_rfl)
def R.xj:C 65:=⟨_,by cbv⟩
def R.n7:C 95:=⟨_,by cbv⟩
def F.fb:cZ:=
 ⟨28,[.mv (x 4)],w ([o 4 (.mv (.c (.bl false)))]) (.seq (.region (⟨_,by cbv⟩:D 143 1).1) (.ret))⟩
def T.fb:= @t0 143 F.fb (by kernel_rfl)
def F.gx:cZ:=
 ⟨25,[],.region (⟨_,by cbv⟩:D 179 0).1⟩
def T.gx:= @t0 179 F.gx (by kernel_rfl)
def R.Ac:C 192:=⟨_,by cbv⟩
def R.pQ:C 210:=⟨_,by cbv⟩
def R.xe:C 289:=⟨_,by cbv⟩
def R.xn:C 322:=⟨_,by cbv⟩
def R.jQ:RF Pg [] [9,10,11] 340:=⟨_,by cbv⟩
def R.qB:C 391:=⟨_,by cbv⟩
def R.jE:C 17:=⟨_,by cbv⟩
def R.vN:C 78:=⟨_,by cbv⟩
def R.fF:C 90:=⟨_,by cbv⟩
def R.dO:C 108:=⟨_,by cbv⟩
def R.nn:C 168:=⟨_,by cbv⟩
def R.lZ:C 187:=⟨_,by cbv⟩
def R.pD:C 199:=⟨_,by cbv⟩
def R.dP:C 259:=⟨_,by cbv⟩
def R.ld:C 290:=⟨_,by cbv⟩
def R.cD:C 323:=⟨_,by cbv⟩
def R.qv:C 6:=⟨_,by cbv⟩
def F.dL:cZ:=
 ⟨39,[.mv (x 4)],w ([u 3 (.box (x 1)),o 4 (.mv (.c (.sl 34 [] true)))]) (.seq (.region (⟨_,by cbv⟩:RL [33] [24,22] 18 1).1) (w ([o 6 (.mv (i 0))]) (.seq (.block 0 (.loop (lk (.seq (.seq (.region (⟨_,by cbv⟩:RL [33] [24,22] 18 3).1) (.cond (x 25) (.skip) (.exit 0))) (.block 1 (.region (⟨_,by cbv⟩:RL [33] [24,22] 18 4).1)))))) (lk (.seq (.regionD (⟨_,by cbv⟩:RL [33] [24,22] 18 5).1 [0,1,2,3,4,6,7,8,5,9,10,11] [3,8,5,9]) (.ret))))))⟩
def T.dL:=t1 [33] [24,22] 18 F.dL (by kernel_rfl)
def R.jK:C 37:=⟨_,by cbv⟩
def R.iz:C 49:=⟨_,by cbv⟩
def R.rO:C 85:=⟨_,by cbv⟩
def R.fI:C 97:=⟨_,by cbv⟩
def R.ku:C 157:=⟨_,by cbv⟩
def R.xa:C 194:=⟨_,by cbv⟩
def R.oy:C 248:=⟨_,by cbv⟩
def F.ig:cZ:=
 ⟨97,[.load true 32 (x 2)],w ([u 1 (.box (x 0)),u 2 (.alloc E6)]) (.seq (.region (⟨_,by cbv⟩:D 266 1).1) (.seq (.region (⟨_,by cbv⟩:D 266 2).1) (.seq (w ([o 4 (.mv (i 1))]) (.block 0 (.loop (lk (.seq (w ([m 16 4,o 17 (.bin .lss .no (x 16) (i 5))]) (.cond (x 17) (.skip) (.exit 0))) (.seq (.block 1 (.region (⟨_,by cbv⟩:D 266 5).1)) (.region (⟨_,by cbv⟩:D 266 6).1))))))) (lk (.seq (.region (⟨_,by cbv⟩:D 266 7).1) (.seq (w ([o 5 (.mv (i 0))]) (.block 2 (.loop (lk (.seq (.seq (.region (⟨_,by cbv⟩:D 266 9).1) (.cond (x 34) (.skip) (.exit 2))) (.seq (.block 3 (.seq (.region (⟨_,by cbv⟩:D 266 10).1) (.region (⟨_,by cbv⟩:D 266 11).1))) (.region (⟨_,by cbv⟩:D 266 12).1))))))) (lk (.seq (.region (⟨_,by cbv⟩:D 266 13).1) (.seq (.region (⟨_,by cbv⟩:D 266 14).1) (w ([u 7 (.alloc E6)]) (.seq (w ([o 84 (.load true 4 (x 6)),o 85 (.mv (i 0))]) (.block 4 (.loop (lk (w ([o 86 (.bin .lss .no (x 85) (i 4))]) (.seq (.cond (x 86) (.skip) (.exit 4)) (.seq (.block 5 (.seq (.region (⟨_,by cbv⟩:D 266 18).1) (.region (⟨_,by cbv⟩:D 266 19).1))) (.region [o 95 (.bin .add .no (x 85) (i 1)),m 85 95])))))))) (lk (w ([o 96 (.load true 32 (x 7)),s 32 2 96]) (.ret))))))))))))))⟩
def T.ig:= @t0 266 F.ig (by kernel_rfl)
def F.kz:cZ:=
 ⟨122,[.load true 148 (x 8),.mv (x 9)],.seq (.region (⟨_,by cbv⟩:D 32 0).1) (.seq (.seq (.region (⟨_,by cbv⟩:D 32 1).1) (.cond (x 27) (.seq (.region (⟨_,by cbv⟩:D 32 2).1) (.ret)) (.skip))) (.seq (.seq (.region (⟨_,by cbv⟩:D 32 3).1) (w ([m 31 10,o 32 (.bin .neq .no (x 31) (i 0))]) (.cond (x 32) (.seq (.region (⟨_,by cbv⟩:D 32 5).1) (.ret)) (.skip)))) (.seq (.region (⟨_,by cbv⟩:D 32 6).1) (.seq (.region (⟨_,by cbv⟩:D 32 7).1) (.seq (.seq (.region (⟨_,by cbv⟩:D 32 8).1) (.block 0 (.loop (lk (w ([o 59 (.bin .lss .no (x 58) (x 57))]) (.seq (.cond (x 59) (.skip) (.exit 0)) (.seq (.block 1 (.seq (.region (⟨_,by cbv⟩:D 32 10).1) (.seq (.region (⟨_,by cbv⟩:D 32 11).1) (.seq (.regionD (⟨_,by cbv⟩:D 32 12).1 [0,1,2,3,4,5,6,7,8,9,10,11,12] []) (.seq (.seq (.region (⟨_,by cbv⟩:D 32 13).1) (.block 2 (.loop (lk (w ([o 89 (.bin .lss .no (x 88) (x 87))]) (.seq (.cond (x 89) (.skip) (.exit 2)) (.seq (.block 3 (.seq (.region (⟨_,by cbv⟩:D 32 15).1) (.region (⟨_,by cbv⟩:D 32 16).1))) (.region [o 108 (.bin .add .no (x 88) (i 1)),m 88 108])))))))) (lk (.region (⟨_,by cbv⟩:D 32 18).1))))))) (lk (.region [o 111 (.bin .add .no (x 58) (i 1)),m 58 111]))))))))) (lk (.seq (.region (⟨_,by cbv⟩:D 32 20).1) (.seq (.region (⟨_,by cbv⟩:D 32 21).1) (.ret)))))))))⟩
def T.kz:= @t0 32 F.kz (by kernel_rfl)
def R.xd:C 225:=⟨_,by cbv⟩
def R.qz:C 261:=⟨_,by cbv⟩
def R.zY:C 292:=⟨_,by cbv⟩
def R.iv:C 343:=⟨_,by cbv⟩
def R.dN:C 358:=⟨_,by cbv⟩
def R.iq:RF Pg [26] [] 252:=⟨_,by cbv⟩
def R.rY:C 332:=⟨_,by cbv⟩
def R.dj:C 161:=⟨_,by cbv⟩
def R.a8:C 333:=⟨_,by cbv⟩
def R.csh:C 315:=⟨_,by cbv⟩
def R.sep:C 222:=⟨_,by cbv⟩
def R.msc:C 342:=⟨_,by cbv⟩
def F.De:cZ:=⟨151,[],.seq (.region (⟨_,by cbv⟩:RL [44,103,147,1004006] [] 196 0).1) (.seq (.seq (.region (⟨_,by cbv⟩:RL [44,103,147,1004006] [] 196 1).1) (.cond (x 23) (.seq (.region (⟨_,by cbv⟩:RL [44,103,147,1004006] [] 196 2).1) (.region (⟨_,by cbv⟩:RL [44,103,147,1004006] [] 196 3).1)) (.skip))) (.seq (.regionE (⟨_,by cbv⟩:RL [44,103,147,1004006] [] 196 4).1 [0,1,2,3,5,7,8,9,10] 4 6 [11,12,13,14,15,16,17,18] [1,2,3,8,9,10,6]) (.seq (.region (⟨_,by cbv⟩:RL [44,103,147,1004006] [] 196 5).1) (.seq (.regionD (⟨_,by cbv⟩:RL [44,103,147,1004006] [] 196 6).1 [0,1,2,3,4,5,6,7,8,9,10,11,12,13,14,15,16,17,18,19,20,21,22,23,24,25,26] [1,2,3,4,6,7,8,9,11,12,13,14,15,17,22,23]) (.seq (.seq (.region (⟨_,by cbv⟩:RL [44,103,147,1004006] [] 196 7).1) (.cond (x 82) (.seq (.region (⟨_,by cbv⟩:RL [44,103,147,1004006] [] 196 8).1) (.seq (.region (⟨_,by cbv⟩:RL [44,103,147,1004006] [] 196 9).1) (.ret))) (.skip))) (.seq (.region (⟨_,by cbv⟩:RL [44,103,147,1004006] [] 196 10).1) (.seq (.regionD (⟨_,by cbv⟩:RL [44,103,147,1004006] [] 196 11).1 [0,1,2,3,4,5,7,8,9,10,11,6,12,13,14,15,16,17,18] [1,2,3,8,9,10,11,12,6,16]) (.seq (.region (⟨_,by cbv⟩:RL [44,103,147,1004006] [] 196 12).1) (.seq (.region (⟨_,by cbv⟩:RL [44,103,147,1004006] [] 196 13).1) (.seq (.region (⟨_,by cbv⟩:RL [44,103,147,1004006] [] 196 14).1) (.seq (.region (⟨_,by cbv⟩:RL [44,103,147,1004006] [] 196 15).1) (.region (⟨_,by cbv⟩:RL [44,103,147,1004006] [] 196 16).1))))))))))))⟩
def T.De:=t1 [44,103,147,1004006] [] 196 F.De (by kernel_rfl)
end Go.Ab
