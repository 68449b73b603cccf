/- Functions of the program as the abstract reading has them. Written by program. No condition. -/
import Derived.Test.YtlcojgogfjlceaaGreatDoorESI
set_option maxRecDepth 100000
set_option maxHeartbeats 0
set_option linter.defProp false
noncomputable section
namespace Go.Ab
open Go.Ab.Q
def R.bZ:C 39:=⟨_,by cbv⟩
def R.rI:C 63:=⟨_,by cbv⟩
def R.nq:C 81:=⟨_,by cbv⟩
def F.ki:cZ:=
 ⟨28,[.mv (x 4)],.seq (.region (⟨_,by cbv⟩:RL [] [26] 105 0).1) (.seq (.region (⟨_,by cbv⟩:RL [] [26] 105 1).1) (.ret))⟩
def T.ki:=t1 [] [26] 105 F.ki (by kernel_rfl)
def R.fh:C 165:=⟨_,by cbv⟩
def F.ja:cZ:=
 ⟨94,[.mv (x 2)],w ([u 1 (.box (x 0)),o 2 (.mv (.c (.bl false)))]) (.seq (.seq (.region (⟨_,by cbv⟩:RL [] [13,14,15,16,19,20,21,22,40,41,42,43,44,45,46,47,48,64,65,66,67,70,71,72,73,74,80,81,82,83,84,85,86,87,88,89,90,91] 190 1).1) (.cond (x 23) (w ([o 2 (.mv (.c (.bl false)))]) (.ret)) (.skip))) (.seq (.seq (.region (⟨_,by cbv⟩:RL [] [13,14,15,16,19,20,21,22,40,41,42,43,44,45,46,47,48,64,65,66,67,70,71,72,73,74,80,81,82,83,84,85,86,87,88,89,90,91] 190 3).1) (.block 0 (.loop (lk (w ([o 28 (.bin .lss .no (x 27) (x 26))]) (.seq (.cond (x 28) (.skip) (.exit 0)) (.seq (.block 1 (.seq (.region (⟨_,by cbv⟩:RL [] [13,14,15,16,19,20,21,22,40,41,42,43,44,45,46,47,48,64,65,66,67,70,71,72,73,74,80,81,82,83,84,85,86,87,88,89,90,91] 190 5).1) (.seq (.region (⟨_,by cbv⟩:RL [] [13,14,15,16,19,20,21,22,40,41,42,43,44,45,46,47,48,64,65,66,67,70,71,72,73,74,80,81,82,83,84,85,86,87,88,89,90,91] 190 6).1) (.cond (x 49) (w ([o 2 (.mv (.c (.bl false)))]) (.ret)) (.skip))))) (.region [o 50 (.bin .add .no (x 27) (i 1)),m 27 50])))))))) (lk (.seq (.seq (.region (⟨_,by cbv⟩:RL [] [13,14,15,16,19,20,21,22,40,41,42,43,44,45,46,47,48,64,65,66,67,70,71,72,73,74,80,81,82,83,84,85,86,87,88,89,90,91] 190 9).1) (.block 2 (.loop (lk (w ([o 55 (.bin .lss .no (x 54) (x 53))]) (.seq (.cond (x 55) (.skip) (.exit 2)) (.seq (.block 3 (.seq (.region (⟨_,by cbv⟩:RL [] [13,14,15,16,19,20,21,22,40,41,42,43,44,45,46,47,48,64,65,66,67,70,71,72,73,74,80,81,82,83,84,85,86,87,88,89,90,91] 190 11).1) (.seq (.region (⟨_,by cbv⟩:RL [] [13,14,15,16,19,20,21,22,40,41,42,43,44,45,46,47,48,64,65,66,67,70,71,72,73,74,80,81,82,83,84,85,86,87,88,89,90,91] 190 12).1) (.cond (x 92) (w ([o 2 (.mv (.c (.bl false)))]) (.ret)) (.skip))))) (.region [o 93 (.bin .add .no (x 54) (i 1)),m 54 93])))))))) (lk (w ([o 2 (.mv (.c (.bl true)))]) (.ret)))))))⟩
def T.ja:=t1 [] [13,14,15,16,19,20,21,22,40,41,42,43,44,45,46,47,48,64,65,66,67,70,71,72,73,74,80,81,82,83,84,85,86,87,88,89,90,91] 190 F.ja (by kernel_rfl)
def R.ek:C 178:=⟨_,by cbv⟩
def R.tp:C 227:=⟨_,by cbv⟩
def R.oz:C 251:=⟨_,by cbv⟩
def R.dc:C 257:=⟨_,by cbv⟩
def R.oa:RF Pg [] [18,19,20,21,22,29,30,31,32] 282:=⟨_,by cbv⟩
def F.dJ:cZ:=
 ⟨146,[.load true 8 (x 8)],w ([u 4 (.box (x 0)),u 8 (.alloc (.ar 1 8 (zr 8 (.int .u32 0))))]) (w ([u 9 (.alloc (.ar 1 16 (zr 16 (.int .u32 0))))]) (.seq (w ([o 18 (.mv (i 0))]) (.block 0 (.loop (lk (w ([o 19 (.bin .lss .no (x 18) (i 16))]) (.seq (.cond (x 19) (.skip) (.exit 0)) (.seq (.block 1 (w ([m 20 18,m 10 20]) (.region (⟨_,by cbv⟩:RL [89,125] [] 327 5).1))) (.region [o 32 (.bin .add .no (x 18) (i 1)),m 18 32])))))))) (lk (w ([u 11 (.alloc (.ar 1 16 (zr 16 (.int .u32 0))))]) (.seq (.region (⟨_,by cbv⟩:RL [89,125] [] 327 8).1) (.seq (.region (⟨_,by cbv⟩:RL [89,125] [] 327 9).1) (.seq (.region (⟨_,by cbv⟩:RL [89,125] [] 327 10).1) (.seq (.region (⟨_,by cbv⟩:RL [89,125] [] 327 11).1) (.seq (.region (⟨_,by cbv⟩:RL [89,125] [] 327 12).1) (.seq (w ([m 53 3]) (.cond (x 53) (.region (⟨_,by cbv⟩:RL [89,125] [] 327 14).1) (.skip))) (.seq (.seq (.region (⟨_,by cbv⟩:RL [89,125] [] 327 15).1) (.block 2 (.loop (lk (w ([o 60 (.bin .lss .no (x 59) (i 10))]) (.seq (.cond (x 60) (.skip) (.exit 2)) (.seq (.block 3 (.seq (.region (⟨_,by cbv⟩:RL [89,125] [] 327 17).1) (.seq (w ([o 62 (.mv (i 0))]) (.block 4 (.loop (lk (w ([o 63 (.bin .lss .no (x 62) (i 4))]) (.seq (.cond (x 63) (.skip) (.exit 4)) (.seq (.block 5 (w ([m 64 62,m 15 64]) (.region (⟨_,by cbv⟩:RL [89,125] [] 327 21).1))) (.region [o 90 (.bin .add .no (x 62) (i 1)),m 62 90])))))))) (lk (w ([o 91 (.mv (i 0))]) (.block 6 (.loop (lk (w ([o 92 (.bin .lss .no (x 91) (i 4))]) (.seq (.cond (x 92) (.skip) (.exit 6)) (.seq (.block 7 (w ([m 93 91,m 16 93]) (.region (⟨_,by cbv⟩:RL [89,125] [] 327 26).1))) (.region [o 126 (.bin .add .no (x 91) (i 1)),m 91 126])))))))))))) (lk (.region [o 127 (.bin .add .no (x 59) (i 1)),m 59 127]))))))))) (lk (.seq (w ([o 128 (.mv (i 0))]) (.block 8 (.loop (lk (w ([o 129 (.bin .lss .no (x 128) (i 8))]) (.seq (.cond (x 129) (.skip) (.exit 8)) (.seq (.block 9 (w ([m 130 128,m 17 130]) (.region (⟨_,by cbv⟩:RL [89,125] [] 327 32).1))) (.region [o 144 (.bin .add .no (x 128) (i 1)),m 128 144])))))))) (lk (w ([o 145 (.load true 8 (x 4)),s 8 8 145]) (.ret))))))))))))))))⟩
def T.dJ:=t1 [89,125] [] 327 F.dJ (by kernel_rfl)
end Go.Ab
