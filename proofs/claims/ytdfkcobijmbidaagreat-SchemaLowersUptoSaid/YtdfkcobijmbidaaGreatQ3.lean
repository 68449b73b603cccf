/- A packet of the tunnel device. No condition. -/
import Derived.Test.YtdfkcobijmbidaaGreatQ2
set_option maxRecDepth 100000
set_option maxHeartbeats 4000000
set_option linter.all false
namespace Go.Ab
open Go.Ab
abbrev aS (b:Bool) (n:Nat):AV:= .st 17 [.bl (some b),.ar 1 16 (uL .u8 n++List.replicate (16-n) (.int .u8 (some 0)))]
def ajc:Spec:=⟨I.gf,[(uS .u8 4)],.val (aS false 4)⟩
def ajd:List Spec:=ajc::ai8
theorem aje:aA Pg ajd:=ax ai9 [] [] (by kernel_rfl)
def ajf:Spec:=⟨I.gf,[(uS .u8 16)],.val (aS true 16)⟩
def ajg:List Spec:=ajf::ajd
theorem ajh:aA Pg ajg:=ax aje [] [] (by kernel_rfl)
def aji:List Spec:=⟨I.cm,[(aS false 4)],.val (.bl (some true))⟩::ajg
theorem as3:aA Pg aji:=ax ajh [] [] (by kernel_rfl)
def ajj:List Spec:=⟨I.cm,[(aS true 16)],.val (.bl (some true))⟩::aji
theorem as4:aA Pg ajj:=ax as3 [] [] (by kernel_rfl)
def ajk:List Spec:=⟨I.cm,[(aS false 2)],.val (.bl (some true))⟩::ajj
theorem as5:aA Pg ajk:=ax as4 [] [] (by kernel_rfl)
def ajl:List Spec:=⟨I.dq,[(aS false 2)],.val (kI 32)⟩::ajk
theorem as6:aA Pg ajl:=ax as5 [] [] (by kernel_rfl)
def ajm:List Spec:=⟨I.aa,[(aS false 2),(kI 0)],.val (uI .u8)⟩::ajl
theorem as7:aA Pg ajm:=ax as6 [] [] (by kernel_rfl)
def ajn:List Spec:=⟨I.aa,[(aS false 2),(kI 1)],.val (uI .u8)⟩::ajm
theorem as8:aA Pg ajn:=ax as7 [] [] (by kernel_rfl)
def ajo:List Spec:=⟨I.aa,[(aS false 2),(kI 2)],.val (uI .u8)⟩::ajn
theorem as9:aA Pg ajo:=ax as8 [] [] (by kernel_rfl)
def ajp:List Spec:=⟨I.aa,[(aS false 2),(kI 3)],.val (uI .u8)⟩::ajo
theorem ata:aA Pg ajp:=ax as9 [] [] (by kernel_rfl)
def ajq:List Spec:=⟨I.aa,[(aS false 2),(kI 4)],.val (uI .u8)⟩::ajp
theorem atb:aA Pg ajq:=ax ata [] [] (by kernel_rfl)
def ajr:List Spec:=⟨I.aa,[(aS false 2),(kI 5)],.val (uI .u8)⟩::ajq
theorem atc:aA Pg ajr:=ax atb [] [] (by kernel_rfl)
def ajs:List Spec:=⟨I.aa,[(aS false 2),(kI 6)],.val (uI .u8)⟩::ajr
theorem atd:aA Pg ajs:=ax atc [] [] (by kernel_rfl)
def ajt:List Spec:=⟨I.aa,[(aS false 2),(kI 7)],.val (uI .u8)⟩::ajs
theorem ate:aA Pg ajt:=ax atd [] [] (by kernel_rfl)
def aju:List Spec:=⟨I.aa,[(aS false 2),(kI 8)],.val (uI .u8)⟩::ajt
theorem atf:aA Pg aju:=ax ate [] [] (by kernel_rfl)
def ajv:List Spec:=⟨I.aa,[(aS false 2),(kI 9)],.val (uI .u8)⟩::aju
theorem atg:aA Pg ajv:=ax atf [] [] (by kernel_rfl)
def ajw:List Spec:=⟨I.aa,[(aS false 2),(kI 10)],.val (uI .u8)⟩::ajv
theorem ath:aA Pg ajw:=ax atg [] [] (by kernel_rfl)
def ajx:List Spec:=⟨I.aa,[(aS false 2),(kI 11)],.val (uI .u8)⟩::ajw
theorem ati:aA Pg ajx:=ax ath [] [] (by kernel_rfl)
def ajy:List Spec:=⟨I.aa,[(aS false 2),(kI 12)],.val (uI .u8)⟩::ajx
theorem atj:aA Pg ajy:=ax ati [] [] (by kernel_rfl)
def ajz:List Spec:=⟨I.aa,[(aS false 2),(kI 13)],.val (uI .u8)⟩::ajy
theorem atk:aA Pg ajz:=ax atj [] [] (by kernel_rfl)
def ajA:List Spec:=⟨I.aa,[(aS false 2),(kI 14)],.val (uI .u8)⟩::ajz
theorem atl:aA Pg ajA:=ax atk [] [] (by kernel_rfl)
def ajB:List Spec:=⟨I.aa,[(aS false 2),(kI 15)],.val (uI .u8)⟩::ajA
theorem atm:aA Pg ajB:=ax atl [] [] (by kernel_rfl)
def ajC:List Spec:=⟨I.aa,[(aS false 2),(kI 16)],.val (.int .u8 (some 0))⟩::ajB
theorem atn:aA Pg ajC:=ax atm [] [] (by kernel_rfl)
def ajD:List Spec:=⟨I.aa,[(aS false 2),(kI 17)],.val (.int .u8 (some 0))⟩::ajC
theorem ato:aA Pg ajD:=ax atn [] [] (by kernel_rfl)
def ajE:List Spec:=⟨I.aa,[(aS false 2),(kI 18)],.val (.int .u8 (some 0))⟩::ajD
theorem atp:aA Pg ajE:=ax ato [] [] (by kernel_rfl)
def ajF:List Spec:=⟨I.aa,[(aS false 2),(kI 19)],.val (.int .u8 (some 0))⟩::ajE
theorem atq:aA Pg ajF:=ax atp [] [] (by kernel_rfl)
def ajG:List Spec:=⟨I.aa,[(aS false 2),(kI 20)],.val (.int .u8 (some 0))⟩::ajF
theorem atr:aA Pg ajG:=ax atq [] [] (by kernel_rfl)
def ajH:List Spec:=⟨I.aa,[(aS false 2),(kI 21)],.val (.int .u8 (some 0))⟩::ajG
theorem ats:aA Pg ajH:=ax atr [] [] (by kernel_rfl)
def ajI:List Spec:=⟨I.aa,[(aS false 2),(kI 22)],.val (.int .u8 (some 0))⟩::ajH
theorem atu:aA Pg ajI:=ax ats [] [] (by kernel_rfl)
def ajJ:List Spec:=⟨I.aa,[(aS false 2),(kI 23)],.val (.int .u8 (some 0))⟩::ajI
theorem atv:aA Pg ajJ:=ax atu [] [] (by kernel_rfl)
def ajK:List Spec:=⟨I.aa,[(aS false 2),(kI 24)],.val (.int .u8 (some 0))⟩::ajJ
theorem atw:aA Pg ajK:=ax atv [] [] (by kernel_rfl)
def ajL:List Spec:=⟨I.aa,[(aS false 2),(kI 25)],.val (.int .u8 (some 0))⟩::ajK
theorem atx:aA Pg ajL:=ax atw [] [] (by kernel_rfl)
def ajM:List Spec:=⟨I.aa,[(aS false 2),(kI 26)],.val (.int .u8 (some 0))⟩::ajL
theorem aty:aA Pg ajM:=ax atx [] [] (by kernel_rfl)
def ajN:List Spec:=⟨I.aa,[(aS false 2),(kI 27)],.val (.int .u8 (some 0))⟩::ajM
theorem atz:aA Pg ajN:=ax aty [] [] (by kernel_rfl)
def ajO:List Spec:=⟨I.aa,[(aS false 2),(kI 28)],.val (.int .u8 (some 0))⟩::ajN
theorem atA:aA Pg ajO:=ax atz [] [] (by kernel_rfl)
def ajP:List Spec:=⟨I.aa,[(aS false 2),(kI 29)],.val (.int .u8 (some 0))⟩::ajO
theorem atB:aA Pg ajP:=ax atA [] [] (by kernel_rfl)
def ajQ:List Spec:=⟨I.aa,[(aS false 2),(kI 30)],.val (.int .u8 (some 0))⟩::ajP
theorem atC:aA Pg ajQ:=ax atB [] [] (by kernel_rfl)
def ajR:List Spec:=⟨I.aa,[(aS false 2),(kI 31)],.val (.int .u8 (some 0))⟩::ajQ
theorem atD:aA Pg ajR:=ax atC [] [] (by kernel_rfl)
def ajS:List Spec:=⟨I.aa,[(aS false 2),(kI 32)],.val (.int .u8 (some 0))⟩::ajR
theorem atE:aA Pg ajS:=ax atD [] [] (by kernel_rfl)
def ajT:List Spec:=⟨I.aa,[(aS false 2),(kI 33)],.val (.int .u8 (some 0))⟩::ajS
theorem atF:aA Pg ajT:=ax atE [] [] (by kernel_rfl)
def ajU:List Spec:=⟨I.aa,[(aS false 2),(kI 34)],.val (.int .u8 (some 0))⟩::ajT
theorem atG:aA Pg ajU:=ax atF [] [] (by kernel_rfl)
def ajV:List Spec:=⟨I.aa,[(aS false 2),(kI 35)],.val (.int .u8 (some 0))⟩::ajU
theorem atH:aA Pg ajV:=ax atG [] [] (by kernel_rfl)
def ajW:List Spec:=⟨I.aa,[(aS false 2),(kI 36)],.val (.int .u8 (some 0))⟩::ajV
theorem atI:aA Pg ajW:=ax atH [] [] (by kernel_rfl)
def ajX:List Spec:=⟨I.aa,[(aS false 2),(kI 37)],.val (.int .u8 (some 0))⟩::ajW
theorem atJ:aA Pg ajX:=ax atI [] [] (by kernel_rfl)
def ajY:List Spec:=⟨I.aa,[(aS false 2),(kI 38)],.val (.int .u8 (some 0))⟩::ajX
theorem atK:aA Pg ajY:=ax atJ [] [] (by kernel_rfl)
def ajZ:List Spec:=⟨I.aa,[(aS false 2),(kI 39)],.val (.int .u8 (some 0))⟩::ajY
theorem atL:aA Pg ajZ:=ax atK [] [] (by kernel_rfl)
def aj0:List Spec:=⟨I.aa,[(aS false 2),(kI 40)],.val (.int .u8 (some 0))⟩::ajZ
theorem atM:aA Pg aj0:=ax atL [] [] (by kernel_rfl)
def aj1:List Spec:=⟨I.aa,[(aS false 2),(kI 41)],.val (.int .u8 (some 0))⟩::aj0
theorem atN:aA Pg aj1:=ax atM [] [] (by kernel_rfl)
def aj2:List Spec:=⟨I.aa,[(aS false 2),(kI 42)],.val (.int .u8 (some 0))⟩::aj1
theorem atO:aA Pg aj2:=ax atN [] [] (by kernel_rfl)
def aj3:List Spec:=⟨I.aa,[(aS false 2),(kI 43)],.val (.int .u8 (some 0))⟩::aj2
theorem atP:aA Pg aj3:=ax atO [] [] (by kernel_rfl)
def aj4:List Spec:=⟨I.aa,[(aS false 2),(kI 44)],.val (.int .u8 (some 0))⟩::aj3
theorem atQ:aA Pg aj4:=ax atP [] [] (by kernel_rfl)
def aj5:List Spec:=⟨I.aa,[(aS false 2),(kI 45)],.val (.int .u8 (some 0))⟩::aj4
theorem atS:aA Pg aj5:=ax atQ [] [] (by kernel_rfl)
def aj6:List Spec:=⟨I.aa,[(aS false 2),(kI 46)],.val (.int .u8 (some 0))⟩::aj5
theorem atT:aA Pg aj6:=ax atS [] [] (by kernel_rfl)
def aj7:List Spec:=⟨I.aa,[(aS false 2),(kI 47)],.val (.int .u8 (some 0))⟩::aj6
theorem atU:aA Pg aj7:=ax atT [] [] (by kernel_rfl)
def aj8:List Spec:=⟨I.aa,[(aS false 2),(kI 48)],.val (.int .u8 (some 0))⟩::aj7
theorem atV:aA Pg aj8:=ax atU [] [] (by kernel_rfl)
def aj9:List Spec:=⟨I.aa,[(aS false 2),(kI 49)],.val (.int .u8 (some 0))⟩::aj8
theorem atW:aA Pg aj9:=ax atV [] [] (by kernel_rfl)
def aka:List Spec:=⟨I.aa,[(aS false 2),(kI 50)],.val (.int .u8 (some 0))⟩::aj9
theorem atX:aA Pg aka:=ax atW [] [] (by kernel_rfl)
def akb:List Spec:=⟨I.aa,[(aS false 2),(kI 51)],.val (.int .u8 (some 0))⟩::aka
theorem atY:aA Pg akb:=ax atX [] [] (by kernel_rfl)
def akc:List Spec:=⟨I.aa,[(aS false 2),(kI 52)],.val (.int .u8 (some 0))⟩::akb
theorem atZ:aA Pg akc:=ax atY [] [] (by kernel_rfl)
def akd:List Spec:=⟨I.aa,[(aS false 2),(kI 53)],.val (.int .u8 (some 0))⟩::akc
theorem at0:aA Pg akd:=ax atZ [] [] (by kernel_rfl)
def ake:List Spec:=⟨I.aa,[(aS false 2),(kI 54)],.val (.int .u8 (some 0))⟩::akd
theorem at1:aA Pg ake:=ax at0 [] [] (by kernel_rfl)
def akf:List Spec:=⟨I.aa,[(aS false 2),(kI 55)],.val (.int .u8 (some 0))⟩::ake
theorem at2:aA Pg akf:=ax at1 [] [] (by kernel_rfl)
def akg:List Spec:=⟨I.aa,[(aS false 2),(kI 56)],.val (.int .u8 (some 0))⟩::akf
theorem at3:aA Pg akg:=ax at2 [] [] (by kernel_rfl)
def akh:List Spec:=⟨I.aa,[(aS false 2),(kI 57)],.val (.int .u8 (some 0))⟩::akg
theorem at4:aA Pg akh:=ax at3 [] [] (by kernel_rfl)
def aki:List Spec:=⟨I.aa,[(aS false 2),(kI 58)],.val (.int .u8 (some 0))⟩::akh
theorem at5:aA Pg aki:=ax at4 [] [] (by kernel_rfl)
def akj:List Spec:=⟨I.aa,[(aS false 2),(kI 59)],.val (.int .u8 (some 0))⟩::aki
theorem at6:aA Pg akj:=ax at5 [] [] (by kernel_rfl)
def akk:List Spec:=⟨I.aa,[(aS false 2),(kI 60)],.val (.int .u8 (some 0))⟩::akj
theorem at7:aA Pg akk:=ax at6 [] [] (by kernel_rfl)
def akl:List Spec:=⟨I.aa,[(aS false 2),(kI 61)],.val (.int .u8 (some 0))⟩::akk
theorem at8:aA Pg akl:=ax at7 [] [] (by kernel_rfl)
def akm:List Spec:=⟨I.aa,[(aS false 2),(kI 62)],.val (.int .u8 (some 0))⟩::akl
theorem at9:aA Pg akm:=ax at8 [] [] (by kernel_rfl)
def akn:List Spec:=⟨I.aa,[(aS false 2),(kI 63)],.val (.int .u8 (some 0))⟩::akm
theorem aua:aA Pg akn:=ax at9 [] [] (by kernel_rfl)
def ako:List Spec:=⟨I.aa,[(aS false 2),(kI 64)],.val (.int .u8 (some 0))⟩::akn
theorem aub:aA Pg ako:=ax aua [] [] (by kernel_rfl)
def akp:List Spec:=⟨I.aa,[(aS false 2),(kI 65)],.val (.int .u8 (some 0))⟩::ako
theorem auc:aA Pg akp:=ax aub [] [] (by kernel_rfl)
def akq:List Spec:=⟨I.aa,[(aS false 2),(kI 66)],.val (.int .u8 (some 0))⟩::akp
theorem aud:aA Pg akq:=ax auc [] [] (by kernel_rfl)
def akr:List Spec:=⟨I.aa,[(aS false 2),(kI 67)],.val (.int .u8 (some 0))⟩::akq
theorem aue:aA Pg akr:=ax aud [] [] (by kernel_rfl)
def aks:List Spec:=⟨I.aa,[(aS false 2),(kI 68)],.val (.int .u8 (some 0))⟩::akr
theorem auf:aA Pg aks:=ax aue [] [] (by kernel_rfl)
def akt:List Spec:=⟨I.aa,[(aS false 2),(kI 69)],.val (.int .u8 (some 0))⟩::aks
theorem aug:aA Pg akt:=ax auf [] [] (by kernel_rfl)
def aku:List Spec:=⟨I.aa,[(aS false 2),(kI 70)],.val (.int .u8 (some 0))⟩::akt
theorem auh:aA Pg aku:=ax aug [] [] (by kernel_rfl)
def akv:List Spec:=⟨I.aa,[(aS false 2),(kI 71)],.val (.int .u8 (some 0))⟩::aku
theorem aui:aA Pg akv:=ax auh [] [] (by kernel_rfl)
def akw:List Spec:=⟨I.aa,[(aS false 2),(kI 72)],.val (.int .u8 (some 0))⟩::akv
theorem auj:aA Pg akw:=ax aui [] [] (by kernel_rfl)
def akx:List Spec:=⟨I.aa,[(aS false 2),(kI 73)],.val (.int .u8 (some 0))⟩::akw
theorem auk:aA Pg akx:=ax auj [] [] (by kernel_rfl)
def aky:List Spec:=⟨I.aa,[(aS false 2),(kI 74)],.val (.int .u8 (some 0))⟩::akx
theorem aul:aA Pg aky:=ax auk [] [] (by kernel_rfl)
def akz:List Spec:=⟨I.aa,[(aS false 2),(kI 75)],.val (.int .u8 (some 0))⟩::aky
theorem aum:aA Pg akz:=ax aul [] [] (by kernel_rfl)
def akA:List Spec:=⟨I.aa,[(aS false 2),(kI 76)],.val (.int .u8 (some 0))⟩::akz
theorem aun:aA Pg akA:=ax aum [] [] (by kernel_rfl)
def akB:List Spec:=⟨I.aa,[(aS false 2),(kI 77)],.val (.int .u8 (some 0))⟩::akA
theorem auo:aA Pg akB:=ax aun [] [] (by kernel_rfl)
def akC:List Spec:=⟨I.aa,[(aS false 2),(kI 78)],.val (.int .u8 (some 0))⟩::akB
theorem aup:aA Pg akC:=ax auo [] [] (by kernel_rfl)
def akD:List Spec:=⟨I.aa,[(aS false 2),(kI 79)],.val (.int .u8 (some 0))⟩::akC
theorem auq:aA Pg akD:=ax aup [] [] (by kernel_rfl)
def akE:List Spec:=⟨I.aa,[(aS false 2),(kI 80)],.val (.int .u8 (some 0))⟩::akD
theorem aur:aA Pg akE:=ax auq [] [] (by kernel_rfl)
def akF:List Spec:=⟨I.aa,[(aS false 2),(kI 81)],.val (.int .u8 (some 0))⟩::akE
theorem aus:aA Pg akF:=ax aur [] [] (by kernel_rfl)
def akG:List Spec:=⟨I.aa,[(aS false 2),(kI 82)],.val (.int .u8 (some 0))⟩::akF
theorem aut:aA Pg akG:=ax aus [] [] (by kernel_rfl)
def akH:List Spec:=⟨I.aa,[(aS false 2),(kI 83)],.val (.int .u8 (some 0))⟩::akG
theorem auu:aA Pg akH:=ax aut [] [] (by kernel_rfl)
def akI:List Spec:=⟨I.aa,[(aS false 2),(kI 84)],.val (.int .u8 (some 0))⟩::akH
theorem auv:aA Pg akI:=ax auu [] [] (by kernel_rfl)
def akJ:List Spec:=⟨I.aa,[(aS false 2),(kI 85)],.val (.int .u8 (some 0))⟩::akI
theorem auw:aA Pg akJ:=ax auv [] [] (by kernel_rfl)
def akK:List Spec:=⟨I.aa,[(aS false 2),(kI 86)],.val (.int .u8 (some 0))⟩::akJ
theorem auy:aA Pg akK:=ax auw [] [] (by kernel_rfl)
def akL:List Spec:=⟨I.aa,[(aS false 2),(kI 87)],.val (.int .u8 (some 0))⟩::akK
theorem auz:aA Pg akL:=ax auy [] [] (by kernel_rfl)
def akM:List Spec:=⟨I.aa,[(aS false 2),(kI 88)],.val (.int .u8 (some 0))⟩::akL
theorem auA:aA Pg akM:=ax auz [] [] (by kernel_rfl)
def akN:List Spec:=⟨I.aa,[(aS false 2),(kI 89)],.val (.int .u8 (some 0))⟩::akM
theorem auB:aA Pg akN:=ax auA [] [] (by kernel_rfl)
def akO:List Spec:=⟨I.aa,[(aS false 2),(kI 90)],.val (.int .u8 (some 0))⟩::akN
theorem auC:aA Pg akO:=ax auB [] [] (by kernel_rfl)
def akP:List Spec:=⟨I.aa,[(aS false 2),(kI 91)],.val (.int .u8 (some 0))⟩::akO
theorem auD:aA Pg akP:=ax auC [] [] (by kernel_rfl)
def akQ:List Spec:=⟨I.aa,[(aS false 2),(kI 92)],.val (.int .u8 (some 0))⟩::akP
theorem auE:aA Pg akQ:=ax auD [] [] (by kernel_rfl)
def akR:List Spec:=⟨I.aa,[(aS false 2),(kI 93)],.val (.int .u8 (some 0))⟩::akQ
theorem auF:aA Pg akR:=ax auE [] [] (by kernel_rfl)
def akS:List Spec:=⟨I.aa,[(aS false 2),(kI 94)],.val (.int .u8 (some 0))⟩::akR
theorem auG:aA Pg akS:=ax auF [] [] (by kernel_rfl)
def akT:List Spec:=⟨I.aa,[(aS false 2),(kI 95)],.val (.int .u8 (some 0))⟩::akS
theorem auH:aA Pg akT:=ax auG [] [] (by kernel_rfl)
def akU:List Spec:=⟨I.aa,[(aS false 2),(kI 96)],.val (.int .u8 (some 0))⟩::akT
theorem auI:aA Pg akU:=ax auH [] [] (by kernel_rfl)
def akV:List Spec:=⟨I.aa,[(aS false 2),(kI 97)],.val (.int .u8 (some 0))⟩::akU
theorem auJ:aA Pg akV:=ax auI [] [] (by kernel_rfl)
def akW:List Spec:=⟨I.aa,[(aS false 2),(kI 98)],.val (.int .u8 (some 0))⟩::akV
theorem auK:aA Pg akW:=ax auJ [] [] (by kernel_rfl)
def akX:List Spec:=⟨I.aa,[(aS false 2),(kI 99)],.val (.int .u8 (some 0))⟩::akW
theorem auL:aA Pg akX:=ax auK [] [] (by kernel_rfl)
def akY:List Spec:=⟨I.aa,[(aS false 2),(kI 100)],.val (.int .u8 (some 0))⟩::akX
theorem auM:aA Pg akY:=ax auL [] [] (by kernel_rfl)
def akZ:List Spec:=⟨I.aa,[(aS false 2),(kI 101)],.val (.int .u8 (some 0))⟩::akY
theorem auN:aA Pg akZ:=ax auM [] [] (by kernel_rfl)
def ak0:List Spec:=⟨I.aa,[(aS false 2),(kI 102)],.val (.int .u8 (some 0))⟩::akZ
theorem auO:aA Pg ak0:=ax auN [] [] (by kernel_rfl)
def ak1:List Spec:=⟨I.aa,[(aS false 2),(kI 103)],.val (.int .u8 (some 0))⟩::ak0
theorem auP:aA Pg ak1:=ax auO [] [] (by kernel_rfl)
def ak2:List Spec:=⟨I.aa,[(aS false 2),(kI 104)],.val (.int .u8 (some 0))⟩::ak1
theorem auQ:aA Pg ak2:=ax auP [] [] (by kernel_rfl)
def ak3:List Spec:=⟨I.aa,[(aS false 2),(kI 105)],.val (.int .u8 (some 0))⟩::ak2
theorem auR:aA Pg ak3:=ax auQ [] [] (by kernel_rfl)
def ak4:List Spec:=⟨I.aa,[(aS false 2),(kI 106)],.val (.int .u8 (some 0))⟩::ak3
theorem auS:aA Pg ak4:=ax auR [] [] (by kernel_rfl)
def ak5:List Spec:=⟨I.aa,[(aS false 2),(kI 107)],.val (.int .u8 (some 0))⟩::ak4
theorem auT:aA Pg ak5:=ax auS [] [] (by kernel_rfl)
def ak6:List Spec:=⟨I.aa,[(aS false 2),(kI 108)],.val (.int .u8 (some 0))⟩::ak5
theorem auU:aA Pg ak6:=ax auT [] [] (by kernel_rfl)
def ak7:List Spec:=⟨I.aa,[(aS false 2),(kI 109)],.val (.int .u8 (some 0))⟩::ak6
theorem auV:aA Pg ak7:=ax auU [] [] (by kernel_rfl)
def ak8:List Spec:=⟨I.aa,[(aS false 2),(kI 110)],.val (.int .u8 (some 0))⟩::ak7
theorem auW:aA Pg ak8:=ax auV [] [] (by kernel_rfl)
def ak9:List Spec:=⟨I.aa,[(aS false 2),(kI 111)],.val (.int .u8 (some 0))⟩::ak8
theorem auX:aA Pg ak9:=ax auW [] [] (by kernel_rfl)
def ala:List Spec:=⟨I.aa,[(aS false 2),(kI 112)],.val (.int .u8 (some 0))⟩::ak9
theorem auY:aA Pg ala:=ax auX [] [] (by kernel_rfl)
def alb:List Spec:=⟨I.aa,[(aS false 2),(kI 113)],.val (.int .u8 (some 0))⟩::ala
theorem auZ:aA Pg alb:=ax auY [] [] (by kernel_rfl)
def alc:List Spec:=⟨I.aa,[(aS false 2),(kI 114)],.val (.int .u8 (some 0))⟩::alb
theorem au0:aA Pg alc:=ax auZ [] [] (by kernel_rfl)
def ald:List Spec:=⟨I.aa,[(aS false 2),(kI 115)],.val (.int .u8 (some 0))⟩::alc
theorem au1:aA Pg ald:=ax au0 [] [] (by kernel_rfl)
def ale:List Spec:=⟨I.aa,[(aS false 2),(kI 116)],.val (.int .u8 (some 0))⟩::ald
theorem au2:aA Pg ale:=ax au1 [] [] (by kernel_rfl)
def alf:List Spec:=⟨I.aa,[(aS false 2),(kI 117)],.val (.int .u8 (some 0))⟩::ale
theorem au3:aA Pg alf:=ax au2 [] [] (by kernel_rfl)
def alg:List Spec:=⟨I.aa,[(aS false 2),(kI 118)],.val (.int .u8 (some 0))⟩::alf
theorem au4:aA Pg alg:=ax au3 [] [] (by kernel_rfl)
def alh:List Spec:=⟨I.aa,[(aS false 2),(kI 119)],.val (.int .u8 (some 0))⟩::alg
theorem au5:aA Pg alh:=ax au4 [] [] (by kernel_rfl)
def ali:List Spec:=⟨I.aa,[(aS false 2),(kI 120)],.val (.int .u8 (some 0))⟩::alh
theorem au6:aA Pg ali:=ax au5 [] [] (by kernel_rfl)
def alj:List Spec:=⟨I.aa,[(aS false 2),(kI 121)],.val (.int .u8 (some 0))⟩::ali
theorem au7:aA Pg alj:=ax au6 [] [] (by kernel_rfl)
def alk:List Spec:=⟨I.aa,[(aS false 2),(kI 122)],.val (.int .u8 (some 0))⟩::alj
theorem au8:aA Pg alk:=ax au7 [] [] (by kernel_rfl)
def alm:List Spec:=⟨I.aa,[(aS false 2),(kI 123)],.val (.int .u8 (some 0))⟩::alk
theorem au9:aA Pg alm:=ax au8 [] [] (by kernel_rfl)
def aln:List Spec:=⟨I.aa,[(aS false 2),(kI 124)],.val (.int .u8 (some 0))⟩::alm
theorem ava:aA Pg aln:=ax au9 [] [] (by kernel_rfl)
def alo:List Spec:=⟨I.aa,[(aS false 2),(kI 125)],.val (.int .u8 (some 0))⟩::aln
theorem avb:aA Pg alo:=ax ava [] [] (by kernel_rfl)
def alp:List Spec:=⟨I.aa,[(aS false 2),(kI 126)],.val (.int .u8 (some 0))⟩::alo
theorem avc:aA Pg alp:=ax avb [] [] (by kernel_rfl)
def alr:List Spec:=⟨I.aa,[(aS false 2),(kI 127)],.val (.int .u8 (some 0))⟩::alp
theorem avd:aA Pg alr:=ax avc [] [] (by kernel_rfl)
def als:List Spec:=⟨I.aa,[(aS false 4),(kI 0)],.val (uI .u8)⟩::alr
theorem ave:aA Pg als:=ax avd [] [] (by kernel_rfl)
def alu:List Spec:=⟨I.aa,[(aS false 4),(kI 1)],.val (uI .u8)⟩::als
theorem avf:aA Pg alu:=ax ave [] [] (by kernel_rfl)
def alv:List Spec:=⟨I.aa,[(aS false 4),(kI 2)],.val (uI .u8)⟩::alu
theorem avg:aA Pg alv:=ax avf [] [] (by kernel_rfl)
def alw:List Spec:=⟨I.aa,[(aS false 4),(kI 3)],.val (uI .u8)⟩::alv
theorem avh:aA Pg alw:=ax avg [] [] (by kernel_rfl)
def alx:List Spec:=⟨I.aa,[(aS false 4),(kI 4)],.val (uI .u8)⟩::alw
theorem avi:aA Pg alx:=ax avh [] [] (by kernel_rfl)
def aly:List Spec:=⟨I.aa,[(aS false 4),(kI 5)],.val (uI .u8)⟩::alx
theorem avj:aA Pg aly:=ax avi [] [] (by kernel_rfl)
def alz:List Spec:=⟨I.aa,[(aS false 4),(kI 6)],.val (uI .u8)⟩::aly
theorem avk:aA Pg alz:=ax avj [] [] (by kernel_rfl)
def alA:List Spec:=⟨I.aa,[(aS false 4),(kI 7)],.val (uI .u8)⟩::alz
theorem avl:aA Pg alA:=ax avk [] [] (by kernel_rfl)
def alB:List Spec:=⟨I.aa,[(aS false 4),(kI 8)],.val (uI .u8)⟩::alA
theorem avm:aA Pg alB:=ax avl [] [] (by kernel_rfl)
def alC:List Spec:=⟨I.aa,[(aS false 4),(kI 9)],.val (uI .u8)⟩::alB
theorem avn:aA Pg alC:=ax avm [] [] (by kernel_rfl)
def alD:List Spec:=⟨I.aa,[(aS false 4),(kI 10)],.val (uI .u8)⟩::alC
theorem avo:aA Pg alD:=ax avn [] [] (by kernel_rfl)
def alE:List Spec:=⟨I.aa,[(aS false 4),(kI 11)],.val (uI .u8)⟩::alD
theorem avp:aA Pg alE:=ax avo [] [] (by kernel_rfl)
def alF:List Spec:=⟨I.aa,[(aS false 4),(kI 12)],.val (uI .u8)⟩::alE
theorem avq:aA Pg alF:=ax avp [] [] (by kernel_rfl)
def alG:List Spec:=⟨I.aa,[(aS false 4),(kI 13)],.val (uI .u8)⟩::alF
theorem avr:aA Pg alG:=ax avq [] [] (by kernel_rfl)
def alH:List Spec:=⟨I.aa,[(aS false 4),(kI 14)],.val (uI .u8)⟩::alG
theorem avs:aA Pg alH:=ax avr [] [] (by kernel_rfl)
def alI:List Spec:=⟨I.aa,[(aS false 4),(kI 15)],.val (uI .u8)⟩::alH
theorem avt:aA Pg alI:=ax avs [] [] (by kernel_rfl)
def alJ:List Spec:=⟨I.cA,[(.st 18 [(aS false 2),(kI 16)])],.val (.bl (some true))⟩::alI
theorem avu:aA Pg alJ:=ax avt [] [19] (by kernel_rfl)
def alK:Spec:=⟨I.iq,[(.st 18 [(aS false 2),(kI 16)]),(aS false 4)],.val (.bl none)⟩
def alL:List Spec:=alK::alJ
theorem alM:aA Pg alL:=ax avu [] [12] (by kernel_rfl)
def alN:Spec:=⟨I.iq,[(.st 18 [(aS false 2),(kI 16)]),(aS true 16)],.val (.bl none)⟩
def avv:List Spec:=alN::alL
theorem avw:aA Pg avv:=ax alM [] [12] (by kernel_rfl)
end Go.Ab
noncomputable section Q12s
namespace Go.Ab
open Go.Ab
theorem JJ (a b:Int) (ha:0≤a) (ha2:a≤18446744073709551615) (hb:0≤b) (EN:b≤18446744073709551615):bits .or .u64 a b=((a.toNat|||b.toNat:Nat):Int):=by
 have hx:a.toNat|||b.toNat<2^64:=Nat.or_lt_two_pow (by omega) (by omega)
 have h1:(BitVec.ofInt 64 a).toNat=a.toNat:=by
  rw[show a=((a.toNat:Nat):Int) by omega,BitVec.ofInt_natCast,BitVec.toNat_ofNat];exact Nat.mod_eq_of_lt (by omega)
 have h2:(BitVec.ofInt 64 b).toNat=b.toNat:=by
  rw[show b=((b.toNat:Nat):Int) by omega,BitVec.ofInt_natCast,BitVec.toNat_ofNat];exact Nat.mod_eq_of_lt (by omega)
 show IntKind.u64.wrap ((BitVec.ofInt 64 a|||BitVec.ofInt 64 b).toNat:Int)=_
 rw[BitVec.toNat_or,h1,h2]
 exact wrap_u64 (by omega)
def Te (x:UInt8):Int:=bits .or .u64 0 (IntKind.u64.wrap x.toNat)
theorem alO (x:UInt8):0≤Te x∧Te x≤255:=by
 have hx:=x.toNat_lt
 have hw:IntKind.u64.wrap (x.toNat:Int)=x.toNat:=wrap_u64 (by omega)
 rw[Te,hw,JJ 0 _ (by omega) (by omega) (by omega) (by omega)]
 have:=Nat.or_lt_two_pow (x:=(0:Int).toNat) (y:=((x.toNat:Nat):Int).toNat) (n:=8) (by omega) (by omega)
 omega
def Tf (x y:UInt8):Int:=bits .or .u64 (IntKind.u64.wrap (Te x*2^min 8 IntKind.u64.bits)) (IntKind.u64.wrap y.toNat)
theorem alP (x y:UInt8):0≤Tf x y∧Tf x y≤65535:=by
 have hy:=y.toNat_lt
 have hw:IntKind.u64.wrap (y.toNat:Int)=y.toNat:=wrap_u64 (by omega)
 have h1:=alO x
 have e:(2:Int)^min 8 IntKind.u64.bits=256:=rfl
 have uR:IntKind.u64.wrap (Te x*256)=Te x*256:=wrap_u64 (by omega)
 rw[Tf,hw,e,uR,JJ _ _ (by omega) (by omega) (by omega) (by omega)]
 have:=Nat.or_lt_two_pow (x:=(Te x*256).toNat) (y:=((y.toNat:Nat):Int).toNat) (n:=16) (by omega) (by omega)
 omega
theorem OS (x y:UInt8):bB Pg I.lA [eN [x,y]] (.int .u64 (Tf x y)):=by
 refine af.intro T.GH (by simp[F.GH]) ?_
 simp[F.GH,an,aG,eN]
 refine jh.jY 2 (λ_=>True) [3,6,7,8] (λi=>[(3,.int .u64 (if i=0 then 0 else if i=1 then Te x else Tf x y)),(8,.int .i64 i)]) (λi=>[]) [.keep [3,6,7,8]] ?_
 simp
 refine⟨λi hi K hK=> ?_,λK=> ?_⟩
 ·have:i=0∨i=1:=by omega
  rcases this with rfl|rfl
  ·simp[↓av,u8]
   refine⟨[.keep [3,6,7,8]],?_⟩
   simp
   exact hK _ (by simp[Te,u8])
  ·simp[↓av,u8]
   refine⟨[.keep [3,6,7,8]],?_⟩
   simp
   exact hK _ (by simp[Tf,u8])
 ·simp[↓av]
  refine aM.plain [] ?_
  simp
theorem Zr {l:List UInt8} (hl:l.length=2):∃n:Int,(0≤n∧n≤65535)∧bB Pg I.eL [eN l] (.int .i64 n):=by
 match l,hl with
 |
  [x,y],_=>
  have hb:=alP x y
  refine⟨Tf x y,hb,?_⟩
  have hR:=OS x y
  refine af.intro T.eL (by simp[F.eL]) ?_
  simp[F.eL,an,aG,eN]
  simp only[eN]at hR
  refine al.ret hR (by simp) (by simp) (by simp) ?_
  have hw:IntKind.i64.wrap (Tf x y)=Tf x y:=wrap_i64 (by omega)
  simp[hw]
  refine aM.plain [] ?_
  simp
def Bx (s:Bool) (l:List Int):PV:= .st 17 [.bl s,.ar 1 16 (jb l)]
@[simp] theorem alQ (s:Bool) (l:List Int):Pure (Bx s l):=by simp[Bx]
@[simp] theorem avx (s:Bool) (l:List Int):wk (Bx s l)=Bx s l:=by simp[Bx]
@[simp] theorem adq (s:Bool) (l:List Int):(Bx s l).width=17:=_root_.id rfl
@[simp] theorem apD (s:Bool) (l:List Int):(Bx s l).isAgg=true:=_root_.id rfl
@[simp] theorem alR (s:Bool) (l:List Int):(Bx s l).bp=true:=_root_.id rfl
@[simp↓] theorem apE (g:Bool) (s:Bool) (l:List Int) (K:PV->Prop):il g (Bx s l) K=K (Bx s l):=_root_.id rfl
def A4S:AV:= .st 17 [(.bl (some false)),(.ar 1 16 (uL .u8 4++List.replicate 12 (.int .u8 (some 0))))]
def avy:AV:= .st 17 [(.bl (some true)),(.ar 1 16 (uL .u8 16++List.replicate 0 (.int .u8 (some 0))))]
def GA (s:Bool) (l:List Int):Prop:=gm A4S (Bx s l)∨gm avy (Bx s l)
theorem JK {k:IntKind}:∀ {a:List AV} {m:List PV},(∀x∈a,∃o,x= .int k o)->bT a m->∃l:List Int,m=l.map (.int k)
 |[],[],_,_=>⟨[],rfl⟩
 |[],_::_,_,h=>by simp[bT]at h
 |_::_,[],_,h=>by simp[bT]at h
 |
  x::a,p::m,hk,h=>by
  obtain⟨h1,h2⟩:=h
  obtain⟨l,rfl⟩:=JK (λy hy=>hk y (List.mem_cons_of_mem _ hy)) h2
  obtain⟨o,rfl⟩:=hk x (List.mem_cons_self ..)
  cases p<;>simp only[gm]at h1
  obtain⟨rfl,_⟩:=h1
  exact⟨_::l,rfl⟩
theorem Wi {s:Bool} {a:List AV} {p:PV} (ha:∀x∈a,∃o,x= .int .u8 o) (h:gm (.st 17 [(.bl (some s)),(.ar 1 16 a)]) p):∃l,p=Bx s l:=by
 obtain⟨m,rfl,g⟩:=Wd h
 obtain⟨x1,m,rfl,h1,h⟩:=gr g
 obtain⟨x2,m,rfl,h2,h⟩:=gr h
 obtain rfl:=pL h
 cases x1<;>simp only[gm]at h1
 rename_i b
 have hb:b=s:=by simpa using h1
 subst hb
 cases x2<;>simp only[gm]at h2
 obtain⟨⟨rfl,rfl⟩,h2⟩:=h2
 obtain⟨l,rfl⟩:=JK ha h2
 exact⟨l,rfl⟩
theorem Dc {l:List UInt8} (hl:l.length=4∨l.length=16):∃(s:Bool) (a:List Int),GA s a∧bB Pg I.gf [eN l] (Bx s a):=by
 rw[JI]
 rcases hl with hl|hl
 ·obtain⟨_,v,h1,h2⟩:=aje ajc (.head _) [bS (l.map λx=>(x.toNat:Int))] ⟨oZ (by simpa using hl),trivial⟩
  obtain⟨a,rfl⟩:=Wi (by simp[uL]) h1
  exact⟨_,a,.inl h1,h2⟩
 ·obtain⟨_,v,h1,h2⟩:=ajh ajf (.head _) [bS (l.map λx=>(x.toNat:Int))] ⟨oZ (by simpa using hl),trivial⟩
  obtain⟨a,rfl⟩:=Wi (by simp[uL]) h1
  exact⟨_,a,.inr h1,h2⟩
def qa:List Int:=List.replicate 16 0
theorem EB:GA false qa:=by
 left
 simp[A4S,Bx,gm,bT,jb,uL,List.replicate,qa]
theorem pe:PV.st 17 [.bl false,.ar 1 16 (zr 16 (.int .u8 0))]=Bx false qa:=by rw[gX];rfl
theorem alT (x:UInt8):0≤bits .and .u8 (x.toNat:Int) 15∧bits .and .u8 (x.toNat:Int) 15≤15:=by
 have hx:=x.toNat_lt
 have h1:(BitVec.ofInt 8 (x.toNat:Int)).toNat=x.toNat:=by
  rw[BitVec.ofInt_natCast,BitVec.toNat_ofNat];exact Nat.mod_eq_of_lt (by omega)
 have h3:bits .and .u8 (x.toNat:Int) 15=IntKind.u8.wrap ((BitVec.ofInt 8 (x.toNat:Int)&&&BitVec.ofInt 8 15).toNat:Int):=rfl
 rw[h3,BitVec.toNat_and,h1]
 have h2:(BitVec.ofInt 8 15).toNat=15:=rfl
 rw[h2]
 have:=Nat.and_le_right (n:=x.toNat) (m:=15)
 rw[wrap_u8 (by omega)]
 omega
theorem OT {l:List UInt8} (hl:l.length≤80):∃(s1 s2:Bool) (l1 l2:List Int) (n e:Int),GA s2 l2∧(e=0->20≤n∧n≤l.length)∧
  bB Pg I.ku [eN l] (.tup [.st 35 [Bx s1 l1,Bx s2 l2,.int .i64 n],.int .i64 e]):=by
 by_cases h0:l.length=0
 ·refine⟨false,false,qa,qa,0,2,EB,by omega,?_⟩
  refine af.intro T.fI (by simp[F.fI]) ?_
  simp[F.fI,an,aG,pe,eN,h0]
  refine aM.plain [] ?_
  simp
 have h1:0<l.length:=by omega
 have hx:l[0]? =some l[0]:=gJ (by omega)
 have h2:¬(2016:Int)<l.length:=by omega
 generalize hv:((l[0]).toNat:Int).fdiv (2^min 4 IntKind.u8.bits)=v
 by_cases hv4:v=4
 ·have hv6:¬v=6:=by omega
  by_cases hlen:l.length<20
  ·have mI:(l.length:Int)<20:=by omega
   refine⟨false,false,qa,qa,0,2,EB,by omega,?_⟩
   refine af.intro T.fI (by simp[F.fI]) ?_
   simp[F.fI,an,aG,pe,eN,u8,h0,h1,h2,hv,hv4,mI]
   refine aM.plain [] ?_
   simp
  ·have mI:¬(l.length:Int)<20:=by omega
   have g12:(16:Int)≤l.length:=by omega
   have g16:(20:Int)≤l.length:=by omega
   have g20:(4:Int)≤l.length:=by omega
   obtain⟨s1,a1,hG1,T7⟩:=Dc (l:=(l.take 16).drop 12) (by simp;omega)
   obtain⟨s2,a2,hG2,T8⟩:=Dc (l:=(l.take 20).drop 16) (by simp;omega)
   obtain⟨n,hn,T9⟩:=Zr (l:=(l.take 4).drop 2) (by simp;omega)
   simp only[eN,List.map_take,List.map_drop]at T7 T8 T9
   have hh:=alT l[0]
   generalize hhd:bits .and .u8 ((l[0]).toNat:Int) 15=h at hh
   have yc:IntKind.i64.wrap h=h:=wrap_i64 (by omega)
   have uR:IntKind.i64.wrap (4*h)=4*h:=wrap_i64 (by omega)
   by_cases hh5:h<5
   ·refine⟨false,false,qa,qa,0,5,EB,by omega,?_⟩
    refine af.intro T.fI (by simp[F.fI]) ?_
    simp[F.fI,an,aG,pe,eN,u8,h0,h1,h2,hv,hv4,mI]
    refine ny.run [] rfl ?_
    simp[g12]
    refine a0.ret T7 (by simp) (by simp) (by simp) ?_
    simp[g16]
    refine a0.ret T8 (by simp) (by simp) (by simp) ?_
    simp[g20]
    refine a0.ret T9 (by simp) (by simp) (by simp) ?_
    simp[h1,u8,hhd,yc,hh5]
    refine aM.plain [] ?_
    simp
   by_cases hq:n<4*h
   ·refine⟨false,false,qa,qa,0,5,EB,by omega,?_⟩
    refine af.intro T.fI (by simp[F.fI]) ?_
    simp[F.fI,an,aG,pe,eN,u8,h0,h1,h2,hv,hv4,mI]
    refine ny.run [] rfl ?_
    simp[g12]
    refine a0.ret T7 (by simp) (by simp) (by simp) ?_
    simp[g16]
    refine a0.ret T8 (by simp) (by simp) (by simp) ?_
    simp[g20]
    refine a0.ret T9 (by simp) (by simp) (by simp) ?_
    simp[h1,u8,hhd,yc,uR,hh5,hq]
    refine aM.plain [] ?_
    simp
   by_cases hr:(l.length:Int)<n
   ·refine⟨false,false,qa,qa,0,2,EB,by omega,?_⟩
    refine af.intro T.fI (by simp[F.fI]) ?_
    simp[F.fI,an,aG,pe,eN,u8,h0,h1,h2,hv,hv4,mI]
    refine ny.run [] rfl ?_
    simp[g12]
    refine a0.ret T7 (by simp) (by simp) (by simp) ?_
    simp[g16]
    refine a0.ret T8 (by simp) (by simp) (by simp) ?_
    simp[g20]
    refine a0.ret T9 (by simp) (by simp) (by simp) ?_
    simp[h1,u8,hhd,yc,uR,hh5,hq,hr]
    refine aM.plain [] ?_
    simp
   have hs:¬(2000:Int)<n:=by omega
   refine⟨s1,s2,a1,a2,n,0,hG2,λ_=>⟨by omega,by omega⟩,?_⟩
   refine af.intro T.fI (by simp[F.fI]) ?_
   simp[F.fI,an,aG,pe,eN,u8,h0,h1,h2,hv,hv4,mI]
   refine ny.run [] rfl ?_
   simp[g12]
   refine a0.ret T7 (by simp) (by simp) (by simp) ?_
   simp[g16]
   refine a0.ret T8 (by simp) (by simp) (by simp) ?_
   simp[g20]
   refine a0.ret T9 (by simp) (by simp) (by simp) ?_
   simp[h1,u8,hhd,yc,uR,hh5,hq,hr,hs]
   refine aM.plain [] ?_
   simp
 by_cases hv6:v=6
 ·by_cases hlen:l.length<20
  ·have mI:(l.length:Int)<20:=by omega
   refine⟨false,false,qa,qa,0,2,EB,by omega,?_⟩
   refine af.intro T.fI (by simp[F.fI]) ?_
   simp[F.fI,an,aG,pe,eN,u8,h0,h1,h2,hv,hv6,mI]
   refine aM.plain [] ?_
   simp
  have mI:¬(l.length:Int)<20:=by omega
  by_cases aAa:l.length<40
  ·have EW:(l.length:Int)<40:=by omega
   have anp:(20:Int)≤l.length:=by omega
   refine⟨false,false,qa,qa,0,2,EB,by omega,?_⟩
   refine af.intro T.fI (by simp[F.fI]) ?_
   simp[F.fI,an,aG,pe,eN,u8,h0,h1,h2,hv,hv6,mI,EW]
   refine aM.plain [] ?_
   simp
  have EW:¬(l.length:Int)<40:=by omega
  have anp:(20:Int)≤l.length:=by omega
  have aAb:(40:Int)≤l.length:=by omega
  have g12:(16:Int)≤l.length:=by omega
  have g16:(20:Int)≤l.length:=by omega
  have g20:(4:Int)≤l.length:=by omega
  have g24:(24:Int)≤l.length:=by omega
  have g40:(40:Int)≤l.length:=by omega
  have g6:(6:Int)≤l.length:=by omega
  obtain⟨s1,a1,hG1,T7⟩:=Dc (l:=(l.take 16).drop 12) (by simp;omega)
  obtain⟨s2,a2,hG2,T8⟩:=Dc (l:=(l.take 20).drop 16) (by simp;omega)
  obtain⟨n,hn,T9⟩:=Zr (l:=(l.take 4).drop 2) (by simp;omega)
  obtain⟨s3,a3,hG3,hB1⟩:=Dc (l:=(l.take 24).drop 8) (by simp;omega)
  obtain⟨s4,a4,hG4,hB2⟩:=Dc (l:=(l.take 40).drop 24) (by simp;omega)
  obtain⟨m,hm,hN2⟩:=Zr (l:=(l.take 6).drop 4) (by simp;omega)
  simp only[eN,List.map_take,List.map_drop]at T7 T8 T9 hB1 hB2 hN2
  have uR:IntKind.i64.wrap (40+m)=40+m:=wrap_i64 (by omega)
  by_cases hr:(l.length:Int)<40+m
  ·refine⟨false,false,qa,qa,0,2,EB,by omega,?_⟩
   refine af.intro T.fI (by simp[F.fI]) ?_
   simp[F.fI,an,aG,pe,eN,u8,h0,h1,h2,hv,hv6,mI,EW]
   refine ny.run [] rfl ?_
   simp[g12]
   refine a0.ret T7 (by simp) (by simp) (by simp) ?_
   simp[g16]
   refine a0.ret T8 (by simp) (by simp) (by simp) ?_
   simp[g20]
   refine a0.ret T9 (by simp) (by simp) (by simp) ?_
   simp[g24]
   refine a0.ret hB1 (by simp) (by simp) (by simp) ?_
   simp[g40]
   refine a0.ret hB2 (by simp) (by simp) (by simp) ?_
   simp[g6]
   refine a0.ret hN2 (by simp) (by simp) (by simp) ?_
   simp[h1,u8,uR,hr]
   refine aM.plain [] ?_
   simp
  have hs:¬(2000:Int)<40+m:=by omega
  refine⟨s3,s4,a3,a4,40+m,0,hG4,λ_=>⟨by omega,by omega⟩,?_⟩
  refine af.intro T.fI (by simp[F.fI]) ?_
  simp[F.fI,an,aG,pe,eN,u8,h0,h1,h2,hv,hv6,mI,EW]
  refine ny.run [] rfl ?_
  simp[g12]
  refine a0.ret T7 (by simp) (by simp) (by simp) ?_
  simp[g16]
  refine a0.ret T8 (by simp) (by simp) (by simp) ?_
  simp[g20]
  refine a0.ret T9 (by simp) (by simp) (by simp) ?_
  simp[g24]
  refine a0.ret hB1 (by simp) (by simp) (by simp) ?_
  simp[g40]
  refine a0.ret hB2 (by simp) (by simp) (by simp) ?_
  simp[g6]
  refine a0.ret hN2 (by simp) (by simp) (by simp) ?_
  simp[h1,u8,uR,hr,hs]
  refine aM.plain [] ?_
  simp
 refine⟨false,false,qa,qa,0,4,EB,by omega,?_⟩
 refine af.intro T.fI (by simp[F.fI]) ?_
 simp[F.fI,an,aG,pe,eN,u8,h0,h1,h2,hv,hv4,hv6]
 refine aM.plain [] ?_
 simp
end Go.Ab
end Q12s
noncomputable section Q13s
namespace Go.Ab
open Go.Ab
theorem alU {l:List UInt8} (hl:l.length≤80):∃(p:List UInt8) (e:Int),(e=0->20≤p.length∧p.length≤80)∧bB Pg I.ei [eN l] (.tup [eN p,.int .i64 e]):=by
 obtain⟨s1,s2,l1,l2,n,e,hG,he,hC⟩:=OT hl
 by_cases h0:e=0
 ·obtain⟨Dr,PD⟩:=he h0
  subst h0
  refine⟨l.take n.toNat,0,λ_=>by simp;omega,?_⟩
  refine af.intro T.ei (by simp[F.ei]) ?_
  simp[F.ei,an,aG]
  refine al.ret hC (by simp) (by simp) (by simp) ?_
  simp[eN]
  refine⟨⟨by omega,by omega⟩,⟨by omega,by omega⟩,?_⟩
  refine aM.plain [.keep [2,3],.fz 19] ?_
  simp
  rw[tJ (by simp)]
 ·refine⟨[],e,λh=>absurd h h0,?_⟩
  refine af.intro T.ei (by simp[F.ei]) ?_
  simp[F.ei,an,aG]
  refine al.ret hC (by simp) (by simp) (by simp) ?_
  simp[h0]
  refine aM.plain [.wk 2] ?_
  simp[eN]
theorem alV {ll:List (List UInt8)} {n:Int} {p:List UInt8} (h:ll.length≤1000000000) (hb:∀b∈ll,b.length≤1073741824) (hp:p.length≤1073741824) (hn: -9223372036854775808≤n∧n≤9223372036854775807):
  bB Pg I.fV [gI ll,.int .i64 n,eN p] (.tup [gI ((ll++[p]).drop (ll.length+1-n.toNat)),.int .i64 (ll.length+1-n.toNat:Nat)]):=by
 refine af.intro T.fV (by simp[F.fV]) ?_
 simp[F.fV,an,aG,gI,eN]
 refine jh.jY ll.length (λ_=>True) [0,1,2,6,7,8,12,13,14] (λi=>[(8,.rs 8 [] 0 i i 1 .tip),(14,.int .i64 i)]) (λi=>[(8,.arr 1 ((ll.take i).map eN))]) [.vt 8 8 1] ?_
 simp
 refine⟨λi hi K hK=> ?_,λK=> ?_⟩
 ·have hx:ll[i]? =some ll[i]:=gJ hi
  have lO:min i ll.length=i:=by omega
  simp(disch:=omega) [↓av,hi,eN,lO]
  have:=hb _ (List.getElem_mem hi)
  repeat (refine⟨by omega,?_⟩)
  refine⟨[.keep [0,1,2,6,7,8,12,13,14],.fz 21],?_⟩
  simp
  exact hK _ (by
   have e:List.take (i+1) (ll.map eN)=(ll.map eN).take i++[eN ll[i]]:=by rw[List.take_succ_eq_append_getElem (by simpa using hi)];simp
   simp[e,eN])
 ·simp(disch:=omega) [↓av]
  repeat (refine⟨by omega,?_⟩)
  have e:max ((ll.length:Int)+1-max n 0) 0=(ll.length+1-n.toNat:Nat):=by omega
  rw[e]
  have e2:ll.length+1-n.toNat+(ll.length+1-(ll.length+1-n.toNat))≤ll.length+1:=by omega
  refine aM.plain [.keep [6,7,8],.fz 28,.fz 8,.wk 6] ?_
  simp
  exact tJ (by simp)
def PXS:AV:= .st 18 [.st 17 [(.bl (some false)),(.ar 1 16 (uL .u8 2++List.replicate 14 (.int .u8 (some 0))))],(kI 16)]
theorem Wj {i:Nat} (h:i<3):gm PXS (kq (rt i).K6):=by
 rcases(by omega:i=0∨i=1∨i=2)with rfl|rfl|rfl<;>simp[PXS,rt,rE,jv,kq,jF,gm,bT,uL,kI,List.replicate,u8]
theorem Wk {i:Nat} (h:i<3) {s:Bool} {a:List Int} (hG:GA s a):∃b:Bool,bB Pg I.iq [kq (rt i).K6,Bx s a] (.bl b):=by
 rcases hG with hG|hG
 ·obtain⟨_,v,h1,h2⟩:=alM alK (.head _) [kq (rt i).K6,Bx s a] ⟨Wj h,hG,trivial⟩
  cases v<;>simp only[gm]at h1
  exact⟨_,h2⟩
 ·obtain⟨_,v,h1,h2⟩:=avw alN (.head _) [kq (rt i).K6,Bx s a] ⟨Wj h,hG,trivial⟩
  cases v<;>simp only[gm]at h1
  exact⟨_,h2⟩
def xQ (c:Nat->Bool):Nat->Int
 |0=> -1
 |i+1=>if xQ c i<0∧c i=true then i else xQ c i
theorem OU (c:Nat->Bool):∀i,-1≤xQ c i∧xQ c i<i
 |0=>by simp[xQ]
 |
  i+1=>by
  have:=OU c i
  simp only[xQ]
  split<;>omega
theorem Th {l:List uk} (hl:C1 l) {s:Bool} {a:List Int} (hG:GA s a):∃(k:Key) (b:Bool),(b=true->∃i,i<l.length∧k=nZ i)∧bB Pg I.lT [dV l,Bx s a] (.tup [eF k,.bl b]):=by
 have hl3:=hl.1
 let c:Nat->Bool:=λi=>if h:i<3 then Classical.choose (Wk h hG)else false
 have hc:∀i,(h:i<3)->bB Pg I.iq [kq (rt i).K6,Bx s a] (.bl (c i)):=by
  intro i h
  have:=Classical.choose_spec (Wk h hG)
  simp only[c,dif_pos h]
  exact this
 generalize c=c at hc
 have hb:=OU c l.length
 refine⟨if xQ c l.length<0 then zK else nZ (xQ c l.length).toNat,decide (0≤xQ c l.length),?_,?_⟩
 ·intro h
  have h:0≤xQ c l.length:=by simpa using h
  exact⟨(xQ c l.length).toNat,by omega,by rw[if_neg (by omega)]⟩
 refine af.intro T.wF (by simp[F.wF]) ?_
 simp[F.wF,an,aG]
 refine jh.jY l.length (λ_=>True) [0,3,4,5,6,9,10,11] (λi=>[(6,.int .i64 (xQ c i)),(11,.int .i64 i)]) (λi=>[]) [.keep [0,3,4,5,6,9,10,11]] ?_
 simp
 refine⟨rfl,λi hi K hK=> ?_,λK=> ?_⟩
 ·have hx:l[i]? =some l[i]:=gJ hi
  have PG:=hl.2 i hi
  have EL:xQ c (i+1)=if xQ c i<0∧c i=true then(i:Int)else xQ c i:=rfl
  have hbi:=OU c i
  have hw:IntKind.i64.wrap ((i:Int)+1)=i+1:=wrap_i64 (by omega)
  by_cases h1:xQ c i<0
  ·by_cases h2:c i=true
   ·simp[↓av,hi,PG]
    refine a0.ret (hc i (by omega)) (by simp) (by simp) (by simp) ?_
    simp[h1,h2,hw]
    refine⟨[.keep [0,3,4,5,6,9,10,11],.dr 8],?_⟩
    simp
    rw[EL,if_pos ⟨h1,h2⟩]at hK
    exact hK _ (by simp)
   ·simp[↓av,hi,PG]
    refine a0.ret (hc i (by omega)) (by simp) (by simp) (by simp) ?_
    simp[h1,h2,hw]
    refine⟨[.keep [0,3,4,5,6,9,10,11],.dr 8],?_⟩
    simp
    rw[EL,if_neg (λe=>h2 e.2)]at hK
    exact hK _ (by simp)
  ·have hk:(xQ c i).toNat<l.length:=by omega
   have hxk:l[(xQ c i).toNat]? =some l[(xQ c i).toNat]:=gJ hk
   have hrk:=hl.2 _ hk
   have hg0:0≤xQ c i:=by omega
   have hg1:xQ c i<l.length:=by omega
   by_cases h2:c i=true
   ·simp[↓av,hi,PG]
    refine a0.ret (hc i (by omega)) (by simp) (by simp) (by simp) ?_
    simp[h1,h2,hrk,hg0,hg1,rt,rE,hw]
    refine⟨[.keep [0,3,4,5,6,9,10,11],.dr 8],?_⟩
    simp
    rw[EL,if_neg (λe=>h1 e.1)]at hK
    exact hK _ (by simp)
   ·simp[↓av,hi,PG]
    refine a0.ret (hc i (by omega)) (by simp) (by simp) (by simp) ?_
    simp[h1,h2,hw]
    refine⟨[.keep [0,3,4,5,6,9,10,11],.dr 8],?_⟩
    simp
    rw[EL,if_neg (λe=>h1 e.1)]at hK
    exact hK _ (by simp)
 ·by_cases h1:xQ c l.length<0
  ·have h2:¬0≤xQ c l.length:=by omega
   simp[↓av,h1]
   refine aM.plain [] ?_
   simp[h1]
   rw[gX];rfl
  ·have h2:0≤xQ c l.length:=by omega
   have h3:(xQ c l.length).toNat<l.length:=by omega
   have hx:l[(xQ c l.length).toNat]? =some l[(xQ c l.length).toNat]:=gJ h3
   have PG:=hl.2 _ h3
   simp[↓av,h1,h2,PG,hb.2,rt]
   refine aM.plain [] ?_
   simp[h1,h2]
end Go.Ab
end Q13s
noncomputable section Q14s
namespace Go.Ab
open Go.Ab
theorem Zs {d:bK} {ps:List dC} (hl:ps.length≤1048576) {k:Key} {f:Nat} (hf:f<ps.length) (he:ps[f].gC=k) (h:∀j (hj:j<ps.length),j<f->ps[j].gC≠k):
  af Pg I.cD [br d (.rs KB [] 0 ps.length ps.length 464 .tip),eF k] [.arr 464 (ps.map aC)] (λr fp=>r= .int .i64 f∧fp=[.arr 464 (ps.map aC)]):=by
 refine af.intro T.cD (by simp[F.cD]) ?_
 simp[F.cD,an,aG]
 refine jh.jY f (λ_=>True) [2,3,4,8,9,10] (λi=>[(10,.int .i64 i)]) (λi=>[]) [.keep [2,3,4,8,9,10]] ?_
 simp
 refine⟨λi hi K hK=> ?_,λK=> ?_⟩
 ·have uP:i<ps.length:=by omega
  have hx:ps[i]? =some ps[i]:=gJ uP
  have he:=h i uP hi
  simp[↓av,uP,he,yA,fG uP hl]
  refine⟨[.keep [2,3,4,8,9,10],.dr 6],?_⟩
  simp
  exact hK _ (by simp)
 ·have hx:ps[f]? =some ps[f]:=gJ hf
  simp[↓av,hf,he]
  refine aM.with [] [KB] ?_
  simp[ah]
structure alW (p q:dC):Prop where
 gC:q.gC=p.gC
 rp:uC p.ring.p q.ring.p
 rc:uC p.ring.c q.ring.c
 rn:uC p.ring.n q.ring.n
 stl:q.aW.length≤100
 stb:∀b∈q.aW,b.length≤80
def sF (ps qs:List dC):Prop:=qs.length=ps.length∧∀(i:Nat) (p:dC),ps[i]? =some p->∃q:dC,qs[i]? =some q∧alW p q
def alZ (d:bK) (ps:List dC) (L:List PV) (r:PV) (fp:List bh):Prop:=r= .tup []∧∃d' tO L',(d'.timers.length≤d.timers.length+120∧d'.aD.length≤d.aD.length+120∧d'.bn=d.bn∧d'.bD=d.bD∧d'.buckets=d.buckets)∧sF ps tO∧aB L'∧L'.length≤L.length+120∧fp=MB d' tO L'
def OV (ps:List dC):Prop:=∀p∈ps,p.aW.length≤90∧∀b∈p.aW,17≤b.length∧b.length≤80
theorem sF.refl {ps:List dC} (h:OV ps):sF ps ps:=⟨rfl,λi p hp=>by
 obtain⟨h1,h2⟩:=h p (List.mem_of_getElem? hp)
 exact⟨p,hp,rfl,.refl _,.refl _,.refl _,by omega,λb hb=>(h2 b hb).2⟩⟩
theorem sF.of {ps qs:List dC} {i:Nat} (hi:i<ps.length) {Qo:List (List UInt8)} (yd:OV ps) (h1:Qo.length≤100) (h2:∀b∈Qo,b.length≤80) (h:n5 (ps.set i {ps[i]with aW:=Qo}) qs):sF ps qs:=by
 refine⟨by rw[h.1];simp,λj p hp=> ?_⟩
 have T0:∀ {q:dC} {l:List (List UInt8)},q.aW<:+l->l.length≤100->(∀b∈l,b.length≤80)->q.aW.length≤100∧∀b∈q.aW,b.length≤80:=by
  intro q l hs g1 g2
  have:=hs.length_le
  exact⟨by omega,λb hb=>g2 b (hs.subset hb)⟩
 by_cases hj:i=j
 ·subst hj
  rw[gJ hi]at hp
  cases hp
  obtain⟨q,hq,hs⟩:=h.2 i {ps[i]with aW:=Qo} (by simp[hi])
  obtain⟨e1,e2⟩:=T0 hs.aW h1 h2
  exact⟨q,hq,hs.gC,hs.rp,hs.rc,hs.rn,e1,e2⟩
 ·obtain⟨q,hq,hs⟩:=h.2 j p (by rw[List.getElem?_set_ne hj];exact hp)
  obtain⟨g1,g2⟩:=yd p (List.mem_of_getElem? hp)
  obtain⟨e1,e2⟩:=T0 hs.aW (by omega) (λb hb=>(g2 b hb).2)
  exact⟨q,hq,hs.gC,hs.rp,hs.rc,hs.rn,e1,e2⟩
theorem OW {d:bK} {ps:List dC} (hk:yB ps) (hr:C1 d.bn) (JX:d.bn.length=ps.length) (hs:d.aD.length<32) (hb:∀s∈d.aD,s.index≤1000) (ht:d.timers.length≤900000) {L:List PV} (hL:aB L) (hl:L.length≤100)
  (yd:OV ps) (hsg: -9223372036854775808≤d.rules.oX∧d.rules.oX≤9223372036854775807) {b:List UInt8} (aaT:b.length≤80):
  af Pg I.jj [.pt KB [] 0,eN b] (MB d ps L) (alZ d ps L):=by
 obtain⟨p,e,he,hT⟩:=alU aaT
 refine af.intro T.By (by simp[F.By]) ?_
 simp[F.By,an,aG,MB]
 refine al.ret hT (by simp) (by simp) (by simp) ?_
 simp
 refine⟨λh0=> ?_,λh0=> ?_⟩
 ·refine aM.with [] [KB,KB+1,KB+2] ?_
  simp[fx,hL.refs,hL.aI,ah]
  exact⟨rfl,{d with bad:=IntKind.i64.wrap (d.bad+1)},ps,L,⟨by simp,by simp,rfl,rfl,rfl⟩,sF.refl yd,hL,by omega,rfl⟩
 ·obtain⟨PH,tc⟩:=he h0
  obtain⟨s1,s2,l1,l2,n,e2,hG,_,hC⟩:=OT (l:=p) tc
  obtain⟨k,f,hkf,hLk⟩:=Th hr hG
  refine al.ret hC (by simp) (by simp) (by simp) ?_
  simp
  refine ny.run [] rfl ?_
  simp
  refine a0.ret hLk (by simp) (by simp) (by simp) ?_
  simp
  refine⟨λhf=> ?_,λhf=> ?_⟩
  ·refine aM.with [] [KB,KB+1,KB+2] ?_
   simp[fx,hL.refs,hL.aI,ah]
   exact⟨rfl,{d with bad:=IntKind.i64.wrap (d.bad+1)},ps,L,⟨by simp,by simp,rfl,rfl,rfl⟩,sF.refl yd,hL,by omega,rfl⟩
  obtain⟨i,hi,rfl⟩:=hkf hf
  have hi:i<ps.length:=by omega
  have hx:ps[i]? =some ps[i]:=gJ hi
  have anq:=yd _ (List.getElem_mem hi)
  have hF:=Zs (d:=d) (ps:=ps) (by have:=hk.1;omega) (k:=nZ i) hi (hk.2 i hi) (λj hj BZ=>by
   rw[hk.2 j hj];intro e;exact absurd (vX (by have:=hk.1;omega) (by have:=hk.1;omega) e) (by omega))
  have hP:=alV (ll:=ps[i].aW) (n:=d.rules.oX) (p:=p) (by omega) (λb hb=>by have:=anq.2 b hb;omega) (by omega) hsg
  generalize anr:(ps[i].aW++[p]).drop (ps[i].aW.length+1-d.rules.oX.toNat)=Qo at hP
  refine al.gen [KB+1] [] [.arr 464 (ps.map aC)] hF (by simp[getAll]) (by simp) (by simp) (by simp[ae,ab,bj,idx,br]) (by simp[ah]) (by simp[aO,aI,aV,idx,br]) (by simp[aZ]) (by simp[ab,ah]) ?_
  simp[bI,aZ,aI,hi]
  refine a0.ret hP (by simp) (by simp) (by simp) ?_
  simp[hi]
  have Dp:Qo.length≤100:=by rw[←anr];simp;omega
  have hsb:∀x∈Qo,17≤x.length∧x.length≤80:=by
   intro x hx
   rw[←anr]at hx
   rcases List.mem_append.1 (List.mem_of_mem_drop hx)with h|h
   ·exact anq.2 x h
   ·have:x=p:=by simpa using h
    subst this;omega
  have hFl:=OR (d:=d) (ps:=ps.set i {ps[i]with aW:=Qo}) (i:=i) (by simp[hi]) hs hb ht hL hl (by simpa using Dp) (by simpa using hsb)
  refine al.mo KB (KB+1) (KB+2) hFl (by simp) (by simp[List.map_set]) (by simp) (by simp) hL (by simp[ae,ab,bj,idx]) (by simp[aO,aI,aV,idx]) ?_
  rintro r fp ⟨rfl,d',tO,L',hG,mK,rT,rfl⟩
  refine⟨_,_,_,rfl,by simp,mK,?_⟩
  refine aM.with [] [KB,KB+1,KB+2] ?_
  simp[fx,mK.refs,mK.aI,ah]
  exact⟨rfl,d',tO,L',⟨hG.timers,hG.aD,hG.bn,hG.bD,hG.buckets⟩,sF.of hi yd Dp (λx hx=>(hsb x hx).2) hG.yV,mK,rT,rfl⟩
end Go.Ab
end Q14s
