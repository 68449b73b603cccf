/- A packet of the tunnel device. No condition. -/
import Derived.Test.YtdfkcobijmbidaaGreatQ2
set_option maxRecDepth 100000
set_option maxHeartbeats 4000000
set_option linter.all false
namespace Go.Ab
open Go.Ab
abbrev aS (b:Bool) (n:Nat):AV:= .st 17 [.bl (some b),.ar 1 16 (uL .u8 n++List.replicate (16-n) (.int .u8 (some 0)))]
def ahF:Spec:=⟨I.fH,[(uS .u8 4)],.val (aS false 4)⟩
def ahG:List Spec:=ahF::ahB
theorem ahH:az Pg ahG:=ax ahC [] [] (by kernel_rfl)
def ahI:Spec:=⟨I.fH,[(uS .u8 16)],.val (aS true 16)⟩
def ahJ:List Spec:=ahI::ahG
theorem ahK:az Pg ahJ:=ax ahH [] [] (by kernel_rfl)
def ahL:List Spec:=⟨I.bW,[(aS false 4)],.val (.bl (some true))⟩::ahJ
theorem arn:az Pg ahL:=ax ahK [] [] (by kernel_rfl)
def ahM:List Spec:=⟨I.bW,[(aS true 16)],.val (.bl (some true))⟩::ahL
theorem aro:az Pg ahM:=ax arn [] [] (by kernel_rfl)
def ahN:List Spec:=⟨I.bW,[(aS false 2)],.val (.bl (some true))⟩::ahM
theorem arp:az Pg ahN:=ax aro [] [] (by kernel_rfl)
def ahO:List Spec:=⟨I.cY,[(aS false 2)],.val (kI 32)⟩::ahN
theorem arq:az Pg ahO:=ax arp [] [] (by kernel_rfl)
def ahP:List Spec:=⟨I.aa,[(aS false 2),(kI 0)],.val (uI .u8)⟩::ahO
theorem ars:az Pg ahP:=ax arq [] [] (by kernel_rfl)
def ahQ:List Spec:=⟨I.aa,[(aS false 2),(kI 1)],.val (uI .u8)⟩::ahP
theorem art:az Pg ahQ:=ax ars [] [] (by kernel_rfl)
def ahR:List Spec:=⟨I.aa,[(aS false 2),(kI 2)],.val (uI .u8)⟩::ahQ
theorem aru:az Pg ahR:=ax art [] [] (by kernel_rfl)
def ahS:List Spec:=⟨I.aa,[(aS false 2),(kI 3)],.val (uI .u8)⟩::ahR
theorem arv:az Pg ahS:=ax aru [] [] (by kernel_rfl)
def ahT:List Spec:=⟨I.aa,[(aS false 2),(kI 4)],.val (uI .u8)⟩::ahS
theorem arw:az Pg ahT:=ax arv [] [] (by kernel_rfl)
def ahU:List Spec:=⟨I.aa,[(aS false 2),(kI 5)],.val (uI .u8)⟩::ahT
theorem arx:az Pg ahU:=ax arw [] [] (by kernel_rfl)
def ahV:List Spec:=⟨I.aa,[(aS false 2),(kI 6)],.val (uI .u8)⟩::ahU
theorem ary:az Pg ahV:=ax arx [] [] (by kernel_rfl)
def ahW:List Spec:=⟨I.aa,[(aS false 2),(kI 7)],.val (uI .u8)⟩::ahV
theorem arz:az Pg ahW:=ax ary [] [] (by kernel_rfl)
def ahX:List Spec:=⟨I.aa,[(aS false 2),(kI 8)],.val (uI .u8)⟩::ahW
theorem arA:az Pg ahX:=ax arz [] [] (by kernel_rfl)
def ahY:List Spec:=⟨I.aa,[(aS false 2),(kI 9)],.val (uI .u8)⟩::ahX
theorem arB:az Pg ahY:=ax arA [] [] (by kernel_rfl)
def ahZ:List Spec:=⟨I.aa,[(aS false 2),(kI 10)],.val (uI .u8)⟩::ahY
theorem arC:az Pg ahZ:=ax arB [] [] (by kernel_rfl)
def ah0:List Spec:=⟨I.aa,[(aS false 2),(kI 11)],.val (uI .u8)⟩::ahZ
theorem arD:az Pg ah0:=ax arC [] [] (by kernel_rfl)
def ah1:List Spec:=⟨I.aa,[(aS false 2),(kI 12)],.val (uI .u8)⟩::ah0
theorem arE:az Pg ah1:=ax arD [] [] (by kernel_rfl)
def ah2:List Spec:=⟨I.aa,[(aS false 2),(kI 13)],.val (uI .u8)⟩::ah1
theorem arF:az Pg ah2:=ax arE [] [] (by kernel_rfl)
def ah3:List Spec:=⟨I.aa,[(aS false 2),(kI 14)],.val (uI .u8)⟩::ah2
theorem arG:az Pg ah3:=ax arF [] [] (by kernel_rfl)
def ah4:List Spec:=⟨I.aa,[(aS false 2),(kI 15)],.val (uI .u8)⟩::ah3
theorem arH:az Pg ah4:=ax arG [] [] (by kernel_rfl)
def ah5:List Spec:=⟨I.aa,[(aS false 2),(kI 16)],.val (.int .u8 (some 0))⟩::ah4
theorem arI:az Pg ah5:=ax arH [] [] (by kernel_rfl)
def ah6:List Spec:=⟨I.aa,[(aS false 2),(kI 17)],.val (.int .u8 (some 0))⟩::ah5
theorem arJ:az Pg ah6:=ax arI [] [] (by kernel_rfl)
def ah7:List Spec:=⟨I.aa,[(aS false 2),(kI 18)],.val (.int .u8 (some 0))⟩::ah6
theorem arK:az Pg ah7:=ax arJ [] [] (by kernel_rfl)
def ah8:List Spec:=⟨I.aa,[(aS false 2),(kI 19)],.val (.int .u8 (some 0))⟩::ah7
theorem arL:az Pg ah8:=ax arK [] [] (by kernel_rfl)
def ah9:List Spec:=⟨I.aa,[(aS false 2),(kI 20)],.val (.int .u8 (some 0))⟩::ah8
theorem arM:az Pg ah9:=ax arL [] [] (by kernel_rfl)
def aia:List Spec:=⟨I.aa,[(aS false 2),(kI 21)],.val (.int .u8 (some 0))⟩::ah9
theorem arN:az Pg aia:=ax arM [] [] (by kernel_rfl)
def aib:List Spec:=⟨I.aa,[(aS false 2),(kI 22)],.val (.int .u8 (some 0))⟩::aia
theorem arO:az Pg aib:=ax arN [] [] (by kernel_rfl)
def aic:List Spec:=⟨I.aa,[(aS false 2),(kI 23)],.val (.int .u8 (some 0))⟩::aib
theorem arP:az Pg aic:=ax arO [] [] (by kernel_rfl)
def aid:List Spec:=⟨I.aa,[(aS false 2),(kI 24)],.val (.int .u8 (some 0))⟩::aic
theorem arQ:az Pg aid:=ax arP [] [] (by kernel_rfl)
def aie:List Spec:=⟨I.aa,[(aS false 2),(kI 25)],.val (.int .u8 (some 0))⟩::aid
theorem arR:az Pg aie:=ax arQ [] [] (by kernel_rfl)
def aif:List Spec:=⟨I.aa,[(aS false 2),(kI 26)],.val (.int .u8 (some 0))⟩::aie
theorem arS:az Pg aif:=ax arR [] [] (by kernel_rfl)
def aih:List Spec:=⟨I.aa,[(aS false 2),(kI 27)],.val (.int .u8 (some 0))⟩::aif
theorem arT:az Pg aih:=ax arS [] [] (by kernel_rfl)
def aii:List Spec:=⟨I.aa,[(aS false 2),(kI 28)],.val (.int .u8 (some 0))⟩::aih
theorem arU:az Pg aii:=ax arT [] [] (by kernel_rfl)
def aij:List Spec:=⟨I.aa,[(aS false 2),(kI 29)],.val (.int .u8 (some 0))⟩::aii
theorem arV:az Pg aij:=ax arU [] [] (by kernel_rfl)
def aik:List Spec:=⟨I.aa,[(aS false 2),(kI 30)],.val (.int .u8 (some 0))⟩::aij
theorem arW:az Pg aik:=ax arV [] [] (by kernel_rfl)
def ail:List Spec:=⟨I.aa,[(aS false 2),(kI 31)],.val (.int .u8 (some 0))⟩::aik
theorem arX:az Pg ail:=ax arW [] [] (by kernel_rfl)
def aim:List Spec:=⟨I.aa,[(aS false 2),(kI 32)],.val (.int .u8 (some 0))⟩::ail
theorem arY:az Pg aim:=ax arX [] [] (by kernel_rfl)
def ain:List Spec:=⟨I.aa,[(aS false 2),(kI 33)],.val (.int .u8 (some 0))⟩::aim
theorem arZ:az Pg ain:=ax arY [] [] (by kernel_rfl)
def aio:List Spec:=⟨I.aa,[(aS false 2),(kI 34)],.val (.int .u8 (some 0))⟩::ain
theorem ar0:az Pg aio:=ax arZ [] [] (by kernel_rfl)
def aip:List Spec:=⟨I.aa,[(aS false 2),(kI 35)],.val (.int .u8 (some 0))⟩::aio
theorem ar2:az Pg aip:=ax ar0 [] [] (by kernel_rfl)
def aiq:List Spec:=⟨I.aa,[(aS false 2),(kI 36)],.val (.int .u8 (some 0))⟩::aip
theorem ar3:az Pg aiq:=ax ar2 [] [] (by kernel_rfl)
def air:List Spec:=⟨I.aa,[(aS false 2),(kI 37)],.val (.int .u8 (some 0))⟩::aiq
theorem ar4:az Pg air:=ax ar3 [] [] (by kernel_rfl)
def ais:List Spec:=⟨I.aa,[(aS false 2),(kI 38)],.val (.int .u8 (some 0))⟩::air
theorem ar5:az Pg ais:=ax ar4 [] [] (by kernel_rfl)
def ait:List Spec:=⟨I.aa,[(aS false 2),(kI 39)],.val (.int .u8 (some 0))⟩::ais
theorem ar6:az Pg ait:=ax ar5 [] [] (by kernel_rfl)
def aiu:List Spec:=⟨I.aa,[(aS false 2),(kI 40)],.val (.int .u8 (some 0))⟩::ait
theorem ar7:az Pg aiu:=ax ar6 [] [] (by kernel_rfl)
def aiv:List Spec:=⟨I.aa,[(aS false 2),(kI 41)],.val (.int .u8 (some 0))⟩::aiu
theorem ar8:az Pg aiv:=ax ar7 [] [] (by kernel_rfl)
def aiw:List Spec:=⟨I.aa,[(aS false 2),(kI 42)],.val (.int .u8 (some 0))⟩::aiv
theorem ar9:az Pg aiw:=ax ar8 [] [] (by kernel_rfl)
def aix:List Spec:=⟨I.aa,[(aS false 2),(kI 43)],.val (.int .u8 (some 0))⟩::aiw
theorem asa:az Pg aix:=ax ar9 [] [] (by kernel_rfl)
def aiy:List Spec:=⟨I.aa,[(aS false 2),(kI 44)],.val (.int .u8 (some 0))⟩::aix
theorem asb:az Pg aiy:=ax asa [] [] (by kernel_rfl)
def aiz:List Spec:=⟨I.aa,[(aS false 2),(kI 45)],.val (.int .u8 (some 0))⟩::aiy
theorem asc:az Pg aiz:=ax asb [] [] (by kernel_rfl)
def aiA:List Spec:=⟨I.aa,[(aS false 2),(kI 46)],.val (.int .u8 (some 0))⟩::aiz
theorem asd:az Pg aiA:=ax asc [] [] (by kernel_rfl)
def aiB:List Spec:=⟨I.aa,[(aS false 2),(kI 47)],.val (.int .u8 (some 0))⟩::aiA
theorem ase:az Pg aiB:=ax asd [] [] (by kernel_rfl)
def aiC:List Spec:=⟨I.aa,[(aS false 2),(kI 48)],.val (.int .u8 (some 0))⟩::aiB
theorem asf:az Pg aiC:=ax ase [] [] (by kernel_rfl)
def aiD:List Spec:=⟨I.aa,[(aS false 2),(kI 49)],.val (.int .u8 (some 0))⟩::aiC
theorem asg:az Pg aiD:=ax asf [] [] (by kernel_rfl)
def aiE:List Spec:=⟨I.aa,[(aS false 2),(kI 50)],.val (.int .u8 (some 0))⟩::aiD
theorem ash:az Pg aiE:=ax asg [] [] (by kernel_rfl)
def aiF:List Spec:=⟨I.aa,[(aS false 2),(kI 51)],.val (.int .u8 (some 0))⟩::aiE
theorem asi:az Pg aiF:=ax ash [] [] (by kernel_rfl)
def aiG:List Spec:=⟨I.aa,[(aS false 2),(kI 52)],.val (.int .u8 (some 0))⟩::aiF
theorem asj:az Pg aiG:=ax asi [] [] (by kernel_rfl)
def aiH:List Spec:=⟨I.aa,[(aS false 2),(kI 53)],.val (.int .u8 (some 0))⟩::aiG
theorem asl:az Pg aiH:=ax asj [] [] (by kernel_rfl)
def aiI:List Spec:=⟨I.aa,[(aS false 2),(kI 54)],.val (.int .u8 (some 0))⟩::aiH
theorem asm:az Pg aiI:=ax asl [] [] (by kernel_rfl)
def aiJ:List Spec:=⟨I.aa,[(aS false 2),(kI 55)],.val (.int .u8 (some 0))⟩::aiI
theorem asn:az Pg aiJ:=ax asm [] [] (by kernel_rfl)
def aiK:List Spec:=⟨I.aa,[(aS false 2),(kI 56)],.val (.int .u8 (some 0))⟩::aiJ
theorem aso:az Pg aiK:=ax asn [] [] (by kernel_rfl)
def aiL:List Spec:=⟨I.aa,[(aS false 2),(kI 57)],.val (.int .u8 (some 0))⟩::aiK
theorem asp:az Pg aiL:=ax aso [] [] (by kernel_rfl)
def aiM:List Spec:=⟨I.aa,[(aS false 2),(kI 58)],.val (.int .u8 (some 0))⟩::aiL
theorem asq:az Pg aiM:=ax asp [] [] (by kernel_rfl)
def aiN:List Spec:=⟨I.aa,[(aS false 2),(kI 59)],.val (.int .u8 (some 0))⟩::aiM
theorem asr:az Pg aiN:=ax asq [] [] (by kernel_rfl)
def aiO:List Spec:=⟨I.aa,[(aS false 2),(kI 60)],.val (.int .u8 (some 0))⟩::aiN
theorem ass:az Pg aiO:=ax asr [] [] (by kernel_rfl)
def aiP:List Spec:=⟨I.aa,[(aS false 2),(kI 61)],.val (.int .u8 (some 0))⟩::aiO
theorem ast:az Pg aiP:=ax ass [] [] (by kernel_rfl)
def aiQ:List Spec:=⟨I.aa,[(aS false 2),(kI 62)],.val (.int .u8 (some 0))⟩::aiP
theorem asu:az Pg aiQ:=ax ast [] [] (by kernel_rfl)
def aiR:List Spec:=⟨I.aa,[(aS false 2),(kI 63)],.val (.int .u8 (some 0))⟩::aiQ
theorem asv:az Pg aiR:=ax asu [] [] (by kernel_rfl)
def aiS:List Spec:=⟨I.aa,[(aS false 2),(kI 64)],.val (.int .u8 (some 0))⟩::aiR
theorem asw:az Pg aiS:=ax asv [] [] (by kernel_rfl)
def aiT:List Spec:=⟨I.aa,[(aS false 2),(kI 65)],.val (.int .u8 (some 0))⟩::aiS
theorem asx:az Pg aiT:=ax asw [] [] (by kernel_rfl)
def aiU:List Spec:=⟨I.aa,[(aS false 2),(kI 66)],.val (.int .u8 (some 0))⟩::aiT
theorem asy:az Pg aiU:=ax asx [] [] (by kernel_rfl)
def aiV:List Spec:=⟨I.aa,[(aS false 2),(kI 67)],.val (.int .u8 (some 0))⟩::aiU
theorem asz:az Pg aiV:=ax asy [] [] (by kernel_rfl)
def aiW:List Spec:=⟨I.aa,[(aS false 2),(kI 68)],.val (.int .u8 (some 0))⟩::aiV
theorem asA:az Pg aiW:=ax asz [] [] (by kernel_rfl)
def aiX:List Spec:=⟨I.aa,[(aS false 2),(kI 69)],.val (.int .u8 (some 0))⟩::aiW
theorem asB:az Pg aiX:=ax asA [] [] (by kernel_rfl)
def aiY:List Spec:=⟨I.aa,[(aS false 2),(kI 70)],.val (.int .u8 (some 0))⟩::aiX
theorem asC:az Pg aiY:=ax asB [] [] (by kernel_rfl)
def aiZ:List Spec:=⟨I.aa,[(aS false 2),(kI 71)],.val (.int .u8 (some 0))⟩::aiY
theorem asD:az Pg aiZ:=ax asC [] [] (by kernel_rfl)
def ai0:List Spec:=⟨I.aa,[(aS false 2),(kI 72)],.val (.int .u8 (some 0))⟩::aiZ
theorem asE:az Pg ai0:=ax asD [] [] (by kernel_rfl)
def ai1:List Spec:=⟨I.aa,[(aS false 2),(kI 73)],.val (.int .u8 (some 0))⟩::ai0
theorem asF:az Pg ai1:=ax asE [] [] (by kernel_rfl)
def ai2:List Spec:=⟨I.aa,[(aS false 2),(kI 74)],.val (.int .u8 (some 0))⟩::ai1
theorem asG:az Pg ai2:=ax asF [] [] (by kernel_rfl)
def ai3:List Spec:=⟨I.aa,[(aS false 2),(kI 75)],.val (.int .u8 (some 0))⟩::ai2
theorem asH:az Pg ai3:=ax asG [] [] (by kernel_rfl)
def ai4:List Spec:=⟨I.aa,[(aS false 2),(kI 76)],.val (.int .u8 (some 0))⟩::ai3
theorem asI:az Pg ai4:=ax asH [] [] (by kernel_rfl)
def ai5:List Spec:=⟨I.aa,[(aS false 2),(kI 77)],.val (.int .u8 (some 0))⟩::ai4
theorem asJ:az Pg ai5:=ax asI [] [] (by kernel_rfl)
def ai6:List Spec:=⟨I.aa,[(aS false 2),(kI 78)],.val (.int .u8 (some 0))⟩::ai5
theorem asK:az Pg ai6:=ax asJ [] [] (by kernel_rfl)
def ai7:List Spec:=⟨I.aa,[(aS false 2),(kI 79)],.val (.int .u8 (some 0))⟩::ai6
theorem asL:az Pg ai7:=ax asK [] [] (by kernel_rfl)
def ai8:List Spec:=⟨I.aa,[(aS false 2),(kI 80)],.val (.int .u8 (some 0))⟩::ai7
theorem asM:az Pg ai8:=ax asL [] [] (by kernel_rfl)
def ai9:List Spec:=⟨I.aa,[(aS false 2),(kI 81)],.val (.int .u8 (some 0))⟩::ai8
theorem asN:az Pg ai9:=ax asM [] [] (by kernel_rfl)
def aja:List Spec:=⟨I.aa,[(aS false 2),(kI 82)],.val (.int .u8 (some 0))⟩::ai9
theorem asO:az Pg aja:=ax asN [] [] (by kernel_rfl)
def ajb:List Spec:=⟨I.aa,[(aS false 2),(kI 83)],.val (.int .u8 (some 0))⟩::aja
theorem asP:az Pg ajb:=ax asO [] [] (by kernel_rfl)
def ajc:List Spec:=⟨I.aa,[(aS false 2),(kI 84)],.val (.int .u8 (some 0))⟩::ajb
theorem asQ:az Pg ajc:=ax asP [] [] (by kernel_rfl)
def ajd:List Spec:=⟨I.aa,[(aS false 2),(kI 85)],.val (.int .u8 (some 0))⟩::ajc
theorem asR:az Pg ajd:=ax asQ [] [] (by kernel_rfl)
def aje:List Spec:=⟨I.aa,[(aS false 2),(kI 86)],.val (.int .u8 (some 0))⟩::ajd
theorem asS:az Pg aje:=ax asR [] [] (by kernel_rfl)
def ajf:List Spec:=⟨I.aa,[(aS false 2),(kI 87)],.val (.int .u8 (some 0))⟩::aje
theorem asT:az Pg ajf:=ax asS [] [] (by kernel_rfl)
def ajg:List Spec:=⟨I.aa,[(aS false 2),(kI 88)],.val (.int .u8 (some 0))⟩::ajf
theorem asU:az Pg ajg:=ax asT [] [] (by kernel_rfl)
def ajh:List Spec:=⟨I.aa,[(aS false 2),(kI 89)],.val (.int .u8 (some 0))⟩::ajg
theorem asV:az Pg ajh:=ax asU [] [] (by kernel_rfl)
def aji:List Spec:=⟨I.aa,[(aS false 2),(kI 90)],.val (.int .u8 (some 0))⟩::ajh
theorem asW:az Pg aji:=ax asV [] [] (by kernel_rfl)
def ajj:List Spec:=⟨I.aa,[(aS false 2),(kI 91)],.val (.int .u8 (some 0))⟩::aji
theorem asX:az Pg ajj:=ax asW [] [] (by kernel_rfl)
def ajk:List Spec:=⟨I.aa,[(aS false 2),(kI 92)],.val (.int .u8 (some 0))⟩::ajj
theorem asY:az Pg ajk:=ax asX [] [] (by kernel_rfl)
def ajl:List Spec:=⟨I.aa,[(aS false 2),(kI 93)],.val (.int .u8 (some 0))⟩::ajk
theorem asZ:az Pg ajl:=ax asY [] [] (by kernel_rfl)
def ajm:List Spec:=⟨I.aa,[(aS false 2),(kI 94)],.val (.int .u8 (some 0))⟩::ajl
theorem as0:az Pg ajm:=ax asZ [] [] (by kernel_rfl)
def ajn:List Spec:=⟨I.aa,[(aS false 2),(kI 95)],.val (.int .u8 (some 0))⟩::ajm
theorem as1:az Pg ajn:=ax as0 [] [] (by kernel_rfl)
def ajo:List Spec:=⟨I.aa,[(aS false 2),(kI 96)],.val (.int .u8 (some 0))⟩::ajn
theorem as2:az Pg ajo:=ax as1 [] [] (by kernel_rfl)
def ajp:List Spec:=⟨I.aa,[(aS false 2),(kI 97)],.val (.int .u8 (some 0))⟩::ajo
theorem as3:az Pg ajp:=ax as2 [] [] (by kernel_rfl)
def ajq:List Spec:=⟨I.aa,[(aS false 2),(kI 98)],.val (.int .u8 (some 0))⟩::ajp
theorem as4:az Pg ajq:=ax as3 [] [] (by kernel_rfl)
def ajr:List Spec:=⟨I.aa,[(aS false 2),(kI 99)],.val (.int .u8 (some 0))⟩::ajq
theorem as5:az Pg ajr:=ax as4 [] [] (by kernel_rfl)
def ajs:List Spec:=⟨I.aa,[(aS false 2),(kI 100)],.val (.int .u8 (some 0))⟩::ajr
theorem as6:az Pg ajs:=ax as5 [] [] (by kernel_rfl)
def ajt:List Spec:=⟨I.aa,[(aS false 2),(kI 101)],.val (.int .u8 (some 0))⟩::ajs
theorem as7:az Pg ajt:=ax as6 [] [] (by kernel_rfl)
def aju:List Spec:=⟨I.aa,[(aS false 2),(kI 102)],.val (.int .u8 (some 0))⟩::ajt
theorem as8:az Pg aju:=ax as7 [] [] (by kernel_rfl)
def ajv:List Spec:=⟨I.aa,[(aS false 2),(kI 103)],.val (.int .u8 (some 0))⟩::aju
theorem as9:az Pg ajv:=ax as8 [] [] (by kernel_rfl)
def ajw:List Spec:=⟨I.aa,[(aS false 2),(kI 104)],.val (.int .u8 (some 0))⟩::ajv
theorem ata:az Pg ajw:=ax as9 [] [] (by kernel_rfl)
def ajx:List Spec:=⟨I.aa,[(aS false 2),(kI 105)],.val (.int .u8 (some 0))⟩::ajw
theorem atb:az Pg ajx:=ax ata [] [] (by kernel_rfl)
def ajy:List Spec:=⟨I.aa,[(aS false 2),(kI 106)],.val (.int .u8 (some 0))⟩::ajx
theorem atc:az Pg ajy:=ax atb [] [] (by kernel_rfl)
def ajz:List Spec:=⟨I.aa,[(aS false 2),(kI 107)],.val (.int .u8 (some 0))⟩::ajy
theorem atd:az Pg ajz:=ax atc [] [] (by kernel_rfl)
def ajA:List Spec:=⟨I.aa,[(aS false 2),(kI 108)],.val (.int .u8 (some 0))⟩::ajz
theorem ate:az Pg ajA:=ax atd [] [] (by kernel_rfl)
def ajB:List Spec:=⟨I.aa,[(aS false 2),(kI 109)],.val (.int .u8 (some 0))⟩::ajA
theorem atf:az Pg ajB:=ax ate [] [] (by kernel_rfl)
def ajC:List Spec:=⟨I.aa,[(aS false 2),(kI 110)],.val (.int .u8 (some 0))⟩::ajB
theorem atg:az Pg ajC:=ax atf [] [] (by kernel_rfl)
def ajD:List Spec:=⟨I.aa,[(aS false 2),(kI 111)],.val (.int .u8 (some 0))⟩::ajC
theorem ath:az Pg ajD:=ax atg [] [] (by kernel_rfl)
def ajE:List Spec:=⟨I.aa,[(aS false 2),(kI 112)],.val (.int .u8 (some 0))⟩::ajD
theorem ati:az Pg ajE:=ax ath [] [] (by kernel_rfl)
def ajF:List Spec:=⟨I.aa,[(aS false 2),(kI 113)],.val (.int .u8 (some 0))⟩::ajE
theorem atj:az Pg ajF:=ax ati [] [] (by kernel_rfl)
def ajG:List Spec:=⟨I.aa,[(aS false 2),(kI 114)],.val (.int .u8 (some 0))⟩::ajF
theorem atk:az Pg ajG:=ax atj [] [] (by kernel_rfl)
def ajH:List Spec:=⟨I.aa,[(aS false 2),(kI 115)],.val (.int .u8 (some 0))⟩::ajG
theorem atl:az Pg ajH:=ax atk [] [] (by kernel_rfl)
def ajI:List Spec:=⟨I.aa,[(aS false 2),(kI 116)],.val (.int .u8 (some 0))⟩::ajH
theorem atm:az Pg ajI:=ax atl [] [] (by kernel_rfl)
def ajJ:List Spec:=⟨I.aa,[(aS false 2),(kI 117)],.val (.int .u8 (some 0))⟩::ajI
theorem atn:az Pg ajJ:=ax atm [] [] (by kernel_rfl)
def ajK:List Spec:=⟨I.aa,[(aS false 2),(kI 118)],.val (.int .u8 (some 0))⟩::ajJ
theorem ato:az Pg ajK:=ax atn [] [] (by kernel_rfl)
def ajL:List Spec:=⟨I.aa,[(aS false 2),(kI 119)],.val (.int .u8 (some 0))⟩::ajK
theorem atp:az Pg ajL:=ax ato [] [] (by kernel_rfl)
def ajM:List Spec:=⟨I.aa,[(aS false 2),(kI 120)],.val (.int .u8 (some 0))⟩::ajL
theorem atq:az Pg ajM:=ax atp [] [] (by kernel_rfl)
def ajN:List Spec:=⟨I.aa,[(aS false 2),(kI 121)],.val (.int .u8 (some 0))⟩::ajM
theorem atr:az Pg ajN:=ax atq [] [] (by kernel_rfl)
def ajO:List Spec:=⟨I.aa,[(aS false 2),(kI 122)],.val (.int .u8 (some 0))⟩::ajN
theorem ats:az Pg ajO:=ax atr [] [] (by kernel_rfl)
def ajP:List Spec:=⟨I.aa,[(aS false 2),(kI 123)],.val (.int .u8 (some 0))⟩::ajO
theorem atu:az Pg ajP:=ax ats [] [] (by kernel_rfl)
def ajQ:List Spec:=⟨I.aa,[(aS false 2),(kI 124)],.val (.int .u8 (some 0))⟩::ajP
theorem atv:az Pg ajQ:=ax atu [] [] (by kernel_rfl)
def ajR:List Spec:=⟨I.aa,[(aS false 2),(kI 125)],.val (.int .u8 (some 0))⟩::ajQ
theorem atw:az Pg ajR:=ax atv [] [] (by kernel_rfl)
def ajS:List Spec:=⟨I.aa,[(aS false 2),(kI 126)],.val (.int .u8 (some 0))⟩::ajR
theorem atx:az Pg ajS:=ax atw [] [] (by kernel_rfl)
def ajT:List Spec:=⟨I.aa,[(aS false 2),(kI 127)],.val (.int .u8 (some 0))⟩::ajS
theorem aty:az Pg ajT:=ax atx [] [] (by kernel_rfl)
def ajU:List Spec:=⟨I.aa,[(aS false 4),(kI 0)],.val (uI .u8)⟩::ajT
theorem atz:az Pg ajU:=ax aty [] [] (by kernel_rfl)
def ajV:List Spec:=⟨I.aa,[(aS false 4),(kI 1)],.val (uI .u8)⟩::ajU
theorem atA:az Pg ajV:=ax atz [] [] (by kernel_rfl)
def ajW:List Spec:=⟨I.aa,[(aS false 4),(kI 2)],.val (uI .u8)⟩::ajV
theorem atB:az Pg ajW:=ax atA [] [] (by kernel_rfl)
def ajX:List Spec:=⟨I.aa,[(aS false 4),(kI 3)],.val (uI .u8)⟩::ajW
theorem atC:az Pg ajX:=ax atB [] [] (by kernel_rfl)
def ajY:List Spec:=⟨I.aa,[(aS false 4),(kI 4)],.val (uI .u8)⟩::ajX
theorem atD:az Pg ajY:=ax atC [] [] (by kernel_rfl)
def ajZ:List Spec:=⟨I.aa,[(aS false 4),(kI 5)],.val (uI .u8)⟩::ajY
theorem atE:az Pg ajZ:=ax atD [] [] (by kernel_rfl)
def aj0:List Spec:=⟨I.aa,[(aS false 4),(kI 6)],.val (uI .u8)⟩::ajZ
theorem atF:az Pg aj0:=ax atE [] [] (by kernel_rfl)
def aj1:List Spec:=⟨I.aa,[(aS false 4),(kI 7)],.val (uI .u8)⟩::aj0
theorem atG:az Pg aj1:=ax atF [] [] (by kernel_rfl)
def aj2:List Spec:=⟨I.aa,[(aS false 4),(kI 8)],.val (uI .u8)⟩::aj1
theorem atH:az Pg aj2:=ax atG [] [] (by kernel_rfl)
def aj3:List Spec:=⟨I.aa,[(aS false 4),(kI 9)],.val (uI .u8)⟩::aj2
theorem atI:az Pg aj3:=ax atH [] [] (by kernel_rfl)
def aj4:List Spec:=⟨I.aa,[(aS false 4),(kI 10)],.val (uI .u8)⟩::aj3
theorem atJ:az Pg aj4:=ax atI [] [] (by kernel_rfl)
def aj5:List Spec:=⟨I.aa,[(aS false 4),(kI 11)],.val (uI .u8)⟩::aj4
theorem atK:az Pg aj5:=ax atJ [] [] (by kernel_rfl)
def aj6:List Spec:=⟨I.aa,[(aS false 4),(kI 12)],.val (uI .u8)⟩::aj5
theorem atL:az Pg aj6:=ax atK [] [] (by kernel_rfl)
def aj7:List Spec:=⟨I.aa,[(aS false 4),(kI 13)],.val (uI .u8)⟩::aj6
theorem atM:az Pg aj7:=ax atL [] [] (by kernel_rfl)
def aj8:List Spec:=⟨I.aa,[(aS false 4),(kI 14)],.val (uI .u8)⟩::aj7
theorem atN:az Pg aj8:=ax atM [] [] (by kernel_rfl)
def aj9:List Spec:=⟨I.aa,[(aS false 4),(kI 15)],.val (uI .u8)⟩::aj8
theorem atO:az Pg aj9:=ax atN [] [] (by kernel_rfl)
def aka:List Spec:=⟨I.b8,[(.st 18 [(aS false 2),(kI 16)])],.val (.bl (some true))⟩::aj9
theorem atP:az Pg aka:=ax atO [] [19] (by kernel_rfl)
def akb:Spec:=⟨I.gP,[(.st 18 [(aS false 2),(kI 16)]),(aS false 4)],.val (.bl none)⟩
def akc:List Spec:=akb::aka
theorem akd:az Pg akc:=ax atP [] [12] (by kernel_rfl)
def ake:Spec:=⟨I.gP,[(.st 18 [(aS false 2),(kI 16)]),(aS true 16)],.val (.bl none)⟩
def atQ:List Spec:=ake::akc
theorem atS:az Pg atQ:=ax akd [] [12] (by kernel_rfl)
end Go.Ab
noncomputable section Q12s
namespace Go.Ab
open Go.Ab
theorem I2 (a b:Int) (ha:0≤a) (ha2:a≤18446744073709551615) (hb:0≤b) (D9:b≤18446744073709551615):bits .or .u64 a b=((a.toNat|||b.toNat:Nat):Int):=by
 have hx:a.toNat|||b.toNat<2^64:=Nat.or_lt_two_pow (by omega) (by omega)
 have h1:(BitVec.ofInt 64 a).toNat=a.toNat:=by
  rw[show a=((a.toNat:Nat):Int) by omega,BitVec.ofInt_natCast,BitVec.toNat_ofNat];exact Nat.mod_eq_of_lt (by omega)
 have h2:(BitVec.ofInt 64 b).toNat=b.toNat:=by
  rw[show b=((b.toNat:Nat):Int) by omega,BitVec.ofInt_natCast,BitVec.toNat_ofNat];exact Nat.mod_eq_of_lt (by omega)
 show IntKind.u64.wrap ((BitVec.ofInt 64 a|||BitVec.ofInt 64 b).toNat:Int)=_
 rw[BitVec.toNat_or,h1,h2]
 exact wrap_u64 (by omega)
def R8 (x:UInt8):Int:=bits .or .u64 0 (IntKind.u64.wrap x.toNat)
theorem akf (x:UInt8):0≤R8 x∧R8 x≤255:=by
 have hx:=x.toNat_lt
 have hw:IntKind.u64.wrap (x.toNat:Int)=x.toNat:=wrap_u64 (by omega)
 rw[R8,hw,I2 0 _ (by omega) (by omega) (by omega) (by omega)]
 have:=Nat.or_lt_two_pow (x:=(0:Int).toNat) (y:=((x.toNat:Nat):Int).toNat) (n:=8) (by omega) (by omega)
 omega
def R9 (x y:UInt8):Int:=bits .or .u64 (IntKind.u64.wrap (R8 x*2^min 8 IntKind.u64.bits)) (IntKind.u64.wrap y.toNat)
theorem akg (x y:UInt8):0≤R9 x y∧R9 x y≤65535:=by
 have hy:=y.toNat_lt
 have hw:IntKind.u64.wrap (y.toNat:Int)=y.toNat:=wrap_u64 (by omega)
 have h1:=akf x
 have e:(2:Int)^min 8 IntKind.u64.bits=256:=rfl
 have tV:IntKind.u64.wrap (R8 x*256)=R8 x*256:=wrap_u64 (by omega)
 rw[R9,hw,e,tV,I2 _ _ (by omega) (by omega) (by omega) (by omega)]
 have:=Nat.or_lt_two_pow (x:=(R8 x*256).toNat) (y:=((y.toNat:Nat):Int).toNat) (n:=16) (by omega) (by omega)
 omega
theorem N1 (x y:UInt8):bI Pg I.kN [eI [x,y]] (.int .u64 (R9 x y)):=by
 refine ah.intro T.FP (by simp[F.FP]) ?_
 simp[F.FP,au,aG,eI]
 refine jx.kl 2 (λ_=>True) [3,6,7,8] (λi=>[(3,.int .u64 (if i=0 then 0 else if i=1 then R8 x else R9 x y)),(8,.int .i64 i)]) (λi=>[]) [.keep [3,6,7,8]] ?_
 simp
 refine⟨λi hi K hK=> ?_,λK=> ?_⟩
 ·have:i=0∨i=1:=by omega
  rcases this with rfl|rfl
  ·simp[↓aA,u8]
   refine⟨[.keep [3,6,7,8]],?_⟩
   simp
   exact hK _ (by simp[R8,u8])
  ·simp[↓aA,u8]
   refine⟨[.keep [3,6,7,8]],?_⟩
   simp
   exact hK _ (by simp[R9,u8])
 ·simp[↓aA]
  refine aL.plain [] ?_
  simp
theorem Yo {l:List UInt8} (hl:l.length=2):∃n:Int,(0≤n∧n≤65535)∧bI Pg I.eu [eI l] (.int .i64 n):=by
 match l,hl with
 |
  [x,y],_=>
  have hb:=akg x y
  refine⟨R9 x y,hb,?_⟩
  have hR:=N1 x y
  refine ah.intro T.eu (by simp[F.eu]) ?_
  simp[F.eu,au,aG,eI]
  simp only[eI]at hR
  refine al.ret hR (by simp) (by simp) (by simp) ?_
  have hw:IntKind.i64.wrap (R9 x y)=R9 x y:=wrap_i64 (by omega)
  simp[hw]
  refine aL.plain [] ?_
  simp
def AF (s:Bool) (l:List Int):PV:= .st 17 [.bl s,.ar 1 16 (iF l)]
@[simp] theorem akh (s:Bool) (l:List Int):Pure (AF s l):=by simp[AF]
@[simp] theorem atT (s:Bool) (l:List Int):wk (AF s l)=AF s l:=by simp[AF]
@[simp] theorem abW (s:Bool) (l:List Int):(AF s l).width=17:=_root_.id rfl
@[simp] theorem anX (s:Bool) (l:List Int):(AF s l).isAgg=true:=_root_.id rfl
@[simp] theorem aki (s:Bool) (l:List Int):(AF s l).bj=true:=_root_.id rfl
@[simp↓] theorem anY (g:Bool) (s:Bool) (l:List Int) (K:PV->Prop):gN g (AF s l) K=K (AF s l):=_root_.id rfl
def A4S:AV:= .st 17 [(.bl (some false)),(.ar 1 16 (uL .u8 4++List.replicate 12 (.int .u8 (some 0))))]
def atU:AV:= .st 17 [(.bl (some true)),(.ar 1 16 (uL .u8 16++List.replicate 0 (.int .u8 (some 0))))]
def GA (s:Bool) (l:List Int):Prop:=gm A4S (AF s l)∨gm atU (AF s l)
theorem I3 {k:IntKind}:∀ {a:List AV} {m:List PV},(∀x∈a,∃o,x= .int k o)->bH a m->∃l:List Int,m=l.map (.int k)
 |[],[],_,_=>⟨[],rfl⟩
 |[],_::_,_,h=>by simp[bH]at h
 |_::_,[],_,h=>by simp[bH]at h
 |
  x::a,p::m,hk,h=>by
  obtain⟨h1,h2⟩:=h
  obtain⟨l,rfl⟩:=I3 (λy hy=>hk y (List.mem_cons_of_mem _ hy)) h2
  obtain⟨o,rfl⟩:=hk x (List.mem_cons_self ..)
  cases p<;>simp only[gm]at h1
  obtain⟨rfl,_⟩:=h1
  exact⟨_::l,rfl⟩
theorem Vi {s:Bool} {a:List AV} {p:PV} (ha:∀x∈a,∃o,x= .int .u8 o) (h:gm (.st 17 [(.bl (some s)),(.ar 1 16 a)]) p):∃l,p=AF s l:=by
 obtain⟨m,rfl,g⟩:=Vd h
 obtain⟨x1,m,rfl,h1,h⟩:=fM g
 obtain⟨x2,m,rfl,h2,h⟩:=fM h
 obtain rfl:=oN h
 cases x1<;>simp only[gm]at h1
 rename_i b
 have hb:b=s:=by simpa using h1
 subst hb
 cases x2<;>simp only[gm]at h2
 obtain⟨⟨rfl,rfl⟩,h2⟩:=h2
 obtain⟨l,rfl⟩:=I3 ha h2
 exact⟨l,rfl⟩
theorem Cu {l:List UInt8} (hl:l.length=4∨l.length=16):∃(s:Bool) (a:List Int),GA s a∧bI Pg I.fH [eI l] (AF s a):=by
 rw[I1]
 rcases hl with hl|hl
 ·obtain⟨_,v,h1,h2⟩:=ahH ahF (.head _) [bS (l.map λx=>(x.toNat:Int))] ⟨ox (by simpa using hl),trivial⟩
  obtain⟨a,rfl⟩:=Vi (by simp[uL]) h1
  exact⟨_,a,.inl h1,h2⟩
 ·obtain⟨_,v,h1,h2⟩:=ahK ahI (.head _) [bS (l.map λx=>(x.toNat:Int))] ⟨ox (by simpa using hl),trivial⟩
  obtain⟨a,rfl⟩:=Vi (by simp[uL]) h1
  exact⟨_,a,.inr h1,h2⟩
def pg:List Int:=List.replicate 16 0
theorem DO:GA false pg:=by
 left
 simp[A4S,AF,gm,bH,iF,uL,List.replicate,pg]
theorem oz:PV.st 17 [.bl false,.ar 1 16 (zr 16 (.int .u8 0))]=AF false pg:=by rw[gC];rfl
theorem akj (x:UInt8):0≤bits .and .u8 (x.toNat:Int) 15∧bits .and .u8 (x.toNat:Int) 15≤15:=by
 have hx:=x.toNat_lt
 have h1:(BitVec.ofInt 8 (x.toNat:Int)).toNat=x.toNat:=by
  rw[BitVec.ofInt_natCast,BitVec.toNat_ofNat];exact Nat.mod_eq_of_lt (by omega)
 have h3:bits .and .u8 (x.toNat:Int) 15=IntKind.u8.wrap ((BitVec.ofInt 8 (x.toNat:Int)&&&BitVec.ofInt 8 15).toNat:Int):=rfl
 rw[h3,BitVec.toNat_and,h1]
 have h2:(BitVec.ofInt 8 15).toNat=15:=rfl
 rw[h2]
 have:=Nat.and_le_right (n:=x.toNat) (m:=15)
 rw[wrap_u8 (by omega)]
 omega
theorem N3 {l:List UInt8} (hl:l.length≤80):∃(s1 s2:Bool) (l1 l2:List Int) (n e:Int),GA s2 l2∧(e=0->20≤n∧n≤l.length)∧
  bI Pg I.jX [eI l] (.tup [.st 35 [AF s1 l1,AF s2 l2,.int .i64 n],.int .i64 e]):=by
 by_cases h0:l.length=0
 ·refine⟨false,false,pg,pg,0,2,DO,by omega,?_⟩
  refine ah.intro T.fm (by simp[F.fm]) ?_
  simp[F.fm,au,aG,oz,eI,h0]
  refine aL.plain [] ?_
  simp
 have h1:0<l.length:=by omega
 have hx:l[0]? =some l[0]:=gJ (by omega)
 have h2:¬(2016:Int)<l.length:=by omega
 generalize hv:((l[0]).toNat:Int).fdiv (2^min 4 IntKind.u8.bits)=v
 by_cases hv4:v=4
 ·have hv6:¬v=6:=by omega
  by_cases hlen:l.length<20
  ·have lZ:(l.length:Int)<20:=by omega
   refine⟨false,false,pg,pg,0,2,DO,by omega,?_⟩
   refine ah.intro T.fm (by simp[F.fm]) ?_
   simp[F.fm,au,aG,oz,eI,u8,h0,h1,h2,hv,hv4,lZ]
   refine aL.plain [] ?_
   simp
  ·have lZ:¬(l.length:Int)<20:=by omega
   have g12:(16:Int)≤l.length:=by omega
   have g16:(20:Int)≤l.length:=by omega
   have g20:(4:Int)≤l.length:=by omega
   obtain⟨s1,a1,hG1,Tm⟩:=Cu (l:=(l.take 16).drop 12) (by simp;omega)
   obtain⟨s2,a2,hG2,Tn⟩:=Cu (l:=(l.take 20).drop 16) (by simp;omega)
   obtain⟨n,hn,To⟩:=Yo (l:=(l.take 4).drop 2) (by simp;omega)
   simp only[eI,List.map_take,List.map_drop]at Tm Tn To
   have hh:=akj l[0]
   generalize hhd:bits .and .u8 ((l[0]).toNat:Int) 15=h at hh
   have wZ:IntKind.i64.wrap h=h:=wrap_i64 (by omega)
   have tV:IntKind.i64.wrap (4*h)=4*h:=wrap_i64 (by omega)
   by_cases hh5:h<5
   ·refine⟨false,false,pg,pg,0,5,DO,by omega,?_⟩
    refine ah.intro T.fm (by simp[F.fm]) ?_
    simp[F.fm,au,aG,oz,eI,u8,h0,h1,h2,hv,hv4,lZ]
    refine nj.run [] rfl ?_
    simp[g12]
    refine a8.ret Tm (by simp) (by simp) (by simp) ?_
    simp[g16]
    refine a8.ret Tn (by simp) (by simp) (by simp) ?_
    simp[g20]
    refine a8.ret To (by simp) (by simp) (by simp) ?_
    simp[h1,u8,hhd,wZ,hh5]
    refine aL.plain [] ?_
    simp
   by_cases hq:n<4*h
   ·refine⟨false,false,pg,pg,0,5,DO,by omega,?_⟩
    refine ah.intro T.fm (by simp[F.fm]) ?_
    simp[F.fm,au,aG,oz,eI,u8,h0,h1,h2,hv,hv4,lZ]
    refine nj.run [] rfl ?_
    simp[g12]
    refine a8.ret Tm (by simp) (by simp) (by simp) ?_
    simp[g16]
    refine a8.ret Tn (by simp) (by simp) (by simp) ?_
    simp[g20]
    refine a8.ret To (by simp) (by simp) (by simp) ?_
    simp[h1,u8,hhd,wZ,tV,hh5,hq]
    refine aL.plain [] ?_
    simp
   by_cases hr:(l.length:Int)<n
   ·refine⟨false,false,pg,pg,0,2,DO,by omega,?_⟩
    refine ah.intro T.fm (by simp[F.fm]) ?_
    simp[F.fm,au,aG,oz,eI,u8,h0,h1,h2,hv,hv4,lZ]
    refine nj.run [] rfl ?_
    simp[g12]
    refine a8.ret Tm (by simp) (by simp) (by simp) ?_
    simp[g16]
    refine a8.ret Tn (by simp) (by simp) (by simp) ?_
    simp[g20]
    refine a8.ret To (by simp) (by simp) (by simp) ?_
    simp[h1,u8,hhd,wZ,tV,hh5,hq,hr]
    refine aL.plain [] ?_
    simp
   have hs:¬(2000:Int)<n:=by omega
   refine⟨s1,s2,a1,a2,n,0,hG2,λ_=>⟨by omega,by omega⟩,?_⟩
   refine ah.intro T.fm (by simp[F.fm]) ?_
   simp[F.fm,au,aG,oz,eI,u8,h0,h1,h2,hv,hv4,lZ]
   refine nj.run [] rfl ?_
   simp[g12]
   refine a8.ret Tm (by simp) (by simp) (by simp) ?_
   simp[g16]
   refine a8.ret Tn (by simp) (by simp) (by simp) ?_
   simp[g20]
   refine a8.ret To (by simp) (by simp) (by simp) ?_
   simp[h1,u8,hhd,wZ,tV,hh5,hq,hr,hs]
   refine aL.plain [] ?_
   simp
 by_cases hv6:v=6
 ·by_cases hlen:l.length<20
  ·have lZ:(l.length:Int)<20:=by omega
   refine⟨false,false,pg,pg,0,2,DO,by omega,?_⟩
   refine ah.intro T.fm (by simp[F.fm]) ?_
   simp[F.fm,au,aG,oz,eI,u8,h0,h1,h2,hv,hv6,lZ]
   refine aL.plain [] ?_
   simp
  have lZ:¬(l.length:Int)<20:=by omega
  by_cases ayB:l.length<40
  ·have D4:(l.length:Int)<40:=by omega
   have alN:(20:Int)≤l.length:=by omega
   refine⟨false,false,pg,pg,0,2,DO,by omega,?_⟩
   refine ah.intro T.fm (by simp[F.fm]) ?_
   simp[F.fm,au,aG,oz,eI,u8,h0,h1,h2,hv,hv6,lZ,D4]
   refine aL.plain [] ?_
   simp
  have D4:¬(l.length:Int)<40:=by omega
  have alN:(20:Int)≤l.length:=by omega
  have ayC:(40:Int)≤l.length:=by omega
  have g12:(16:Int)≤l.length:=by omega
  have g16:(20:Int)≤l.length:=by omega
  have g20:(4:Int)≤l.length:=by omega
  have g24:(24:Int)≤l.length:=by omega
  have g40:(40:Int)≤l.length:=by omega
  have g6:(6:Int)≤l.length:=by omega
  obtain⟨s1,a1,hG1,Tm⟩:=Cu (l:=(l.take 16).drop 12) (by simp;omega)
  obtain⟨s2,a2,hG2,Tn⟩:=Cu (l:=(l.take 20).drop 16) (by simp;omega)
  obtain⟨n,hn,To⟩:=Yo (l:=(l.take 4).drop 2) (by simp;omega)
  obtain⟨s3,a3,hG3,hB1⟩:=Cu (l:=(l.take 24).drop 8) (by simp;omega)
  obtain⟨s4,a4,hG4,Zu⟩:=Cu (l:=(l.take 40).drop 24) (by simp;omega)
  obtain⟨m,hm,hN2⟩:=Yo (l:=(l.take 6).drop 4) (by simp;omega)
  simp only[eI,List.map_take,List.map_drop]at Tm Tn To hB1 Zu hN2
  have tV:IntKind.i64.wrap (40+m)=40+m:=wrap_i64 (by omega)
  by_cases hr:(l.length:Int)<40+m
  ·refine⟨false,false,pg,pg,0,2,DO,by omega,?_⟩
   refine ah.intro T.fm (by simp[F.fm]) ?_
   simp[F.fm,au,aG,oz,eI,u8,h0,h1,h2,hv,hv6,lZ,D4]
   refine nj.run [] rfl ?_
   simp[g12]
   refine a8.ret Tm (by simp) (by simp) (by simp) ?_
   simp[g16]
   refine a8.ret Tn (by simp) (by simp) (by simp) ?_
   simp[g20]
   refine a8.ret To (by simp) (by simp) (by simp) ?_
   simp[g24]
   refine a8.ret hB1 (by simp) (by simp) (by simp) ?_
   simp[g40]
   refine a8.ret Zu (by simp) (by simp) (by simp) ?_
   simp[g6]
   refine a8.ret hN2 (by simp) (by simp) (by simp) ?_
   simp[h1,u8,tV,hr]
   refine aL.plain [] ?_
   simp
  have hs:¬(2000:Int)<40+m:=by omega
  refine⟨s3,s4,a3,a4,40+m,0,hG4,λ_=>⟨by omega,by omega⟩,?_⟩
  refine ah.intro T.fm (by simp[F.fm]) ?_
  simp[F.fm,au,aG,oz,eI,u8,h0,h1,h2,hv,hv6,lZ,D4]
  refine nj.run [] rfl ?_
  simp[g12]
  refine a8.ret Tm (by simp) (by simp) (by simp) ?_
  simp[g16]
  refine a8.ret Tn (by simp) (by simp) (by simp) ?_
  simp[g20]
  refine a8.ret To (by simp) (by simp) (by simp) ?_
  simp[g24]
  refine a8.ret hB1 (by simp) (by simp) (by simp) ?_
  simp[g40]
  refine a8.ret Zu (by simp) (by simp) (by simp) ?_
  simp[g6]
  refine a8.ret hN2 (by simp) (by simp) (by simp) ?_
  simp[h1,u8,tV,hr,hs]
  refine aL.plain [] ?_
  simp
 refine⟨false,false,pg,pg,0,4,DO,by omega,?_⟩
 refine ah.intro T.fm (by simp[F.fm]) ?_
 simp[F.fm,au,aG,oz,eI,u8,h0,h1,h2,hv,hv4,hv6]
 refine aL.plain [] ?_
 simp
end Go.Ab
end Q12s
noncomputable section Q13s
namespace Go.Ab
open Go.Ab
theorem akk {l:List UInt8} (hl:l.length≤80):∃(p:List UInt8) (e:Int),(e=0->20≤p.length∧p.length≤80)∧bI Pg I.dT [eI l] (.tup [eI p,.int .i64 e]):=by
 obtain⟨s1,s2,l1,l2,n,e,hG,he,hC⟩:=N3 hl
 by_cases h0:e=0
 ·obtain⟨CH,OQ⟩:=he h0
  subst h0
  refine⟨l.take n.toNat,0,λ_=>by simp;omega,?_⟩
  refine ah.intro T.dT (by simp[F.dT]) ?_
  simp[F.dT,au,aG]
  refine al.ret hC (by simp) (by simp) (by simp) ?_
  simp[eI]
  refine⟨⟨by omega,by omega⟩,⟨by omega,by omega⟩,?_⟩
  refine aL.plain [.keep [2,3],.fz 19] ?_
  simp
  rw[tJ (by simp)]
 ·refine⟨[],e,λh=>absurd h h0,?_⟩
  refine ah.intro T.dT (by simp[F.dT]) ?_
  simp[F.dT,au,aG]
  refine al.ret hC (by simp) (by simp) (by simp) ?_
  simp[h0]
  refine aL.plain [.wk 2] ?_
  simp[eI]
theorem akl {ll:List (List UInt8)} {n:Int} {p:List UInt8} (h:ll.length≤1000000000) (hb:∀b∈ll,b.length≤1073741824) (hp:p.length≤1073741824) (hn: -9223372036854775808≤n∧n≤9223372036854775807):
  bI Pg I.fE [gi ll,.int .i64 n,eI p] (.tup [gi ((ll++[p]).drop (ll.length+1-n.toNat)),.int .i64 (ll.length+1-n.toNat:Nat)]):=by
 refine ah.intro T.fE (by simp[F.fE]) ?_
 simp[F.fE,au,aG,gi,eI]
 refine jx.kl ll.length (λ_=>True) [0,1,2,6,7,8,12,13,14] (λi=>[(8,.rs 8 [] 0 i i 1 .tip),(14,.int .i64 i)]) (λi=>[(8,.arr 1 ((ll.take i).map eI))]) [.vt 8 8 1] ?_
 simp
 refine⟨λi hi K hK=> ?_,λK=> ?_⟩
 ·have hx:ll[i]? =some ll[i]:=gJ hi
  have lE:min i ll.length=i:=by omega
  simp(disch:=omega) [↓aA,hi,eI,lE]
  have:=hb _ (List.getElem_mem hi)
  repeat (refine⟨by omega,?_⟩)
  refine⟨[.keep [0,1,2,6,7,8,12,13,14],.fz 21],?_⟩
  simp
  exact hK _ (by
   have e:List.take (i+1) (ll.map eI)=(ll.map eI).take i++[eI ll[i]]:=by rw[List.take_succ_eq_append_getElem (by simpa using hi)];simp
   simp[e,eI])
 ·simp(disch:=omega) [↓aA]
  repeat (refine⟨by omega,?_⟩)
  have e:max ((ll.length:Int)+1-max n 0) 0=(ll.length+1-n.toNat:Nat):=by omega
  rw[e]
  have e2:ll.length+1-n.toNat+(ll.length+1-(ll.length+1-n.toNat))≤ll.length+1:=by omega
  refine aL.plain [.keep [6,7,8],.fz 28,.fz 8,.wk 6] ?_
  simp
  exact tJ (by simp)
def PXS:AV:= .st 18 [.st 17 [(.bl (some false)),(.ar 1 16 (uL .u8 2++List.replicate 14 (.int .u8 (some 0))))],(kI 16)]
theorem Vj {i:Nat} (h:i<3):gm PXS (jZ (rt i).K6):=by
 rcases(by omega:i=0∨i=1∨i=2)with rfl|rfl|rfl<;>simp[PXS,rt,qH,iW,jZ,jf,gm,bH,uL,kI,List.replicate,u8]
theorem Vk {i:Nat} (h:i<3) {s:Bool} {a:List Int} (hG:GA s a):∃b:Bool,bI Pg I.gP [jZ (rt i).K6,AF s a] (.bl b):=by
 rcases hG with hG|hG
 ·obtain⟨_,v,h1,h2⟩:=akd akb (.head _) [jZ (rt i).K6,AF s a] ⟨Vj h,hG,trivial⟩
  cases v<;>simp only[gm]at h1
  exact⟨_,h2⟩
 ·obtain⟨_,v,h1,h2⟩:=atS ake (.head _) [jZ (rt i).K6,AF s a] ⟨Vj h,hG,trivial⟩
  cases v<;>simp only[gm]at h1
  exact⟨_,h2⟩
def wT (c:Nat->Bool):Nat->Int
 |0=> -1
 |i+1=>if wT c i<0∧c i=true then i else wT c i
theorem N4 (c:Nat->Bool):∀i,-1≤wT c i∧wT c i<i
 |0=>by simp[wT]
 |
  i+1=>by
  have:=N4 c i
  simp only[wT]
  split<;>omega
theorem Sa {l:List vD} (hl:Ch l) {s:Bool} {a:List Int} (hG:GA s a):∃(k:Key) (b:Bool),(b=true->∃i,i<l.length∧k=nn i)∧bI Pg I.lj [eE l,AF s a] (.tup [ey k,.bl b]):=by
 have Tb:=hl.1
 let c:Nat->Bool:=λi=>if h:i<3 then Classical.choose (Vk h hG)else false
 have hc:∀i,(h:i<3)->bI Pg I.gP [jZ (rt i).K6,AF s a] (.bl (c i)):=by
  intro i h
  have:=Classical.choose_spec (Vk h hG)
  simp only[c,dif_pos h]
  exact this
 generalize c=c at hc
 have hb:=N4 c l.length
 refine⟨if wT c l.length<0 then zK else nn (wT c l.length).toNat,decide (0≤wT c l.length),?_,?_⟩
 ·intro h
  have h:0≤wT c l.length:=by simpa using h
  exact⟨(wT c l.length).toNat,by omega,by rw[if_neg (by omega)]⟩
 refine ah.intro T.vp (by simp[F.vp]) ?_
 simp[F.vp,au,aG]
 refine jx.kl l.length (λ_=>True) [0,3,4,5,6,9,10,11] (λi=>[(6,.int .i64 (wT c i)),(11,.int .i64 i)]) (λi=>[]) [.keep [0,3,4,5,6,9,10,11]] ?_
 simp
 refine⟨rfl,λi hi K hK=> ?_,λK=> ?_⟩
 ·have hx:l[i]? =some l[i]:=gJ hi
  have OV:=hl.2 i hi
  have HM:wT c (i+1)=if wT c i<0∧c i=true then(i:Int)else wT c i:=rfl
  have hbi:=N4 c i
  have hw:IntKind.i64.wrap ((i:Int)+1)=i+1:=wrap_i64 (by omega)
  by_cases h1:wT c i<0
  ·by_cases h2:c i=true
   ·simp[↓aA,hi,OV]
    refine a8.ret (hc i (by omega)) (by simp) (by simp) (by simp) ?_
    simp[h1,h2,hw]
    refine⟨[.keep [0,3,4,5,6,9,10,11],.dr 8],?_⟩
    simp
    rw[HM,if_pos ⟨h1,h2⟩]at hK
    exact hK _ (by simp)
   ·simp[↓aA,hi,OV]
    refine a8.ret (hc i (by omega)) (by simp) (by simp) (by simp) ?_
    simp[h1,h2,hw]
    refine⟨[.keep [0,3,4,5,6,9,10,11],.dr 8],?_⟩
    simp
    rw[HM,if_neg (λe=>h2 e.2)]at hK
    exact hK _ (by simp)
  ·have hk:(wT c i).toNat<l.length:=by omega
   have hxk:l[(wT c i).toNat]? =some l[(wT c i).toNat]:=gJ hk
   have hrk:=hl.2 _ hk
   have hg0:0≤wT c i:=by omega
   have hg1:wT c i<l.length:=by omega
   by_cases h2:c i=true
   ·simp[↓aA,hi,OV]
    refine a8.ret (hc i (by omega)) (by simp) (by simp) (by simp) ?_
    simp[h1,h2,hrk,hg0,hg1,rt,qH,hw]
    refine⟨[.keep [0,3,4,5,6,9,10,11],.dr 8],?_⟩
    simp
    rw[HM,if_neg (λe=>h1 e.1)]at hK
    exact hK _ (by simp)
   ·simp[↓aA,hi,OV]
    refine a8.ret (hc i (by omega)) (by simp) (by simp) (by simp) ?_
    simp[h1,h2,hw]
    refine⟨[.keep [0,3,4,5,6,9,10,11],.dr 8],?_⟩
    simp
    rw[HM,if_neg (λe=>h1 e.1)]at hK
    exact hK _ (by simp)
 ·by_cases h1:wT c l.length<0
  ·have h2:¬0≤wT c l.length:=by omega
   simp[↓aA,h1]
   refine aL.plain [] ?_
   simp[h1]
   rw[gC];rfl
  ·have h2:0≤wT c l.length:=by omega
   have h3:(wT c l.length).toNat<l.length:=by omega
   have hx:l[(wT c l.length).toNat]? =some l[(wT c l.length).toNat]:=gJ h3
   have OV:=hl.2 _ h3
   simp[↓aA,h1,h2,OV,hb.2,rt]
   refine aL.plain [] ?_
   simp[h1,h2]
end Go.Ab
end Q13s
noncomputable section Q14s
namespace Go.Ab
open Go.Ab
theorem Yp {d:bU} {ps:List dC} (hl:ps.length≤1048576) {k:Key} {f:Nat} (hf:f<ps.length) (he:ps[f].gF=k) (h:∀j (hj:j<ps.length),j<f->ps[j].gF≠k):
  ah Pg I.cm [bO d (.rs KB [] 0 ps.length ps.length 464 .tip),ey k] [.arr 464 (ps.map aP)] (λr fp=>r= .int .i64 f∧fp=[.arr 464 (ps.map aP)]):=by
 refine ah.intro T.cm (by simp[F.cm]) ?_
 simp[F.cm,au,aG]
 refine jx.kl f (λ_=>True) [2,3,4,8,9,10] (λi=>[(10,.int .i64 i)]) (λi=>[]) [.keep [2,3,4,8,9,10]] ?_
 simp
 refine⟨λi hi K hK=> ?_,λK=> ?_⟩
 ·have vA:i<ps.length:=by omega
  have hx:ps[i]? =some ps[i]:=gJ vA
  have he:=h i vA hi
  simp[↓aA,vA,he,xt,fV vA hl]
  refine⟨[.keep [2,3,4,8,9,10],.dr 6],?_⟩
  simp
  exact hK _ (by simp)
 ·have hx:ps[f]? =some ps[f]:=gJ hf
  simp[↓aA,hf,he]
  refine aL.with [] [KB] ?_
  simp[af]
structure akm (p q:dC):Prop where
 gF:q.gF=p.gF
 rp:tL p.ring.p q.ring.p
 rc:tL p.ring.c q.ring.c
 rn:tL p.ring.n q.ring.n
 stl:q.bk.length≤100
 stb:∀b∈q.bk,b.length≤80
def rQ (ps qs:List dC):Prop:=qs.length=ps.length∧∀(i:Nat) (p:dC),ps[i]? =some p->∃q:dC,qs[i]? =some q∧akm p q
def akp (d:bU) (ps:List dC) (L:List PV) (r:PV) (fp:List a9):Prop:=r= .tup []∧∃d' s5 L',(d'.timers.length≤d.timers.length+120∧d'.aM.length≤d.aM.length+120∧d'.bD=d.bD∧d'.cN=d.cN∧d'.buckets=d.buckets)∧rQ ps s5∧aB L'∧L'.length≤L.length+120∧fp=MB d' s5 L'
def N5 (ps:List dC):Prop:=∀p∈ps,p.bk.length≤90∧∀b∈p.bk,17≤b.length∧b.length≤80
theorem rQ.refl {ps:List dC} (h:N5 ps):rQ ps ps:=⟨rfl,λi p hp=>by
 obtain⟨h1,h2⟩:=h p (List.mem_of_getElem? hp)
 exact⟨p,hp,rfl,.refl _,.refl _,.refl _,by omega,λb hb=>(h2 b hb).2⟩⟩
theorem rQ.of {ps qs:List dC} {i:Nat} (hi:i<ps.length) {Pr:List (List UInt8)} (A3:N5 ps) (h1:Pr.length≤100) (h2:∀b∈Pr,b.length≤80) (h:nq (ps.set i {ps[i]with bk:=Pr}) qs):rQ ps qs:=by
 refine⟨by rw[h.1];simp,λj p hp=> ?_⟩
 have Td:∀ {q:dC} {l:List (List UInt8)},q.bk<:+l->l.length≤100->(∀b∈l,b.length≤80)->q.bk.length≤100∧∀b∈q.bk,b.length≤80:=by
  intro q l hs g1 g2
  have:=hs.length_le
  exact⟨by omega,λb hb=>g2 b (hs.subset hb)⟩
 by_cases hj:i=j
 ·subst hj
  rw[gJ hi]at hp
  cases hp
  obtain⟨q,hq,hs⟩:=h.2 i {ps[i]with bk:=Pr} (by simp[hi])
  obtain⟨e1,e2⟩:=Td hs.bk h1 h2
  exact⟨q,hq,hs.gF,hs.rp,hs.rc,hs.rn,e1,e2⟩
 ·obtain⟨q,hq,hs⟩:=h.2 j p (by rw[List.getElem?_set_ne hj];exact hp)
  obtain⟨g1,g2⟩:=A3 p (List.mem_of_getElem? hp)
  obtain⟨e1,e2⟩:=Td hs.bk (by omega) (λb hb=>(g2 b hb).2)
  exact⟨q,hq,hs.gF,hs.rp,hs.rc,hs.rn,e1,e2⟩
theorem N6 {d:bU} {ps:List dC} (hk:xu ps) (hr:Ch d.bD) (Jd:d.bD.length=ps.length) (hs:d.aM.length<32) (hb:∀s∈d.aM,s.index≤1000) (ht:d.timers.length≤900000) {L:List PV} (hL:aB L) (hl:L.length≤100)
  (A3:N5 ps) (hsg: -9223372036854775808≤d.rules.oo∧d.rules.oo≤9223372036854775807) {b:List UInt8} (Zv:b.length≤80):
  ah Pg I.iL [.pt KB [] 0,eI b] (MB d ps L) (akp d ps L):=by
 obtain⟨p,e,he,hT⟩:=akk Zv
 refine ah.intro T.AG (by simp[F.AG]) ?_
 simp[F.AG,au,aG,MB]
 refine al.ret hT (by simp) (by simp) (by simp) ?_
 simp
 refine⟨λh0=> ?_,λh0=> ?_⟩
 ·refine aL.with [] [KB,KB+1,KB+2] ?_
  simp[fa,hL.refs,hL.aF,af]
  exact⟨rfl,{d with bad:=IntKind.i64.wrap (d.bad+1)},ps,L,⟨by simp,by simp,rfl,rfl,rfl⟩,rQ.refl A3,hL,by omega,rfl⟩
 ·obtain⟨VN,sH⟩:=he h0
  obtain⟨s1,s2,l1,l2,n,e2,hG,_,hC⟩:=N3 (l:=p) sH
  obtain⟨k,f,hkf,hLk⟩:=Sa hr hG
  refine al.ret hC (by simp) (by simp) (by simp) ?_
  simp
  refine nj.run [] rfl ?_
  simp
  refine a8.ret hLk (by simp) (by simp) (by simp) ?_
  simp
  refine⟨λhf=> ?_,λhf=> ?_⟩
  ·refine aL.with [] [KB,KB+1,KB+2] ?_
   simp[fa,hL.refs,hL.aF,af]
   exact⟨rfl,{d with bad:=IntKind.i64.wrap (d.bad+1)},ps,L,⟨by simp,by simp,rfl,rfl,rfl⟩,rQ.refl A3,hL,by omega,rfl⟩
  obtain⟨i,hi,rfl⟩:=hkf hf
  have hi:i<ps.length:=by omega
  have hx:ps[i]? =some ps[i]:=gJ hi
  have alO:=A3 _ (List.getElem_mem hi)
  have hF:=Yp (d:=d) (ps:=ps) (by have:=hk.1;omega) (k:=nn i) hi (hk.2 i hi) (λj hj A9=>by
   rw[hk.2 j hj];intro e;exact absurd (u6 (by have:=hk.1;omega) (by have:=hk.1;omega) e) (by omega))
  have hP:=akl (ll:=ps[i].bk) (n:=d.rules.oo) (p:=p) (by omega) (λb hb=>by have:=alO.2 b hb;omega) (by omega) hsg
  generalize alP:(ps[i].bk++[p]).drop (ps[i].bk.length+1-d.rules.oo.toNat)=Pr at hP
  refine al.gen [KB+1] [] [.arr 464 (ps.map aP)] hF (by simp[getAll]) (by simp) (by simp) (by simp[ae,ab,bg,idx,bO]) (by simp[af]) (by simp[aK,aF,aT,idx,bO]) (by simp[a0]) (by simp[ab,af]) ?_
  simp[bC,a0,aF,hi]
  refine a8.ret hP (by simp) (by simp) (by simp) ?_
  simp[hi]
  have DX:Pr.length≤100:=by rw[←alP];simp;omega
  have hsb:∀x∈Pr,17≤x.length∧x.length≤80:=by
   intro x hx
   rw[←alP]at hx
   rcases List.mem_append.1 (List.mem_of_mem_drop hx)with h|h
   ·exact alO.2 x h
   ·have:x=p:=by simpa using h
    subst this;omega
  have hFl:=N0 (d:=d) (ps:=ps.set i {ps[i]with bk:=Pr}) (i:=i) (by simp[hi]) hs hb ht hL hl (by simpa using DX) (by simpa using hsb)
  refine al.mo KB (KB+1) (KB+2) hFl (by simp) (by simp[List.map_set]) (by simp) (by simp) hL (by simp[ae,ab,bg,idx]) (by simp[aK,aF,aT,idx]) ?_
  rintro r fp ⟨rfl,d',s5,L',hG,ma,rR,rfl⟩
  refine⟨_,_,_,rfl,by simp,ma,?_⟩
  refine aL.with [] [KB,KB+1,KB+2] ?_
  simp[fa,ma.refs,ma.aF,af]
  exact⟨rfl,d',s5,L',⟨hG.timers,hG.aM,hG.bD,hG.cN,hG.buckets⟩,rQ.of hi A3 DX (λx hx=>(hsb x hx).2) hG.xR,ma,rR,rfl⟩
end Go.Ab
end Q14s
