/- Addresses, endpoints, packets. No condition. -/
import Derived.Test.YtjkfnhhekobfgaaGreatDoorW1
import Derived.Test.YtjkfnhhekobfgaaGreatDoorK1
import Derived.Test.YtjkfnhhekobfgaaGreatDoorA5
import Derived.Lib.ItoaLen
set_option maxRecDepth 100000
set_option maxHeartbeats 4000000
set_option linter.all false
noncomputable section W9s
namespace Go.Ab
open Go.Ab
theorem Fi (a b:im):PV.beq (dN a) (dN b)=(decide (a.jJ=b.jJ)&&decide (a.ip=b.ip)):=by
 simp only[dN,PV.beq,PV.mF,BF,Bool.and_true]
 cases a.jJ<;>cases b.jJ<;>simp
def im.j0 (a:im) (i:Nat):UInt8:=a.ip.getD i 0
theorem im.Dy (a:im) {i:Nat} (h:i<16):a.ip[i]? =some (a.j0 i):=by
 have:i<a.ip.length:=by rw[a.h];exact h
 simp[im.j0,List.getD,gJ this]
theorem im.Fj {a b:List UInt8} (ha:a.length=16) (hb:b.length=16) (h:∀i,i<16->a.getD i 0=b.getD i 0):a=b:=by
 apply List.ext_getElem (by omega)
 intro i h1 h2
 have:=h i (by omega)
 simpa[List.getD,gJ h1,gJ h2]using this
def jg (a:im):Bool:=a.jJ||decide (fst (λi=>a.j0 (4+i) !=0) 12=12)
theorem yI (a:im):bg Pg I.bT [dN a] (.bl (jg a)):=by
 refine ai.intro T.bT (by simp[F.bT]) ?_
 have hle:=gu (λi=>a.j0 (4+i) !=0) 12
 have jP:∀i,i<fst (λi=>a.j0 (4+i) !=0) 12->a.j0 (4+i)=0:=λi h=>by simpa using gD h
 have jQ:fst (λi=>a.j0 (4+i) !=0) 12<12->a.j0 (4+fst (λi=>a.j0 (4+i) !=0) 12)≠0:=λh=>by simpa using gN h
 have hr:jg a=(a.jJ||decide (fst (λi=>a.j0 (4+i) !=0) 12=12)):=rfl
 generalize fst (λi=>a.j0 (4+i) !=0) 12=n at*
 simp[F.bT,aj,aF]
 cases h6:a.jJ
 ·refine fb.fG n (λ_=>True) [1,2,6,7,8] (λi=>[(8,.int .i64 i)]) (λi=>[]) [.keep [1,2,6,7,8]] ?_
  simp
  refine⟨λi hi K hK=> ?_,λK=> ?_⟩
  ·have hx:=a.Dy (i:=4+i) (by omega)
   rw[jP i hi]at hx
   have hw:IntKind.i64.wrap ((i:Int)+1)=(i:Int)+1:=wrap_i64 (by omega)
   have yW:i<12:=by omega
   have qo:(i:Int)<12:=by omega
   simp[↓ah,yW,qo,hx,hw,u8,h6]
   refine⟨[.keep [1,2,6,7,8]],?_⟩
   simp
   exact hK _ (by simp)
  ·by_cases hn:n<12
   ·have hx:=a.Dy (i:=4+n) (by omega)
    have bS:=jQ hn
    have qo:(n:Int)<12:=by omega
    have DX:¬n=12:=by omega
    have hn3:¬(a.j0 (4+n)).toNat=0:=λh=>bS (UInt8.toNat_inj.1 (by simpa using h))
    generalize a.j0 (4+n)=b at*
    simp[↓ah,hn,qo,hx,u8,h6,hn3]
    refine al.plain [] ?_
    simp[hr,h6,DX]
   ·have DX:n=12:=by omega
    subst DX
    simp[↓ah]
    refine al.plain [] ?_
    simp[hr]
 ·refine fb.fG 12 (λ_=>True) [1,2,6,7,8] (λi=>[(8,.int .i64 i)]) (λi=>[]) [.keep [1,2,6,7,8]] ?_
  simp
  refine⟨λi hi K hK=> ?_,λK=> ?_⟩
  ·have hx:=a.Dy (i:=4+i) (by omega)
   have hw:IntKind.i64.wrap ((i:Int)+1)=(i:Int)+1:=wrap_i64 (by omega)
   have qo:(i:Int)<12:=by omega
   simp[↓ah,hi,qo,hx,hw,u8,h6]
   refine⟨[.keep [1,2,6,7,8]],?_⟩
   simp
   exact hK _ (by simp)
  ·simp[↓ah]
   refine al.plain [] ?_
   simp[hr,h6]
def zF (a:im):im:=⟨a.jJ,a.ip.take 4++List.replicate 12 0,by simp[a.h]⟩
theorem KV (a:im) (i:Nat):(zF a).j0 i=if i<4 then a.j0 i else 0:=by
 simp only[im.j0,zF,List.getD]
 by_cases h:i<4
 ·rw[if_pos h,List.getElem?_append_left (by simp[a.h];omega),List.getElem?_take,if_pos h]
 ·rw[if_neg h,List.getElem?_append_right (by simp[a.h];omega),List.getElem?_replicate]
  split<;>rfl
theorem O3 (a:im):a.ip=(zF a).ip↔fst (λi=>a.j0 (4+i) !=0) 12=12:=by
 rw[j5]
 constructor
 ·intro h i hi
  have:a.j0 (4+i)=(zF a).j0 (4+i):=by unfold im.j0;rw[←h]
  rw[this,KV,if_neg (by omega)];simp
 ·intro h
  refine im.Fj a.h (zF a).h λi hi=> ?_
  show a.j0 i=(zF a).j0 i
  rw[KV]
  split
  ·rfl
  ·have:=h (i-4) (by omega)
   rw[show 4+(i-4)=i by omega]at this
   simpa using this
theorem Fk (a:im):bg Pg I.iI [dN a] (.bl (jg a)):=by
 refine ai.intro T.iI (by simp[F.iI]) ?_
 simp[F.iI,aj,aF]
 have he:tQ a (PV.ar 1 16 (List.take 4 (List.map u8 a.ip)++PV.int IntKind.u8 0::PV.int IntKind.u8 0::PV.int IntKind.u8 0::PV.int IntKind.u8 0::PV.int IntKind.u8 0::PV.int IntKind.u8 0::PV.int IntKind.u8 0::PV.int IntKind.u8 0::PV.int IntKind.u8 0::PV.int IntKind.u8 0::PV.int IntKind.u8 0::PV.int IntKind.u8 0::List.drop 16 (List.map u8 a.ip)))=dN (zF a):=by
  have:List.drop 16 (List.map u8 a.ip)=[]:=List.drop_of_length_le (by simp[a.h])
  rw[this]
  simp[tQ,dN,zF,u8,List.replicate]
 rw[he]
 refine⟨by simp,?_⟩
 cases h6:a.jJ
 ·refine⟨by simp,?_⟩
  simp[h6]
  refine al.plain [] ?_
  have hb:PV.beq (dN a) (dN (zF a))=decide (fst (λi=>a.j0 (4+i) !=0) 12=12):=by
   rw[Fi,show(zF a).jJ=a.jJ from rfl];simp[O3]
  simp[jg,h6,hb]
 ·simp[h6]
  refine al.plain [] ?_
  simp[jg,h6]
def vr (f:Nat->UInt8) (l:List UInt8) (i:Nat):List UInt8:=(List.range l.length).map λj=>if j<i then f j else l.getD j 0
theorem uh (f:Nat->UInt8) (l:List UInt8) (i:Nat):(vr f l i).length=l.length:=by simp[vr]
theorem xe (f:Nat->UInt8) (l:List UInt8) (i:Nat) {j:Nat} (h:j<l.length):(vr f l i)[j]? =some (if j<i then f j else l.getD j 0):=by simp[vr,h]
theorem UW (f:Nat->UInt8) (l:List UInt8):vr f l 0=l:=by
 apply List.ext_getElem (by simp[uh])
 intro j h1 h2
 have:=xe f l 0 h2
 rw[gJ h1]at this
 simpa[List.getD,gJ h2]using this
theorem KW (f:Nat->UInt8) (l:List UInt8) (i:Nat):((vr f l i).map u8).set i (u8 (f i))=(vr f l (i+1)).map u8:=by
 rw[←List.map_set]
 congr 1
 apply List.ext_getElem (by simp[uh])
 intro j h1 h2
 simp only[vr,List.getElem_set,List.getElem_map,List.getElem_range]
 by_cases e:i=j
 ·subst e;simp
 ·simp only[e,if_false]
  by_cases e2:j<i
  ·rw[if_pos e2,if_pos (by omega)]
  ·rw[if_neg e2,if_neg (by omega)]
def cb (n:Nat) (b:UInt8):UInt8:=b&&& ~~~((255:UInt8)>>>UInt8.ofNat n)
theorem ahS:∀(n:Fin 9) (b:Fin 256),bits .and .u8 (b.val:Int) (bits .xor .u8 (if IntKind.u8.signed=true then-1 else IntKind.u8.max) (Int.fdiv 255 (2^min n.val IntKind.u8.bits)))=((if n.val=8 then b.val else(cb n.val (UInt8.ofNat b.val)).toNat:Nat):Int):=by decide+kernel
def lf (n i:Nat):Nat:=min (n-8*i) 8
def qn (a:im) (n i:Nat):UInt8:=if lf n i=8 then a.j0 i else cb (lf n i) (a.j0 i)
theorem UX (a:im) (n i:Nat):bits .and .u8 ((a.j0 i).toNat:Int) (bits .xor .u8 (if IntKind.u8.signed=true then-1 else IntKind.u8.max) (Int.fdiv 255 (2^min (lf n i) IntKind.u8.bits)))=((qn a n i).toNat:Int):=by
 have:=ahS ⟨lf n i,by unfold lf;omega⟩ ⟨(a.j0 i).toNat,(a.j0 i).toNat_lt⟩
 simp only at this
 rw[this]
 unfold qn
 split
 ·rfl
 ·simp
def mu (a:im) (n:Nat):im:=⟨a.jJ,vr (qn a n) a.ip 16,by rw[uh,a.h]⟩
theorem UY (a:im) {n:Nat} (hn:n≤128):bg Pg I.jC [dN a,.int .i64 n] (dN (mu a n)):=by
 refine ai.intro T.jC (by simp[F.jC]) ?_
 simp[F.jC,aj,aF]
 refine fb.fG 16 (λ_=>True) [1,2,4,7] (λi=>[(7,.int .i64 i)]) (λi=>[(2,.box (.st 17 [.bl a.jJ,.ar 1 16 ((vr (qn a n) a.ip i).map u8)]))]) [.keep [1,2,4,7]] ?_
 simp[UW,dN]
 refine⟨λi hi K hK=> ?_,λK=> ?_⟩
 ·have hx:=xe (qn a n) a.ip i (j:=i) (by rw[a.h];exact hi)
  rw[if_neg (by omega)]at hx
  have hx:(vr (qn a n) a.ip i)[i]? =some (a.j0 i):=hx
  have hw:IntKind.i64.wrap ((i:Int)+1)=(i:Int)+1:=wrap_i64 (by omega)
  have zf:IntKind.i64.wrap (8*(i:Int))=8*(i:Int):=wrap_i64 (by omega)
  have Cq:IntKind.i64.wrap ((n:Int)-8*(i:Int))=(n:Int)-8*(i:Int):=wrap_i64 (by omega)
  have eS:(i:Int)<16:=by omega
  have hm:min (max ((n:Int)-8*(i:Int)) 0) 8=(lf n i:Int):=by unfold lf;omega
  have he:=UX a n i
  have hs:=KW (qn a n) a.ip i
  have hlen:=uh (qn a n) a.ip i
  generalize vr (qn a n) a.ip i=L at*
  generalize vr (qn a n) a.ip (i+1)=M at*
  generalize a.j0 i=b at*
  generalize lf n i=q at*
  generalize qn a n i=c at*
  have e1:(L.map u8).set i (PV.int IntKind.u8 (c.toNat:Int))=M.map u8:=hs
  simp[↓ah,hi,eS,hx,hw,zf,Cq,hm,he,av,abG,-getElem?_pos]
  refine⟨.inr (.inr rfl),⟨rfl,rfl⟩,[.keep [1,2,4,7]],?_⟩
  simp only[he,e1]
  simp
  exact hK _ (by simp)
 ·simp[↓ah]
  refine al.plain [] ?_
  simp[mu,dN]
def mY (p:Aq):Bool:=jg p.addr&&decide (0≤p.bits)&&decide (p.bits≤if p.addr.jJ=true then 128 else 32)&&decide (p.addr.ip=(mu p.addr p.bits.toNat).ip)
theorem oa (a:im):fits (Sh.st [Sh.b,Sh.ar 16 (Sh.i IntKind.u8)]) (dN a)=true:=H5 a
theorem sM (p:Aq):bg Pg I.gX [iE p] (.bl (mY p)):=by
 refine ai.intro T.gX (by simp[F.gX]) ?_
 have hr:mY p=(jg p.addr&&decide (0≤p.bits)&&decide (p.bits≤if p.addr.jJ=true then 128 else 32)&&decide (p.addr.ip=(mu p.addr p.bits.toNat).ip)):=rfl
 have h1:=oa p.addr
 have hb:PV.beq (dN (mu p.addr p.bits.toNat)) (dN p.addr)=decide (p.addr.ip=(mu p.addr p.bits.toNat).ip):=by
  rw[Fi,show(mu p.addr p.bits.toNat).jJ=p.addr.jJ from rfl];simp[eq_comm]
 have h2:=oa (mu p.addr p.bits.toNat)
 cases h6:p.addr.jJ
 ·simp[F.gX,aj,aF,h6]
  refine aU.ret (Fk p.addr) (by simp) (by simp) (by simp) ?_
  cases g1:jg p.addr
  ·simp
   refine al.plain [] ?_
   simp[hr,g1]
  by_cases g2:0≤p.bits
  ·by_cases g3:p.bits≤32
   ·have hc:=UY p.addr (n:=p.bits.toNat) (by omega)
    rw[show((p.bits.toNat:Nat):Int)=p.bits by omega]at hc
    simp[g2,g3]
    refine aU.ret hc (by simp) (by simp) (by simp) ?_
    simp[h1,h2]
    refine al.plain [] ?_
    simp[hr,g1,g2,g3,h6,hb]
   ·simp[g2,g3]
    refine al.plain [] ?_
    simp[hr,g3,h6]
  ·simp[g2]
   refine al.plain [] ?_
   simp[hr,g2]
 ·simp[F.gX,aj,aF,h6]
  refine aU.ret (Fk p.addr) (by simp) (by simp) (by simp) ?_
  cases g1:jg p.addr
  ·simp
   refine al.plain [] ?_
   simp[hr,g1]
  by_cases g2:0≤p.bits
  ·by_cases g3:p.bits≤128
   ·have hc:=UY p.addr (n:=p.bits.toNat) (by omega)
    rw[show((p.bits.toNat:Nat):Int)=p.bits by omega]at hc
    simp[g2,g3]
    refine aU.ret hc (by simp) (by simp) (by simp) ?_
    simp[h1,h2]
    refine al.plain [] ?_
    simp[hr,g1,g2,g3,h6,hb]
   ·simp[g2,g3]
    refine al.plain [] ?_
    simp[hr,g3,h6]
  ·simp[g2]
   refine al.plain [] ?_
   simp[hr,g2]
def qQ (a:im) (i:Nat):Nat:=(a.j0 (i/8)).toNat/2^(7-i%8)%2
theorem abX:∀(k:Fin 8) (b:Fin 256),bits .and .u8 ((b.val:Int).fdiv (2^k.val)) 1=((b.val/2^k.val%2:Nat):Int):=by decide+kernel
theorem abY (a:im) {i:Nat} (eS:i<128):bg Pg I.dm [dN a,.int .i64 (i:Int)] (.int .u8 (qQ a i)):=by
 refine ai.intro T.dm (by simp[F.dm]) ?_
 have hx:=a.Dy (i:=i/8) (by omega)
 have hw:IntKind.i64.wrap ((i/8:Nat):Int)=((i/8:Nat):Int):=wrap_i64 (by omega)
 have Cq:IntKind.i64.wrap (7-((i%8:Nat):Int))=((7-i%8:Nat):Int):=by rw[wrap_i64 (by omega)];omega
 have hd:(i:Int).tdiv 8=((i/8:Nat):Int):=by rw[show(8:Int)=((8:Nat):Int) from rfl,←Int.ofNat_tdiv]
 have hb:=abX ⟨7-i%8,by omega⟩ ⟨(a.j0 (i/8)).toNat,(a.j0 (i/8)).toNat_lt⟩
 have hm:min (7-i%8) IntKind.u8.bits=7-i%8:=by show min (7-i%8) 8=_;omega
 have hr:qQ a i=(a.j0 (i/8)).toNat/2^(7-i%8)%2:=rfl
 simp only at hb
 rw[←hr]at hb
 have h16:((i/8:Nat):Int)<16:=by omega
 generalize a.j0 (i/8)=b at*
 generalize qQ a i=r at*
 generalize hq:7-i%8=q at*
 generalize hp:i%8=z at*
 generalize hs:i/8=y at*
 have hq2:IntKind.i64.wrap (7-(z:Int))=(q:Int):=Cq
 simp[F.dm,aj,aF,RM,hw,Cq,hd,hx,u8,hp,hm,h16,hb,-Int.natCast_ediv,-Int.natCast_emod,-getElem?_pos]
 refine al.plain [] ?_
 simp
theorem UZ:∀(q:Fin 8) (b:Fin 256),cb q.val (UInt8.ofNat b.val)=UInt8.ofNat b.val↔∀k:Fin 8,q.val≤k.val->b.val/2^(7-k.val)%2=0:=by decide+kernel
theorem Dz (a:im) (n j:Nat):qn a n j=a.j0 j↔∀k,k<8->n≤8*j+k->(a.j0 j).toNat/2^(7-k)%2=0:=by
 unfold qn
 split
 ·rename_i h
  refine⟨λ_ k hk hn=> ?_,λ_=>rfl⟩
  unfold lf at h;omega
 ·rename_i h
  have hq:lf n j<8:=by unfold lf at h⊢;omega
  have:=UZ ⟨lf n j,hq⟩ ⟨(a.j0 j).toNat,(a.j0 j).toNat_lt⟩
  simp only[UInt8.ofNat_toNat]at this
  rw[this]
  constructor
  ·intro h1 k hk hn
   exact h1 ⟨k,hk⟩ (by show lf n j≤k;unfold lf;omega)
  ·intro h1 k hk
   exact h1 k.val k.isLt (by have AW:lf n j≤k.val:=hk;unfold lf at AW h;have:=k.isLt;omega)
theorem sN (p:Aq) (h0:0≤p.bits) (h1:p.bits≤128):(∀i,i<128-p.bits.toNat->qQ p.addr (p.bits.toNat+i)=0)↔p.addr.ip=(mu p.addr p.bits.toNat).ip:=by
 obtain⟨n,hn⟩:∃n,n=p.bits.toNat:=⟨_,rfl⟩
 rw[←hn]
 have jQ:∀j,j<16->(mu p.addr n).j0 j=qn p.addr n j:=λj hj=>by
  have:=xe (qn p.addr n) p.addr.ip 16 (j:=j) (by rw[p.addr.h];exact hj)
  rw[if_pos hj]at this
  simp only[im.j0,mu,List.getD,this];rfl
 constructor
 ·intro h
  refine im.Fj p.addr.h (mu p.addr n).h λj hj=> ?_
  show p.addr.j0 j=(mu p.addr n).j0 j
  rw[jQ j hj]
  refine((Dz p.addr n j).2 λk hk hnk=> ?_).symm
  have:=h (8*j+k-n) (by omega)
  rw[show n+(8*j+k-n)=8*j+k by omega]at this
  unfold qQ at this
  rwa [show(8*j+k)/8=j by omega,show(8*j+k)%8=k by omega]at this
 ·intro h i hi
  have hj:(n+i)/8<16:=by omega
  have:=(Dz p.addr n ((n+i)/8)).1 (by rw[←jQ _ hj];unfold im.j0;rw[←h]) ((n+i)%8) (by omega) (by omega)
  exact this
theorem BQ (p:Aq):bg Pg I.bK [iE p] (.bl (mY p)):=by
 refine ai.intro T.bK (by simp[F.bK]) ?_
 have hr:mY p=(jg p.addr&&decide (0≤p.bits)&&decide (p.bits≤if p.addr.jJ=true then 128 else 32)&&decide (p.addr.ip=(mu p.addr p.bits.toNat).ip)):=rfl
 simp[F.bK,aj,aF]
 refine aU.ret (yI p.addr) (by simp) (by simp) (by simp) ?_
 cases g1:jg p.addr
 ·simp
  refine al.plain [] ?_
  simp[hr,g1]
 by_cases g2:p.bits<0
 ·simp[g2]
  refine al.plain [] ?_
  simp[hr,show¬0≤p.bits by omega]
 simp[g2]
 refine aU.ret (dc p.addr) (by simp) (by simp) (by simp) ?_
 by_cases g3:(if p.addr.jJ=true then(128:Int)else 32)<p.bits
 ·simp[g3]
  refine al.plain [] ?_
  simp[hr,show¬p.bits≤(if p.addr.jJ=true then(128:Int)else 32) by omega]
 have ajf:p.bits≤128:=by
  split at g3<;>omega
 have We:=sN p (by omega) ajf
 rw[show(∀i,i<128-p.bits.toNat->qQ p.addr (p.bits.toNat+i)=0)↔∀i,i<128-p.bits.toNat->(qQ p.addr (p.bits.toNat+i) !=0)=false by simp,←j5]at We
 have mQ:mY p=decide (fst (λi=>qQ p.addr (p.bits.toNat+i) !=0) (128-p.bits.toNat)=128-p.bits.toNat):=by
  rw[hr,g1]
  simp[We,show 0≤p.bits by omega,show p.bits≤(if p.addr.jJ=true then(128:Int)else 32) by omega]
 have hle:=gu (λi=>qQ p.addr (p.bits.toNat+i) !=0) (128-p.bits.toNat)
 have jP:∀i,i<fst (λi=>qQ p.addr (p.bits.toNat+i) !=0) (128-p.bits.toNat)->qQ p.addr (p.bits.toNat+i)=0:=λi h=>by simpa using gD h
 have jQ:fst (λi=>qQ p.addr (p.bits.toNat+i) !=0) (128-p.bits.toNat)<128-p.bits.toNat->qQ p.addr (p.bits.toNat+fst (λi=>qQ p.addr (p.bits.toNat+i) !=0) (128-p.bits.toNat))≠0:=λh=>by simpa using gN h
 generalize fst (λi=>qQ p.addr (p.bits.toNat+i) !=0) (128-p.bits.toNat)=n at*
 obtain⟨m,hm⟩:∃m,m=p.bits.toNat:=⟨_,rfl⟩
 have R8:p.bits=(m:Int):=by omega
 rw[R8]at g3
 rw[←hm]at mQ hle jP jQ
 clear hr We
 simp[g3,R8]
 refine fb.fG n (λ_=>True) [1,2,3] (λi=>[(3,.int .i64 ((m:Int)+(i:Int)))]) (λi=>[]) [.keep [1,2,3]] ?_
 simp
 refine⟨λi hi K hK=> ?_,λK=> ?_⟩
 ·have hw:IntKind.i64.wrap ((m:Int)+(i:Int)+1)=(m:Int)+((i:Int)+1):=by rw[wrap_i64 (by omega)];omega
  have qo:(m:Int)+(i:Int)<128:=by omega
  have hb:=abY p.addr (i:=m+i) (by omega)
  rw[show((m+i:Nat):Int)=(m:Int)+(i:Int) by omega,jP i hi]at hb
  simp[↓ah,hi,qo,hw]
  refine an.ret hb (by simp) (by simp) (by simp) ?_
  simp[hw]
  refine⟨[.keep [1,2,3]],?_⟩
  simp
  exact hK _ (by simp)
 ·by_cases hn:n<128-m
  ·have qo:(m:Int)+(n:Int)<128:=by omega
   have hb:=abY p.addr (i:=m+n) (by omega)
   rw[show((m+n:Nat):Int)=(m:Int)+(n:Int) by omega]at hb
   have bS:=jQ hn
   have pW:¬n=128-m:=by omega
   generalize qQ p.addr (m+n)=b at*
   have ajg:¬(b:Int)=0:=by omega
   simp[↓ah,qo]
   refine an.ret hb (by simp) (by simp) (by simp) ?_
   simp[bS,ajg]
   refine al.plain [] ?_
   simp[mQ,pW]
  ·have qo:¬((m:Int)+(n:Int)<128):=by omega
   have pW:n=128-m:=by omega
   simp[↓ah,qo]
   refine al.plain [] ?_
   simp[mQ,pW]
end Go.Ab
end W9s
noncomputable section W10s
namespace Go.Ab
open Go.Ab
theorem KX {bx:List (Nat×bX)}:∀ {l:List PV},ab (λ_=>false) l=true->Xw bx l l
 |[],_=>trivial
 |
  p::r,h=>by
  simp only[ab,aJ]at h
  exact⟨.inl (.inl ⟨rfl,h.1⟩),KX h.2⟩
theorem RR {f:FuncId} {sz:Nat} {xs rest:List PV} {v:PV} (hA:bg Pg f (.sl sz xs false::rest) v) (iq:0<sz) (hw:∀x∈xs,x.width=sz) (hx:ab (λ_=>false) xs=true) (hr:ab (λ_=>false) rest=true)
  (hv:Da v=true) (hvp:Pure v):ai Pg f (.rs KB [] 0 xs.length xs.length sz .tip::rest) [.arr sz xs] (λr fp=>r=v∧fp=[.arr sz xs]):=by
 have h:=ai.view (args:= .rs KB [] 0 xs.length xs.length sz .tip::rest) (fp:=[.arr sz xs]) hA ⟨.inl (.inr ⟨KB,[],0,xs.length,xs.length,sz,.tip,xs,rfl,by simp[content,get,aF],hx,iq,rfl⟩),KX hr⟩ (λr new e=>by
  obtain⟨rfl,rfl⟩:=e
  exact⟨hv,rfl⟩)
 refine h.mono ?_
 rintro r pV ⟨r0,new,⟨rfl,rfl⟩,rfl,rfl⟩
 exact⟨hvp.aB _,by simp⟩
theorem lV (l:List (List UInt8)):cD (l.map PV.str):=dQ (λx=>(by simp:Pure (PV.str x))) l
def GF (a:im) (n:Nat):List (List UInt8):=(a.ip.take n).map (λb=>Lib.itoa (b.toNat:Int))
theorem BR {a:im} {n:Nat} (h:n≤16):(GF a n).length=n:=by simp[GF,a.h];omega
theorem KY (a:im) {n:Nat} {b:UInt8} (h:a.ip[n]? =some b):GF a (n+1)=GF a n++[Lib.itoa (b.toNat:Int)]:=by
 unfold GF
 rw[List.take_add_one,h];simp
theorem Io {a:im} (h6:a.jJ=false):mY ⟨a,32⟩=jg a:=by
 unfold mY
 cases h:jg a
 ·simp
 ·have hz:∀j,4≤j->j<16->a.j0 j=0:=by
   intro j h1 h2
   unfold jg at h
   rw[h6,Bool.false_or,decide_eq_true_eq,j5]at h
   have:=h (j-4) (by omega)
   rw[show 4+(j-4)=j by omega]at this
   simpa using this
  have:=(sN ⟨a,32⟩ (show(0:Int)≤32 by decide) (show(32:Int)≤128 by decide)).1 (λi hi=>by
   simp only at hi⊢
   unfold qQ
   rw[hz _ (by simp;omega) (by simp at hi⊢;omega)];simp)
  have this:a.ip=(mu a 32).ip:=this
  simp[h6,←this]
theorem Fl {a:im} (h6:a.jJ=true):mY ⟨a,128⟩=jg a:=by
 unfold mY
 have:=(sN ⟨a,128⟩ (show(0:Int)≤128 by decide) (show(128:Int)≤128 by decide)).1 (λi hi=>by simp at hi)
 have this:a.ip=(mu a 128).ip:=this
 simp[h6,←this]
theorem O4 (a:im):bg Pg I.fT [dN a] (.bl (jg a)):=by
 refine ai.intro T.fT (by simp[F.fT]) ?_
 cases h6:a.jJ
 ·have hv:=sM ⟨a,32⟩
  rw[Io h6]at hv
  have he:(.st 18 [dN a,.int .i64 32]:PV)=iE ⟨a,32⟩:=rfl
  simp[F.fT,aj,aF,h6,av]
  rw[he]
  refine an.ret hv (by simp) (by simp) (by simp) ?_
  simp
  refine al.plain [] ?_
  simp
 ·have hv:=sM ⟨a,128⟩
  rw[Fl h6]at hv
  have he:(.st 18 [dN a,.int .i64 128]:PV)=iE ⟨a,128⟩:=rfl
  simp[F.fT,aj,aF,h6,av]
  rw[he]
  refine an.ret hv (by simp) (by simp) (by simp) ?_
  simp
  refine al.plain [] ?_
  simp
def zG (a:im) (i:Nat):Nat:=(a.j0 (2*i)).toNat*256+(a.j0 (2*i+1)).toNat
theorem KZ (a:im) (i:Nat):zG a i<65536:=by
 have:=(a.j0 (2*i)).toNat_lt;have:=(a.j0 (2*i+1)).toNat_lt;unfold zG;omega
def GG (a:im) (n:Nat):List (List UInt8):=(List.range n).map λi=>BK (zG a i)
theorem BS (a:im) (n:Nat):(GG a n).length=n:=by simp[GG]
theorem K0 (a:im) (n:Nat):GG a (n+1)=GG a n++[BK (zG a n)]:=by simp[GG,List.range_succ]
theorem or8 {x y:Nat} (hx:x<256) (hy:y<256):(x*256)|||y=x*256+y:=by
 have:=Nat.shiftLeft_add_eq_or_of_lt (i:=8) (b:=y) (by omega) x
 rw[Nat.shiftLeft_eq]at this
 exact this.symm
theorem GH:∀ {xs:List (List UInt8)} {m:Nat},(∀x∈xs,x.length≤m)->Lib.lens xs≤m*xs.length
 |[],m,_=>by simp[Lib.lens]
 |
  x::xs,m,h=>by
  have h1:=h x (by simp)
  have h2:=GH (xs:=xs) (m:=m) (λy hy=>h y (by simp[hy]))
  simp only[Lib.lens,List.map_cons,List.sum_cons,List.length_cons,Nat.mul_add]at h2⊢
  omega
def Ip (a:im):List UInt8:=Lib.join (GG a 8) [58]
def Iq (a:im):List UInt8:=Lib.join (GF a 4) [46]
theorem K1 {xs:List (List UInt8)} {s:List UInt8} {m n:Nat} (hn:xs.length=n+2) (hs:s.length=1) (h:∀x∈xs,x.length≤m):1≤(Lib.join xs s).length∧(Lib.join xs s).length≤n+1+m*(n+2):=by
 match xs,hn with
 |
  x::y::r,hn=>
  rw[Lib.join_length]
  have:=GH h
  rw[hn]at this
  simp at hn
  simp only[List.length_cons,hs]at*
  constructor<;>omega
theorem K5 (a:im):1≤(Ip a).length∧(Ip a).length≤1000:=by
 have:=K1 (n:=6) (s:=[58]) (m:=4) (BS a 8) rfl (λx hx=>by
  obtain⟨i,_,rfl⟩:=List.mem_map.1 hx
  rw[KM];have:=pQ (zG a i);omega)
 unfold Ip;omega
theorem K6 (a:im):1≤(Iq a).length∧(Iq a).length≤1000:=by
 have:=K1 (n:=2) (s:=[46]) (m:=21) (BR (a:=a) (n:=4) (by omega)) rfl (λx hx=>by
  obtain⟨b,_,rfl⟩:=List.mem_map.1 hx
  have:=b.toNat_lt
  exact Lib.itoa_length_le (b.toNat:Int) (by omega) (by omega))
 unfold Iq;omega
theorem DA (a:im):bg Pg I.ff [dN a] (.str (if jg a=true then(if a.jJ=true then Ip a else Iq a)else [])):=by
 refine ai.intro T.ff (by simp[F.ff]) ?_
 simp[F.ff,aj,aF]
 refine an.ret (O4 a) (by simp) (by simp) (by simp) ?_
 cases hs:jg a
 ·simp
  refine al.plain [] ?_
  simp
 cases h6:a.jJ
 ·simp[h6,↓ah]
  refine fb.fG 4 (λ_=>True) [1,2,3,36] (λi=>[(3,.rs 3 [] 0 i i 1 .tip),(36,.int .i64 i)]) (λi=>[(3,.arr 1 ((GF a i).map PV.str))]) [.keep [1,2,3,36],.vt 3 3 1] ?_
  simp[show GF a 0=[] from rfl]
  refine⟨λi hi K hK=> ?_,λK=> ?_⟩
  ·have eS:i<a.ip.length:=by rw[a.h];omega
   have hx:a.ip[i]? =some a.ip[i]:=gJ eS
   have hb:=(a.ip[i]).toNat_lt
   have hw:IntKind.i64.wrap ((a.ip[i]).toNat:Int)=((a.ip[i]).toNat:Int):=wrap_i64 (by omega)
   have MO:(i:Int)<4:=by omega
   have hl:=BR (a:=a) (n:=i) (by omega)
   rw[KY a hx]at hK
   have Mh:(i:Int)<16:=by omega
   simp[↓ah,hi,MO,Mh,hx,u8,hw,cu hi (by omega)]
   refine an.ret (Uw (n:=(a.ip[i].toNat:Int)) (by omega) (by omega)) (by simp) (by simp) (by simp) ?_
   simp[hw,cu hi (by omega),hl]
   refine⟨⟨by omega,by omega⟩,[.keep [1,2,3,36]],?_⟩
   simp
   exact hK _ (by simp)
  ·have hl:=BR (a:=a) (n:=4) (by omega)
   have hle:=(K6 a).2
   have hj:=RR (rest:=[.str [46]]) (abT (xs:=GF a 4) (sep:=[46]) (λh=>by rw[h]at hl;simp at hl) (by omega) (by unfold Iq at hle;omega) false) (by omega) (λx hx=>by
    obtain⟨y,_,rfl⟩:=List.mem_map.1 hx;rfl) ((lV _).refs _) (by simp[ab,ae]) (by simp[Da,qh]) (by simp)
   simp only[List.length_map,hl]at hj
   simp[↓ah]
   refine an.gen [3] [] [.arr 1 ((GF a 4).map PV.str)] hj (by simp[getAll]) (by simp) (by simp) (by simp[ab,ae,bM,idx]) (by simp[af,(lV (GF a 4)).refs]) (by simp[aD,aB,bp,idx]) (by simp[aE,(lV (GF a 4)).aB]) (by simp[af,ae,(lV (GF a 4)).refs]) ?_
   simp[bb,aE,aB,dv,(lV (GF a 4)).aB]
   refine al.plain [] ?_
   simp[Iq]
 ·simp[h6]
  refine fb.fG 8 (λ_=>True) [1,2,3,11] (λi=>[(3,.rs 3 [] 0 i i 1 .tip),(11,.int .i64 i)]) (λi=>[(3,.arr 1 ((GG a i).map PV.str))]) [.keep [1,2,3,11],.vt 3 3 1] ?_
  simp[show GG a 0=[] from rfl]
  refine⟨λi hi K hK=> ?_,λK=> ?_⟩
  ·have hx:=a.Dy (i:=2*i) (by omega)
   have hy:=a.Dy (i:=2*i+1) (by omega)
   have lA:=(a.j0 (2*i)).toNat_lt
   have hby:=(a.j0 (2*i+1)).toNat_lt
   have hF:=Du (KZ a i)
   have adF:zG a i=(a.j0 (2*i)).toNat*256+(a.j0 (2*i+1)).toNat:=rfl
   have hl:=BS a i
   rw[K0]at hK
   generalize BK (zG a i)=T at*
   generalize zG a i=W at*
   generalize a.j0 (2*i)=x at*
   generalize a.j0 (2*i+1)=y at*
   have Ss:=sD (x.toNat*256) y.toNat (by omega) (by omega)
   rw[or8 lA hby,←adF]at Ss
   have w0:IntKind.i64.wrap ((x.toNat:Nat):Int)=x.toNat:=wrap_i64 (by omega)
   have w1:IntKind.i64.wrap ((y.toNat:Nat):Int)=y.toNat:=wrap_i64 (by omega)
   have w2:IntKind.i64.wrap (2*(i:Int))=2*(i:Int):=wrap_i64 (by omega)
   have w3:IntKind.i64.wrap (2*(i:Int)+1)=2*(i:Int)+1:=wrap_i64 (by omega)
   have t2:(2*(i:Int)).toNat=2*i:=by omega
   have t3:(2*(i:Int)+1).toNat=2*i+1:=by omega
   have hi8:(i:Int)<8:=by omega
   have b2:2*(i:Int)<16:=by omega
   have b3:2*(i:Int)+1<16:=by omega
   have b4:(0:Int)≤2*(i:Int):=by omega
   have b5:(0:Int)≤2*(i:Int)+1:=by omega
   have qf:IntKind.i64.wrap ((x.toNat:Int)*2^min 8 IntKind.i64.bits)=((x.toNat*256:Nat):Int):=by
    rw[show min 8 IntKind.i64.bits=8 from rfl,wrap_i64 (by omega)];omega
   simp[↓ah,hi8,w0,w1,w2,w3,t2,t3,b2,b3,b4,b5,hx,hy,u8,-getElem?_pos]
   rw[qf,Ss]
   refine aU.ret hF (by simp) (by simp) (by simp) ?_
   have wi:IntKind.i64.wrap ((i:Int)+1)=(i:Int)+1:=wrap_i64 (by omega)
   simp[hl,wi]
   refine⟨⟨by omega,by omega⟩,[.keep [1,2,3,11]],?_⟩
   simp
   exact hK _ (by simp)
  ·have hl:=BS a 8
   have hle:=(K5 a).2
   have hj:=RR (rest:=[.str [58]]) (abT (xs:=GG a 8) (sep:=[58]) (λh=>by rw[h]at hl;simp at hl) (by omega) (by unfold Ip at hle;omega) false) (by omega) (λx hx=>by
    obtain⟨y,_,rfl⟩:=List.mem_map.1 hx;rfl) ((lV _).refs _) (by simp[ab,ae]) (by simp[Da,qh]) (by simp)
   simp only[List.length_map,hl]at hj
   simp[↓ah]
   refine an.gen [3] [] [.arr 1 ((GG a 8).map PV.str)] hj (by simp[getAll]) (by simp) (by simp) (by simp[ab,ae,bM,idx]) (by simp[af,(lV (GG a 8)).refs]) (by simp[aD,aB,bp,idx]) (by simp[aE,(lV (GG a 8)).aB]) (by simp[af,ae,(lV (GG a 8)).refs]) ?_
   simp[bb,aE,aB,dv,(lV (GG a 8)).aB]
   refine al.plain [] ?_
   simp[Ip]
end Go.Ab
end W10s
noncomputable section W11s
namespace Go.Ab
open Go.Ab
def gs (u:Nat):Nat->List UInt8
 |0=>[]
 |i+1=>dg u i::gs u i
theorem yJ (u:Nat):∀i,(gs u i).length=i
 |0=>rfl
 |i+1=>by simp[gs,yJ u i]
theorem U0 {u i:Nat} (h1:1≤i) (h:i<je u+1):0<qt u i:=by
 obtain⟨j,rfl⟩:∃j,i=j+1:=⟨i-1,by omega⟩
 have:=Gz (u:=u) (i:=j) (by omega)
 unfold qt at this⊢
 rw[Nat.pow_succ,←Nat.div_div_eq_div_mul];omega
theorem abZ (u i:Nat):qt u (i+1)=qt u i/16:=by unfold qt;rw[Nat.pow_succ,←Nat.div_div_eq_div_mul]
theorem U1 {u:Nat} (h:u<65536):qt u (je u+1)=0:=by
 have:=GA h
 rw[abZ];omega
theorem ahT (u:Nat):qt u 0=u:=by simp[qt]
theorem ahU:∀m:Fin 16,List.drop m.val (48::List.take m.val ([49,50,51,52,53,54,55,56,57,97,98,99,100,101,102]:List UInt8))=[Fc.getD m.val 0]:=by decide
theorem U2 {u:Nat} (hu:u<65536):bg Pg I.eB [.int .i64 u] (.str (gs u (je u+1))):=by
 refine ai.intro T.eB (by simp[F.eB]) ?_
 simp[F.eB,aj,aF]
 have h3:=pQ u
 refine fb.fG (je u+1) (λ_=>True) [0,2,3] (λi=>[(0,.int .i64 (qt u i:Int)),(3,.str (gs u i))]) (λi=>[]) [.keep [0,2,3]] ?_
 simp[ahT,show gs u 0=[] from rfl]
 refine⟨λi hi K hK=> ?_,λK=> ?_⟩
 ·have hle:qt u i<65536:=Nat.lt_of_le_of_lt (Nat.div_le_self _ _) hu
  have hlen:=yJ u i
  have hp:1≤i->0<qt u i:=λh=>U0 h hi
  have hq:=abZ u i
  have hg:gs u (i+1)=dg u i::gs u i:=rfl
  rw[hg,hq]at hK
  have hd:dg u i=Fc.getD (qt u i%16) 0:=rfl
  rw[hd]at hK
  have hgn:i=0->gs u i=[]:=by rintro rfl;rfl
  generalize gs u i=s at*
  generalize qt u i=x at*
  have ht:=ahU ⟨x%16,Nat.mod_lt x (by omega)⟩
  simp only at ht
  obtain⟨m,hm⟩:∃m,m=x%16:=⟨_,rfl⟩
  rw[←hm]at ht hK
  have amA:m<16:=by rw[hm];exact Nat.mod_lt x (by omega)
  have adG:(x:Int).tmod 16=(m:Int):=by rw[show(16:Int)=((16:Nat):Int) from rfl,←Int.ofNat_tmod,hm]
  have hdiv:IntKind.i64.wrap ((x:Int).tdiv 16)=((x/16:Nat):Int):=by
   rw[show(16:Int)=((16:Nat):Int) from rfl,←Int.ofNat_tdiv];exact wrap_i64 (by omega)
  have Su:IntKind.i64.wrap ((x:Int)/16)=((x/16:Nat):Int):=by
   rw[show(x:Int)/16=((x/16:Nat):Int) by omega];exact wrap_i64 (by omega)
  have w1:IntKind.i64.wrap ((m:Int)+1)=(m:Int)+1:=wrap_i64 (by omega)
  have t1:((m:Int)+1).toNat-m=1:=by omega
  have b1:(m:Int)+1≤16:=by omega
  generalize Fc.getD m 0=c at*
  generalize hz:x/16=z at*
  have pj:min m 15+1-m=1:=by omega
  by_cases hx:0<x
  ·have MV:¬x=0:=by omega
   simp[↓ah,hx,MV,adG,w1,hdiv,Su,b1,ht,pj,-Int.natCast_ediv,-Int.natCast_emod]
   refine⟨by omega,by omega,by omega,[.keep [0,2,3]],?_⟩
   simp
   exact hK _ (by simp)
  ·have IT:x=0:=by omega
   have hi0:i=0:=by
    rcases Nat.eq_zero_or_pos i with h|h
    ·exact h
    ·exact absurd (hp h) hx
   have hs:=hgn hi0
   subst hs
   simp[↓ah,hx,adG,w1,hdiv,Su,b1,ht,pj,-Int.natCast_ediv,-Int.natCast_emod]
   refine⟨by omega,by omega,[.keep [0,2,3]],?_⟩
   simp
   exact hK _ (by simp)
 ·have he:=U1 hu
  have hlen:=yJ u (je u+1)
  generalize qt u (je u+1)=x at*
  subst he
  have bS:¬gs u (je u+1)=[]:=by intro e;rw[e]at hlen;simp at hlen
  simp[↓ah,bS]
  refine al.plain [] ?_
  simp
def gx (a:im):Nat->List UInt8
 |0=>[]
 |n+1=>gx a n++([58]++gs (zG a n) (je (zG a n)+1))
theorem BT (a:im):∀n,(gx a n).length≤5*n∧(1≤n->2≤(gx a n).length)
 |0=>by simp[gx]
 |
  n+1=>by
  have h:=(BT a n).1
  have h3:=pQ (zG a n)
  simp[gx,yJ];omega
theorem DB (a:im):bg Pg I.cq [dN a] (.str (if jg a=true then(if a.jJ=true then(gx a 8).drop 1 else(qm a 4).drop 1)else [])):=by
 refine ai.intro T.cq (by simp[F.cq]) ?_
 simp[F.cq,aj,aF]
 refine an.ret (yI a) (by simp) (by simp) (by simp) ?_
 cases hs:jg a
 ·simp
  refine al.plain [] ?_
  simp
 cases h6:a.jJ
 ·simp[h6]
  refine fb.fG 4 (λ_=>True) [1,2,3,4] (λi=>[(3,.str (qm a i)),(4,.int .i64 i)]) (λi=>[]) [.keep [1,2,3,4]] ?_
  simp[show qm a 0=[] from rfl]
  refine⟨λi hi K hK=> ?_,λK=> ?_⟩
  ·have eS:i<a.ip.length:=by rw[a.h];omega
   have hx:a.ip[i]? =some a.ip[i]:=gJ eS
   have hb:=(a.ip[i]).toNat_lt
   have hw:IntKind.i64.wrap ((a.ip[i]).toNat:Int)=((a.ip[i]).toNat:Int):=wrap_i64 (by omega)
   have MO:(i:Int)<4:=by omega
   have hl:=rz a i
   have MY:=mr 2 (a.ip[i]).toNat
   rw[Au a hx]at hK
   have Mh:(i:Int)<16:=by omega
   simp[↓ah,hi,MO,Mh,hx,u8,hw,cu hi (by omega)]
   refine an.ret (xb 2 (a.ip[i]).toNat (by omega) (by omega) (by omega)) (by simp) (by simp) (by simp) ?_
   simp[hw,cu hi (by omega)]
   refine⟨by omega,by omega,[.keep [1,2,3,4]],?_⟩
   simp
   exact hK _ (by simp)
  ·have hl:=rz a 4
   have hp:=tY a
   simp[↓ah]
   refine⟨by omega,?_⟩
   refine al.plain [] ?_
   simp
 ·simp[h6,↓ah]
  refine fb.fG 8 (λ_=>True) [1,2,3,5] (λi=>[(3,.str (gx a i)),(5,.int .i64 i)]) (λi=>[]) [.keep [1,2,3,5]] ?_
  simp[show gx a 0=[] from rfl]
  refine⟨λi hi K hK=> ?_,λK=> ?_⟩
  ·have hx:=a.Dy (i:=2*i) (by omega)
   have hy:=a.Dy (i:=2*i+1) (by omega)
   have lA:=(a.j0 (2*i)).toNat_lt
   have hby:=(a.j0 (2*i+1)).toNat_lt
   have hF:=U2 (KZ a i)
   have adF:zG a i=(a.j0 (2*i)).toNat*256+(a.j0 (2*i+1)).toNat:=rfl
   have hl:=(BT a i).1
   have h3:=pQ (zG a i)
   have hgl:=yJ (zG a i) (je (zG a i)+1)
   rw[show gx a (i+1)=gx a i++([58]++gs (zG a i) (je (zG a i)+1)) from rfl]at hK
   generalize gs (zG a i) (je (zG a i)+1)=T at*
   generalize gx a i=s at*
   generalize je (zG a i)=q at*
   generalize zG a i=W at*
   generalize a.j0 (2*i)=x at*
   generalize a.j0 (2*i+1)=y at*
   have w0:IntKind.i64.wrap ((x.toNat:Nat):Int)=x.toNat:=wrap_i64 (by omega)
   have w1:IntKind.i64.wrap ((y.toNat:Nat):Int)=y.toNat:=wrap_i64 (by omega)
   have w2:IntKind.i64.wrap (2*(i:Int))=2*(i:Int):=wrap_i64 (by omega)
   have w3:IntKind.i64.wrap (2*(i:Int)+1)=2*(i:Int)+1:=wrap_i64 (by omega)
   have t2:(2*(i:Int)).toNat=2*i:=by omega
   have t3:(2*(i:Int)+1).toNat=2*i+1:=by omega
   have hi8:(i:Int)<8:=by omega
   have b2:2*(i:Int)<16:=by omega
   have b3:2*(i:Int)+1<16:=by omega
   have b4:(0:Int)≤2*(i:Int):=by omega
   have b5:(0:Int)≤2*(i:Int)+1:=by omega
   have wi:IntKind.i64.wrap ((i:Int)+1)=(i:Int)+1:=wrap_i64 (by omega)
   have qf:IntKind.i64.wrap ((x.toNat:Int)*2^min 8 IntKind.i64.bits)=((x.toNat*256:Nat):Int):=by
    rw[show min 8 IntKind.i64.bits=8 from rfl,wrap_i64 (by omega)];omega
   have had:IntKind.i64.wrap (((x.toNat*256:Nat):Int)+(y.toNat:Int))=(W:Int):=by
    rw[wrap_i64 (by omega)];omega
   simp[↓ah,hi8,w0,w1,w2,w3,t2,t3,b2,b3,b4,b5,hx,hy,u8,-getElem?_pos]
   rw[qf,had]
   refine aU.ret hF (by simp) (by simp) (by simp) ?_
   simp[wi]
   refine⟨by omega,by omega,[.keep [1,2,3,5]],?_⟩
   simp
   exact hK _ (by simp)
  ·have hl:=BT a 8
   have MY:=hl.2 (by omega)
   simp[↓ah]
   refine⟨by omega,?_⟩
   refine al.plain [] ?_
   simp
def Ir (e:Cl):Bool:=jg e.addr&&decide (1≤e.port)&&decide (e.port≤65535)
theorem GI {a:im} {l m:List UInt8} (hl:1≤l.length∧l.length≤1000) (hm:1≤m.length∧m.length≤1000):(if jg a=true then(if a.jJ=true then l else m)else []).length≤1000∧((if jg a=true then(if a.jJ=true then l else m)else [])=[]↔jg a=false):=by
 cases jg a
 ·simp
 ·cases a.jJ
  ·simp;exact⟨hm.2,by intro e;rw[e]at hm;simp at hm⟩
  ·simp;exact⟨hl.2,by intro e;rw[e]at hl;simp at hl⟩
theorem wI (e:Cl):∃l,(l=[]↔Ir e=false)∧bg Pg I.aS [gZ e] (.str l):=by
 have hA:=DA e.addr
 obtain⟨hl,hz⟩:=GI (a:=e.addr) (K5 e.addr) (K6 e.addr)
 generalize (if jg e.addr=true then _ else _:List UInt8)=m at*
 have hr:Ir e=(jg e.addr&&decide (1≤e.port)&&decide (e.port≤65535)):=rfl
 by_cases h1:m=[]
 ·have h2:=hz.1 h1
  refine⟨[],by simp[hr,h2],?_⟩
  refine ai.intro T.aS (by simp[F.aS]) ?_
  simp[F.aS,aj,aF]
  refine an.ret hA (by simp) (by simp) (by simp) ?_
  simp[h1]
  refine al.plain [] ?_
  simp
 have hs:jg e.addr=true:=by
  cases h:jg e.addr
  ·exact absurd (hz.2 h) h1
  ·rfl
 by_cases h2:e.port<1
 ·refine⟨[],by simp[hr,show¬1≤e.port by omega],?_⟩
  refine ai.intro T.aS (by simp[F.aS]) ?_
  simp[F.aS,aj,aF]
  refine an.ret hA (by simp) (by simp) (by simp) ?_
  simp[h1,h2]
  refine al.plain [] ?_
  simp
 by_cases h3:65535<e.port
 ·refine⟨[],by simp[hr,show¬e.port≤65535 by omega],?_⟩
  refine ai.intro T.aS (by simp[F.aS]) ?_
  simp[F.aS,aj,aF]
  refine an.ret hA (by simp) (by simp) (by simp) ?_
  simp[h1,h2,h3]
  refine al.plain [] ?_
  simp
 have bS:Ir e=true:=by simp[hr,hs,show 1≤e.port by omega,show e.port≤65535 by omega]
 have wo:=Lib.itoa_length_le e.port (by omega) (by omega)
 generalize FH:Lib.itoa e.port=num at*
 cases h6:e.addr.jJ
 ·refine⟨m++[58]++num,by simp[bS],?_⟩
  refine ai.intro T.aS (by simp[F.aS]) ?_
  simp[F.aS,aj,aF]
  refine an.ret hA (by simp) (by simp) (by simp) ?_
  simp[h1,h2,h3,h6]
  refine⟨by omega,?_⟩
  refine an.ret (Uw (n:=e.port) (by omega) (by omega)) (by simp) (by simp) (by simp) ?_
  simp[FH]
  refine⟨by omega,?_⟩
  refine al.plain [] ?_
  simp
 ·refine⟨[91]++m++[93]++[58]++num,by simp[bS],?_⟩
  refine ai.intro T.aS (by simp[F.aS]) ?_
  simp[F.aS,aj,aF]
  refine an.ret hA (by simp) (by simp) (by simp) ?_
  simp[h1,h2,h3,h6]
  refine⟨by omega,by omega,by omega,?_⟩
  refine an.ret (Uw (n:=e.port) (by omega) (by omega)) (by simp) (by simp) (by simp) ?_
  simp[FH]
  refine⟨by omega,?_⟩
  refine al.plain [] ?_
  simp
theorem wJ (e:Cl):∃l,(l=[]↔Ir e=false)∧bg Pg I.aA [gZ e] (.str l):=by
 have hA:=DB e.addr
 obtain⟨hl,hz⟩:=GI (a:=e.addr) (l:=(gx e.addr 8).drop 1) (m:=(qm e.addr 4).drop 1) (by have:=BT e.addr 8;have h2:=this.2 (by omega);rw[List.length_drop];omega) (by have:=rz e.addr 4;have:=tY e.addr;rw[List.length_drop];omega)
 generalize (if jg e.addr=true then _ else _:List UInt8)=m at*
 have hr:Ir e=(jg e.addr&&decide (1≤e.port)&&decide (e.port≤65535)):=rfl
 by_cases h1:m=[]
 ·have h2:=hz.1 h1
  refine⟨[],by simp[hr,h2],?_⟩
  refine ai.intro T.aA (by simp[F.aA]) ?_
  simp[F.aA,aj,aF]
  refine an.ret hA (by simp) (by simp) (by simp) ?_
  simp[h1]
  refine al.plain [] ?_
  simp
 have hs:jg e.addr=true:=by
  cases h:jg e.addr
  ·exact absurd (hz.2 h) h1
  ·rfl
 by_cases h2:e.port<1
 ·refine⟨[],by simp[hr,show¬1≤e.port by omega],?_⟩
  refine ai.intro T.aA (by simp[F.aA]) ?_
  simp[F.aA,aj,aF]
  refine an.ret hA (by simp) (by simp) (by simp) ?_
  simp[h1,h2]
  refine al.plain [] ?_
  simp
 by_cases h3:65535<e.port
 ·refine⟨[],by simp[hr,show¬e.port≤65535 by omega],?_⟩
  refine ai.intro T.aA (by simp[F.aA]) ?_
  simp[F.aA,aj,aF]
  refine an.ret hA (by simp) (by simp) (by simp) ?_
  simp[h1,h2,h3]
  refine al.plain [] ?_
  simp
 have bS:Ir e=true:=by simp[hr,hs,show 1≤e.port by omega,show e.port≤65535 by omega]
 have wo:=(mr 4 e.port.toNat).2
 have Wf:=xb 4 e.port.toNat (by omega) (by omega) (by omega)
 rw[show((e.port.toNat:Nat):Int)=e.port by omega]at Wf
 generalize FH:tX 4 e.port.toNat=num at*
 cases h6:e.addr.jJ
 ·refine⟨m++[58]++num,by simp[bS],?_⟩
  refine ai.intro T.aA (by simp[F.aA]) ?_
  simp[F.aA,aj,aF]
  refine an.ret hA (by simp) (by simp) (by simp) ?_
  simp[h1,h2,h3,h6]
  refine⟨by omega,?_⟩
  refine an.ret Wf (by simp) (by simp) (by simp) ?_
  simp[FH]
  refine⟨by omega,?_⟩
  refine al.plain [] ?_
  simp
 ·refine⟨[91]++m++[93]++[58]++num,by simp[bS],?_⟩
  refine ai.intro T.aA (by simp[F.aA]) ?_
  simp[F.aA,aj,aF]
  refine an.ret hA (by simp) (by simp) (by simp) ?_
  simp[h1,h2,h3,h6]
  refine⟨by omega,by omega,by omega,?_⟩
  refine an.ret Wf (by simp) (by simp) (by simp) ?_
  simp[FH]
  refine⟨by omega,?_⟩
  refine al.plain [] ?_
  simp
end Go.Ab
end W11s
noncomputable section W12s
namespace Go.Ab
open Go.Ab
def rI (l:List UInt8):Nat:=l.foldl (λn x=>n*256+x.toNat) 0
theorem K7 (l:List UInt8) (x:UInt8):rI (l++[x])=rI l*256+x.toNat:=by simp[rI]
theorem DC {l:List UInt8} {i:Nat} {x:UInt8} (h:l[i]? =some x):rI (l.take (i+1))=rI (l.take i)*256+x.toNat:=by
 rw[List.take_add_one,h];exact K7 _ _
theorem K8:∀(l:List UInt8) (n:Nat),l.foldl (λn x=>n*256+x.toNat) n<(n+1)*256^l.length
 |[],n=>by simp
 |
  x::l,n=>by
  have h:=K8 l (n*256+x.toNat)
  have hx:=x.toNat_lt
  have h2:(n*256+x.toNat+1)*256^l.length≤((n+1)*256)*256^l.length:=Nat.mul_le_mul_right _ (by omega)
  rw[List.foldl_cons,List.length_cons,Nat.pow_succ,Nat.mul_comm (256^l.length) 256,←Nat.mul_assoc]
  omega
theorem sO (l:List UInt8):rI l<256^l.length:=by have:=K8 l 0;simpa[rI]using this
theorem u64_or_nat (a b:Nat) (ha:a<18446744073709551616) (hb:b<18446744073709551616):bits .or .u64 (a:Int) (b:Int)=((a|||b:Nat):Int):=by
 have hx:a|||b<2^64:=Nat.or_lt_two_pow (by omega) (by omega)
 have h1:(BitVec.ofInt 64 (a:Int)).toNat=a:=by
  rw[BitVec.ofInt_natCast,BitVec.toNat_ofNat];exact Nat.mod_eq_of_lt (by omega)
 have h2:(BitVec.ofInt 64 (b:Int)).toNat=b:=by
  rw[BitVec.ofInt_natCast,BitVec.toNat_ofNat];exact Nat.mod_eq_of_lt (by omega)
 show IntKind.u64.wrap ((BitVec.ofInt 64 (a:Int)|||BitVec.ofInt 64 (b:Int)).toNat:Int)=_
 rw[BitVec.toNat_or,h1,h2]
 exact wrap_u64 (by omega)
theorem orb {x y:Nat} (hy:y<256):(x*256)|||y=x*256+y:=by
 have:=Nat.shiftLeft_add_eq_or_of_lt (i:=8) (b:=y) (by omega) x
 rw[Nat.shiftLeft_eq]at this
 exact this.symm
theorem DD {l:List UInt8} (hl:l.length≤8):bg Pg I.ft [fV l] (.int .u64 (rI l)):=by
 refine ai.intro T.ft (by simp[F.ft]) ?_
 simp[F.ft,aj,aF]
 refine fb.fG l.length (λ_=>True) [3,6,7,8] (λi=>[(3,.int .u64 (rI (l.take i))),(8,.int .i64 i)]) (λi=>[]) [.keep [3,6,7,8]] ?_
 simp[show rI []=0 from rfl]
 refine⟨λi hi K hK=> ?_,λK=> ?_⟩
 ·have hx:l[i]? =some l[i]:=gJ hi
  have ht:=DC hx
  have dG:=sO (l.take i)
  rw[lJ,Nat.min_eq_left (by omega)]at dG
  have Wg:256^i≤256^7:=Nat.pow_le_pow_right (by omega) (by omega)
  have hb:=l[i].toNat_lt
  generalize rI (l.take (i+1))=v at*
  generalize rI (l.take i)=n at*
  generalize l[i]=x at*
  have hn:n<72057594037927936:=Nat.lt_of_lt_of_le dG (by simpa using Wg)
  have Ss:=u64_or_nat (n*256) x.toNat (by omega) (by omega)
  rw[orb (by omega),←ht]at Ss
  have qf:IntKind.u64.wrap ((n:Int)*2^min 8 IntKind.u64.bits)=((n*256:Nat):Int):=by
   rw[show min 8 IntKind.u64.bits=8 from rfl,wrap_u64 (by omega)];omega
  have w0:IntKind.u64.wrap ((x.toNat:Nat):Int)=x.toNat:=wrap_u64 (by omega)
  have w1:IntKind.i64.wrap ((i:Int)+1)=(i:Int)+1:=wrap_i64 (by omega)
  simp[↓ah,hi,hx,u8,w0,w1,-getElem?_pos]
  refine⟨[.keep [3,6,7,8]],?_⟩
  rw[qf,Ss]
  simp
  exact hK _ (by simp)
 ·simp[↓ah]
  refine al.plain [] ?_
  simp
theorem K9 {l:List UInt8} (hl:l.length≤8):bg Pg I.ek [fV l] (.int .u64 (rI l)):=by
 refine ai.intro T.ek (by simp[F.ek]) ?_
 simp[F.ek,aj,aF]
 refine fb.fG l.length (λ_=>True) [3,6,7,8] (λi=>[(3,.int .u64 (rI (l.take i))),(8,.int .i64 i)]) (λi=>[]) [.keep [3,6,7,8]] ?_
 simp[show rI []=0 from rfl]
 refine⟨λi hi K hK=> ?_,λK=> ?_⟩
 ·have hx:l[i]? =some l[i]:=gJ hi
  have ht:=DC hx
  have dG:=sO (l.take i)
  rw[lJ,Nat.min_eq_left (by omega)]at dG
  have Wg:256^i≤256^7:=Nat.pow_le_pow_right (by omega) (by omega)
  have hb:=l[i].toNat_lt
  generalize rI (l.take (i+1))=v at*
  generalize rI (l.take i)=n at*
  generalize l[i]=x at*
  have hn:n<72057594037927936:=Nat.lt_of_lt_of_le dG (by simpa using Wg)
  have Ss:=u64_or_nat (n*256) x.toNat (by omega) (by omega)
  rw[orb (by omega),←ht]at Ss
  have qf:IntKind.u64.wrap ((n:Int)*2^min 8 IntKind.u64.bits)=((n*256:Nat):Int):=by
   rw[show min 8 IntKind.u64.bits=8 from rfl,wrap_u64 (by omega)];omega
  have w0:IntKind.u64.wrap ((x.toNat:Nat):Int)=x.toNat:=wrap_u64 (by omega)
  have w1:IntKind.i64.wrap ((i:Int)+1)=(i:Int)+1:=wrap_i64 (by omega)
  simp[↓ah,hi,hx,u8,w0,w1,-getElem?_pos]
  refine⟨[.keep [3,6,7,8]],?_⟩
  rw[qf,Ss]
  simp
  exact hK _ (by simp)
 ·simp[↓ah]
  refine al.plain [] ?_
  simp
def DE (l:List UInt8) (h:l.length=4):im:=⟨false,l++List.replicate 12 0,by simp[h]⟩
def DF (l:List UInt8) (h:l.length=16):im:=⟨true,l,h⟩
theorem RS {l:List UInt8} (h:l.length=4):bg Pg I.ie [fV l] (dN (DE l h)):=by
 refine ai.intro T.ie (by simp[F.ie]) ?_
 match l,h with
 |
  [a,b,c,d],h=>
  simp[F.ie,aj,aF,fV,fC]
  refine al.plain [] ?_
  simp[DE,dN,u8]
theorem ab0 {l:List UInt8} (h:l.length=16):bg Pg I.jf [fV l] (dN (DF l h)):=by
 refine ai.intro T.jf (by simp[F.jf]) ?_
 have ht:(l.map u8).take 16=l.map u8:=tJ (by simp[h])
 simp[F.jf,aj,aF,fV,h,ht]
 refine al.plain [] ?_
 simp[DF,dN]
theorem La {l:List UInt8} (h:l.length=4):bg Pg I.bH [fV l] (dN (DE l h)):=by
 refine ai.intro T.bH (by simp[F.bH]) ?_
 match l,h with
 |
  [a,b,c,d],h=>
  simp[F.bH,aj,aF,fV,fC]
  refine al.plain [] ?_
  simp[DE,dN,u8]
theorem Lb {l:List UInt8} (h:l.length=16):bg Pg I.bH [fV l] (dN (DF l h)):=by
 refine ai.intro T.bH (by simp[F.bH]) ?_
 have ht:(l.map u8).take 16=l.map u8:=tJ (by simp[h])
 simp[F.bH,aj,aF,fV,fC,h,ht]
 refine al.plain [] ?_
 simp[DF,dN]
theorem GJ {l:List UInt8} (h:l.length=2):bg Pg I.dK [fV l] (.int .i64 (rI l)):=by
 refine ai.intro T.dK (by simp[F.dK]) ?_
 have dG:=sO l
 rw[h]at dG
 have w:IntKind.i64.wrap ((rI l:Nat):Int)=rI l:=wrap_i64 (by omega)
 have ht:(l.map u8).take 2=l.map u8:=tJ (by simp[h])
 have hr:=K9 (l:=l) (by omega)
 unfold fV at hr
 simp[F.dK,aj,aF,fV,h,ht]
 refine an.ret hr (by simp) (by simp) (by simp) ?_
 simp[w]
 refine al.plain [] ?_
 simp
def DG (b:List UInt8):Prop:=1≤b.length∧b.length≤2000∧
 (((b.getD 0 0).toNat/16=4∧20≤b.length∧5≤(b.getD 0 0).toNat%16∧4*((b.getD 0 0).toNat%16)≤rI ((b.take 4).drop 2)∧rI ((b.take 4).drop 2)=b.length)∨
  ((b.getD 0 0).toNat/16=6∧40≤b.length∧40+rI ((b.take 6).drop 4)=b.length))
def kM (b:List UInt8) (r:PV):Prop:=∃(x y:im) (L e:Int),r= .tup [.st 35 [dN x,dN y,.int .i64 L],.int .i64 e]∧((e=0∧L=b.length)↔DG b)
theorem kM.bad {b:List UInt8} {e:Int} (he:e≠0) (h:¬DG b):kM b (.tup [.st 35 [.st 17 [.bl false,.ar 1 16 (zr 16 (.int .u8 0))],.st 17 [.bl false,.ar 1 16 (zr 16 (.int .u8 0))],.int .i64 0],.int .i64 e]):=by
 refine⟨E4,E4,0,e,?_,⟨λg=>absurd g.1 he,λg=>absurd g h⟩⟩
 rw[show dN E4= .st 17 [.bl false,.ar 1 16 (zr 16 (.int .u8 0))] by rw[fC];rfl]
theorem MO:∀b:Fin 256,(b.val:Int).fdiv (2^min 4 IntKind.u8.bits)=((b.val/16:Nat):Int):=by decide+kernel
theorem lo4:∀b:Fin 256,bits .and .u8 (b.val:Int) 15=((b.val%16:Nat):Int):=by decide+kernel
theorem mdt (b:List UInt8) (n m:Nat):((b.map u8).take m).drop n=((b.take m).drop n).map u8:=by rw[←List.map_take,←List.map_drop]
theorem O5 {b:List UInt8} (hb:b.length≤1048576):ai Pg I.fc [fV b] [] (λr fp=>kM b r∧fp=[]):=by
 refine ai.intro T.fc (by simp[F.fc]) ?_
 by_cases h0:b.length=0
 ·have he:b=[]:=List.length_eq_zero_iff.1 h0
  subst he
  simp[F.fc,aj,aF]
  refine al.plain [] ?_
  simp
  exact kM.bad (by decide) (by simp[DG])
 by_cases h1:2016<b.length
 ·have uu:(2016:Int)<b.length:=by omega
  have s9:¬b=[]:=by intro e;rw[e]at h0;simp at h0
  simp[F.fc,aj,aF,s9,h1,uu]
  refine al.plain [] ?_
  simp
  exact kM.bad (by decide) (by intro h;have:=h.2.1;omega)
 have s9:¬b=[]:=by intro e;rw[e]at h0;simp at h0
 have uu:¬(2016:Int)<b.length:=by omega
 have hp:0<b.length:=by omega
 have hx:b[0]? =some (b.getD 0 0):=by
  cases b with
  |nil=>exact absurd rfl s9
  |cons x l=>rfl
 have xj:DG b=(1≤b.length∧b.length≤2000∧
 (((b.getD 0 0).toNat/16=4∧20≤b.length∧5≤(b.getD 0 0).toNat%16∧4*((b.getD 0 0).toNat%16)≤rI ((b.take 4).drop 2)∧rI ((b.take 4).drop 2)=b.length)∨
  ((b.getD 0 0).toNat/16=6∧40≤b.length∧40+rI ((b.take 6).drop 4)=b.length))):=rfl
 have g1:=MO ⟨(b.getD 0 0).toNat,(b.getD 0 0).toNat_lt⟩
 have g2:=lo4 ⟨(b.getD 0 0).toNat,(b.getD 0 0).toNat_lt⟩
 simp only at g1 g2
 generalize b.getD 0 0=x at*
 generalize x.toNat/16=v at*
 have hm:x.toNat%16<16:=Nat.mod_lt _ (by omega)
 generalize x.toNat%16=w at*
 have w4:IntKind.i64.wrap (w:Int)=w:=wrap_i64 (by omega)
 have w5:IntKind.i64.wrap (4*(w:Int))=4*(w:Int):=wrap_i64 (by omega)
 by_cases h4:v=4
 ·by_cases IY:b.length<20
  ·have wN:(b.length:Int)<20:=by omega
   simp[F.fc,aj,aF,s9,h0,hp,h1,uu,hx,u8,g1,h4,IY,wN,-getElem?_pos]
   refine al.plain [] ?_
   simp
   exact kM.bad (by decide) (by rw[xj];omega)
  have wN:¬(b.length:Int)<20:=by omega
  have l12:((b.take 16).drop 12).length=4:=by simp;omega
  have l16:((b.take 20).drop 16).length=4:=by simp;omega
  have l2:((b.take 4).drop 2).length=2:=by simp;omega
  have a12:=RS l12
  have a16:=RS l16
  have n2:=DD (l:=(b.take 4).drop 2) (by omega)
  have hL:=sO ((b.take 4).drop 2)
  rw[l2]at hL
  unfold fV at a12 a16 n2
  rw[←mdt]at a12 a16 n2
  generalize DE ((b.take 16).drop 12) l12=A at*
  generalize DE ((b.take 20).drop 16) l16=B at*
  generalize rI ((b.take 4).drop 2)=L at*
  have wL:IntKind.i64.wrap (L:Int)=L:=wrap_i64 (by omega)
  simp[F.fc,aj,aF,s9,h0,hp,h1,uu,hx,u8,g1,h4,IY,wN,-getElem?_pos]
  simp[fV]
  refine⟨by omega,?_⟩
  refine aU.ret a12 (by simp) (by simp) (by simp) ?_
  simp
  refine⟨by omega,?_⟩
  refine aU.ret a16 (by simp) (by simp) (by simp) ?_
  simp
  refine⟨by omega,?_⟩
  refine aU.ret n2 (by simp) (by simp) (by simp) ?_
  by_cases c1:w<5
  ·have c1':(w:Int)<5:=by omega
   simp[wL,w4,w5,hx,hp,s9,g2,u8,c1,c1',-getElem?_pos]
   refine al.plain [] ?_
   simp
   exact kM.bad (by decide) (by rw[xj];omega)
  have c1':¬(w:Int)<5:=by omega
  by_cases c2:L<4*w
  ·have c2':(L:Int)<4*(w:Int):=by omega
   simp[wL,w4,w5,hx,hp,s9,g2,u8,c1,c1',c2,c2',-getElem?_pos]
   refine al.plain [] ?_
   simp
   exact kM.bad (by decide) (by rw[xj];omega)
  have c2':¬(L:Int)<4*(w:Int):=by omega
  by_cases c3:b.length<L
  ·have c3':(b.length:Int)<(L:Int):=by omega
   simp[wL,w4,w5,hx,hp,s9,g2,u8,c1,c1',c2,c2',c3,c3',-getElem?_pos]
   refine al.plain [] ?_
   simp
   exact kM.bad (by decide) (by rw[xj];omega)
  have c3':¬(b.length:Int)<(L:Int):=by omega
  by_cases c4:2000<L
  ·have c4':(2000:Int)<(L:Int):=by omega
   simp[wL,w4,w5,hx,hp,s9,g2,u8,c1,c1',c2,c2',c3,c3',c4,c4',-getElem?_pos]
   refine al.plain [] ?_
   simp
   exact kM.bad (by decide) (by rw[xj];omega)
  have c4':¬(2000:Int)<(L:Int):=by omega
  simp[wL,w4,w5,hx,hp,s9,g2,u8,c1,c1',c2,c2',c3,c3',c4,c4',-getElem?_pos]
  refine al.plain [] ?_
  simp
  exact⟨A,B,L,0,rfl,by rw[xj];constructor<;>intro _<;>omega⟩
 by_cases h6:v=6
 ·by_cases P0:b.length<40
  ·have FO:(b.length:Int)<40:=by omega
   simp[F.fc,aj,aF,s9,h0,hp,h1,uu,hx,u8,g1,h6,P0,FO,-getElem?_pos]
   refine al.plain [] ?_
   simp
   exact kM.bad (by decide) (by rw[xj];omega)
  have FO:¬(b.length:Int)<40:=by omega
  have l8:((b.take 24).drop 8).length=16:=by simp;omega
  have l24:((b.take 40).drop 24).length=16:=by simp;omega
  have l4:((b.take 6).drop 4).length=2:=by simp;omega
  have a8:=ab0 l8
  have a24:=ab0 l24
  have n4:=DD (l:=(b.take 6).drop 4) (by omega)
  have hL:=sO ((b.take 6).drop 4)
  rw[l4]at hL
  unfold fV at a8 a24 n4
  rw[←mdt]at a8 a24 n4
  generalize DF ((b.take 24).drop 8) l8=A at*
  generalize DF ((b.take 40).drop 24) l24=B at*
  generalize rI ((b.take 6).drop 4)=L at*
  have wL:IntKind.i64.wrap (L:Int)=L:=wrap_i64 (by omega)
  have wL2:IntKind.i64.wrap (40+(L:Int))=40+(L:Int):=wrap_i64 (by omega)
  simp[F.fc,aj,aF,s9,h0,hp,h1,uu,hx,u8,g1,h6,P0,FO,-getElem?_pos]
  simp[fV]
  refine⟨by omega,?_⟩
  refine aU.ret a8 (by simp) (by simp) (by simp) ?_
  simp
  refine⟨by omega,?_⟩
  refine aU.ret a24 (by simp) (by simp) (by simp) ?_
  simp
  refine⟨by omega,?_⟩
  refine aU.ret n4 (by simp) (by simp) (by simp) ?_
  by_cases c3:b.length<40+L
  ·have c3':(b.length:Int)<40+(L:Int):=by omega
   simp[wL,wL2,c3,c3']
   refine al.plain [] ?_
   simp
   exact kM.bad (by decide) (by rw[xj];omega)
  have c3':¬(b.length:Int)<40+(L:Int):=by omega
  by_cases c4:2000<40+L
  ·have c4':(2000:Int)<40+(L:Int):=by omega
   simp[wL,wL2,c3,c3',c4,c4']
   refine al.plain [] ?_
   simp
   exact kM.bad (by decide) (by rw[xj];omega)
  have c4':¬(2000:Int)<40+(L:Int):=by omega
  simp[wL,wL2,c3,c3',c4,c4']
  refine al.plain [] ?_
  simp
  exact⟨A,B,40+L,0,rfl,by rw[xj];constructor<;>intro _<;>omega⟩
 have V8:¬(v:Int)=4:=by omega
 have h6':¬(v:Int)=6:=by omega
 simp[F.fc,aj,aF,s9,h0,hp,h1,uu,hx,u8,g1,h4,h6,V8,h6',-getElem?_pos]
 refine al.plain [] ?_
 simp
 exact kM.bad (by decide) (by rw[xj];omega)
end Go.Ab
end W12s
noncomputable section W13s
namespace Go.Ab
open Go.Ab
theorem GK {b:List UInt8} (hb:b.length≤1048576):ai Pg I.cB [fV b] [] (λr fp=>kM b r∧fp=[]):=by
 refine ai.intro T.cB (by simp[F.cB]) ?_
 by_cases h0:b.length=0
 ·have he:b=[]:=List.length_eq_zero_iff.1 h0
  subst he
  simp[F.cB,aj,aF]
  refine al.plain [] ?_
  simp
  exact kM.bad (by decide) (by simp[DG])
 have s9:¬b=[]:=by intro e;rw[e]at h0;simp at h0
 by_cases h1:2016<b.length
 ·have uu:(2016:Int)<b.length:=by omega
  simp[F.cB,aj,aF,s9,h1,uu]
  refine al.plain [] ?_
  simp
  exact kM.bad (by decide) (by intro h;have:=h.2.1;omega)
 have uu:¬(2016:Int)<b.length:=by omega
 have hp:0<b.length:=by omega
 have hx:b[0]? =some (b.getD 0 0):=by
  cases b with
  |nil=>exact absurd rfl s9
  |cons x l=>rfl
 have xj:DG b=(1≤b.length∧b.length≤2000∧
 (((b.getD 0 0).toNat/16=4∧20≤b.length∧5≤(b.getD 0 0).toNat%16∧4*((b.getD 0 0).toNat%16)≤rI ((b.take 4).drop 2)∧rI ((b.take 4).drop 2)=b.length)∨
  ((b.getD 0 0).toNat/16=6∧40≤b.length∧40+rI ((b.take 6).drop 4)=b.length))):=rfl
 have g1:=MO ⟨(b.getD 0 0).toNat,(b.getD 0 0).toNat_lt⟩
 have g2:=lo4 ⟨(b.getD 0 0).toNat,(b.getD 0 0).toNat_lt⟩
 simp only at g1 g2
 generalize b.getD 0 0=x at*
 generalize x.toNat/16=v at*
 have hm:x.toNat%16<16:=Nat.mod_lt _ (by omega)
 generalize x.toNat%16=w at*
 have w4:IntKind.i64.wrap (w:Int)=w:=wrap_i64 (by omega)
 have w5:IntKind.i64.wrap (4*(w:Int))=4*(w:Int):=wrap_i64 (by omega)
 by_cases hv:¬v=4∧¬v=6
 ·obtain⟨h4,h6⟩:=hv
  have V8:¬(v:Int)=4:=by omega
  have h6':¬(v:Int)=6:=by omega
  simp[F.cB,aj,aF,s9,h0,hp,h1,uu,hx,u8,g1,h4,h6,V8,h6',-getElem?_pos]
  refine al.plain [] ?_
  simp
  exact kM.bad (by decide) (by rw[xj];omega)
 by_cases IY:b.length<20
 ·have wN:(b.length:Int)<20:=by omega
  rcases(by omega:v=4∨v=6)with h4|h4
  ·simp[F.cB,aj,aF,s9,h0,hp,h1,uu,hx,u8,g1,h4,IY,wN,-getElem?_pos]
   refine al.plain [] ?_
   simp
   exact kM.bad (by decide) (by rw[xj];omega)
  ·simp[F.cB,aj,aF,s9,h0,hp,h1,uu,hx,u8,g1,h4,IY,wN,-getElem?_pos]
   refine al.plain [] ?_
   simp
   exact kM.bad (by decide) (by rw[xj];omega)
 have wN:¬(b.length:Int)<20:=by omega
 have l12:((b.take 16).drop 12).length=4:=by simp;omega
 have l16:((b.take 20).drop 16).length=4:=by simp;omega
 have l2:((b.take 4).drop 2).length=2:=by simp;omega
 have a12:=La l12
 have a16:=La l16
 have n2:=GJ l2
 have hL:=sO ((b.take 4).drop 2)
 rw[l2]at hL
 unfold fV at a12 a16 n2
 rw[←mdt]at a12 a16 n2
 generalize DE ((b.take 16).drop 12) l12=A at*
 generalize DE ((b.take 20).drop 16) l16=B at*
 generalize rI ((b.take 4).drop 2)=L at*
 have wL:IntKind.i64.wrap (L:Int)=L:=wrap_i64 (by omega)
 have q1:(12:Int)≤b.length:=by omega
 have q2:(16:Int)≤b.length:=by omega
 have q3:(20:Int)≤b.length:=by omega
 have q4:(4:Int)≤b.length:=by omega
 by_cases h4:v=4
 ·simp[F.cB,aj,aF,s9,h0,hp,h1,uu,hx,u8,g1,h4,IY,wN,-getElem?_pos]
  refine qD.run [] rfl ?_
  simp[fV,q1,q2,q3,q4]
  refine aU.ret a12 (by simp) (by simp) (by simp) ?_
  simp[q1,q2,q3,q4]
  refine aU.ret a16 (by simp) (by simp) (by simp) ?_
  simp[q1,q2,q3,q4]
  refine aU.ret n2 (by simp) (by simp) (by simp) ?_
  by_cases c1:w<5
  ·have c1':(w:Int)<5:=by omega
   simp[wL,w4,w5,hx,hp,s9,g2,u8,h4,q1,q2,q3,q4,c1,c1',-getElem?_pos]
   refine al.plain [] ?_
   simp
   exact kM.bad (by decide) (by rw[xj];omega)
  have c1':¬(w:Int)<5:=by omega
  by_cases c2:L<4*w
  ·have c2':(L:Int)<4*(w:Int):=by omega
   simp[wL,w4,w5,hx,hp,s9,g2,u8,h4,q1,q2,q3,q4,c1,c1',c2,c2',-getElem?_pos]
   refine al.plain [] ?_
   simp
   exact kM.bad (by decide) (by rw[xj];omega)
  have c2':¬(L:Int)<4*(w:Int):=by omega
  by_cases c3:b.length<L
  ·have c3':(b.length:Int)<(L:Int):=by omega
   simp[wL,w4,w5,hx,hp,s9,g2,u8,h4,q1,q2,q3,q4,c1,c1',c2,c2',c3,c3',-getElem?_pos]
   refine al.plain [] ?_
   simp
   exact kM.bad (by decide) (by rw[xj];omega)
  have c3':¬(b.length:Int)<(L:Int):=by omega
  by_cases c4:2000<L
  ·have c4':(2000:Int)<(L:Int):=by omega
   simp[wL,w4,w5,hx,hp,s9,g2,u8,h4,q1,q2,q3,q4,c1,c1',c2,c2',c3,c3',c4,c4',-getElem?_pos]
   refine al.plain [] ?_
   simp
   exact kM.bad (by decide) (by rw[xj];omega)
  have c4':¬(2000:Int)<(L:Int):=by omega
  simp[wL,w4,w5,hx,hp,s9,g2,u8,h4,q1,q2,q3,q4,c1,c1',c2,c2',c3,c3',c4,c4',-getElem?_pos]
  refine al.plain [] ?_
  simp
  exact⟨A,B,L,0,rfl,by rw[xj];constructor<;>intro _<;>omega⟩
 have h6:v=6:=by omega
 by_cases P0:b.length<40
 ·have FO:(b.length:Int)<40:=by omega
  simp[F.cB,aj,aF,s9,h0,hp,h1,uu,hx,u8,g1,h6,IY,wN,P0,FO,-getElem?_pos]
  refine al.plain [] ?_
  simp
  exact kM.bad (by decide) (by rw[xj];omega)
 have FO:¬(b.length:Int)<40:=by omega
 have l8:((b.take 24).drop 8).length=16:=by simp;omega
 have l24:((b.take 40).drop 24).length=16:=by simp;omega
 have l4:((b.take 6).drop 4).length=2:=by simp;omega
 have a8:=Lb l8
 have a24:=Lb l24
 have n4:=GJ l4
 have hM:=sO ((b.take 6).drop 4)
 rw[l4]at hM
 unfold fV at a8 a24 n4
 rw[←mdt]at a8 a24 n4
 generalize DF ((b.take 24).drop 8) l8=C at*
 generalize DF ((b.take 40).drop 24) l24=D at*
 generalize rI ((b.take 6).drop 4)=M at*
 have wM2:IntKind.i64.wrap (40+(M:Int))=40+(M:Int):=wrap_i64 (by omega)
 have q5:(24:Int)≤b.length:=by omega
 have q6:(40:Int)≤b.length:=by omega
 have q7:(6:Int)≤b.length:=by omega
 simp[F.cB,aj,aF,s9,h0,hp,h1,uu,hx,u8,g1,h6,IY,wN,P0,FO,-getElem?_pos]
 refine qD.run [] rfl ?_
 simp[fV,q1,q2,q3,q4]
 refine aU.ret a12 (by simp) (by simp) (by simp) ?_
 simp[q1,q2,q3,q4]
 refine aU.ret a16 (by simp) (by simp) (by simp) ?_
 simp[q1,q2,q3,q4]
 refine aU.ret n2 (by simp) (by simp) (by simp) ?_
 simp[q5,q6,q7]
 refine aU.ret a8 (by simp) (by simp) (by simp) ?_
 simp[q5,q6,q7]
 refine aU.ret a24 (by simp) (by simp) (by simp) ?_
 simp[q5,q6,q7]
 refine aU.ret n4 (by simp) (by simp) (by simp) ?_
 by_cases c3:b.length<40+M
 ·have c3':(b.length:Int)<40+(M:Int):=by omega
  simp[wM2,w4,hx,hp,s9,g2,u8,c3,c3',-getElem?_pos]
  refine al.plain [] ?_
  simp
  exact kM.bad (by decide) (by rw[xj];omega)
 have c3':¬(b.length:Int)<40+(M:Int):=by omega
 by_cases c4:2000<40+M
 ·have c4':(2000:Int)<40+(M:Int):=by omega
  simp[wM2,w4,hx,hp,s9,g2,u8,c3,c3',c4,c4',-getElem?_pos]
  refine al.plain [] ?_
  simp
  exact kM.bad (by decide) (by rw[xj];omega)
 have c4':¬(2000:Int)<40+(M:Int):=by omega
 simp[wM2,w4,hx,hp,s9,g2,u8,c3,c3',c4,c4',-getElem?_pos]
 refine al.plain [] ?_
 simp
 exact⟨C,D,40+M,0,rfl,by rw[xj];constructor<;>intro _<;>omega⟩
end Go.Ab
end W13s
