/- Windows, and what a full one is; places of a ring; the order of timers. No condition. -/
import Derived.Test.YtdfkcobijmbidaaGreatB7
import Derived.Test.YtdfkcobijmbidaaGreatSF1
import Derived.Test.YtdfkcobijmbidaaGreatSF2
import Derived.Test.YtdfkcobijmbidaaGreatSF3
import Derived.Test.YtdfkcobijmbidaaGreatSF4
import Derived.Test.YtdfkcobijmbidaaGreatSF5
import Derived.Test.YtdfkcobijmbidaaGreatB2
import Derived.Test.YtdfkcobijmbidaaGreatB3
import Derived.Test.YtdfkcobijmbidaaGreatA5
import Derived.Laws.Externs
set_option maxRecDepth 10000
set_option linter.all false
noncomputable section S1s
namespace Go.Ab
open Go.Ab
def Wl (n:Int):Prop:=0≤n∧n≤18446744073709551615
end Go.Ab
end S1s
noncomputable section S2s
namespace Go.Ab
open Go.Ab
def qb:Int:=18446744073709551615
def Bz (t:Int):Int:=qb.fdiv (2^min (63-t.tmod 64).toNat 64)
def uD (t:Int):Nat:=((t.tdiv 64).tmod 4).toNat
def pO (w:sy):sy:=if w.used=true then⟨true,w.top,if uD w.top=0 then Bz w.top else qb,if uD w.top=1 then Bz w.top else qb,if uD w.top=2 then Bz w.top else qb,if uD w.top=3 then Bz w.top else qb⟩else w
theorem zfs {L:List PV} (hL:L.length=4) (hw:∀x∈L,x.width=1):∃Z:Nat->List PV,Z 0=L∧Z 4=List.replicate 4 (.int .u64 qb)∧(∀i,i<4->(Z i).set i (.int .u64 qb)=Z (i+1))∧(∀i,i≤4->(Z i).length=4)∧(∀i,∀x∈Z i,x.width=1):=by
 refine⟨λi=>List.replicate i (.int .u64 qb)++L.drop i,by simp,?_,?_,?_,?_⟩
 ·show List.replicate 4 _++List.drop 4 L=_
  rw[List.drop_eq_nil_of_le (by omega),List.append_nil]
 ·intro i hi
  have e:=List.drop_eq_getElem_cons (l:=L) (i:=i) (by omega)
  show(List.replicate i _++List.drop i L).set i _=_
  rw[List.set_append_right _ _ (by simp),e]
  generalize L[i]=y
  simp[List.replicate_succ']
 ·intro i hi;simp;omega
 ·intro i x hx
  rcases List.mem_append.1 hx with h|h
  ·rw[List.eq_of_mem_replicate h];rfl
  ·exact hw x (List.mem_of_mem_drop h)
theorem ED {t:Int} (h:Wl t):uD t<4∧0≤(t.tdiv 64).tmod 4∧(t.tdiv 64).tmod 4<4:=by
 obtain⟨h0,h1⟩:=h
 have q1:t.tdiv 64=t/64:=Int.tdiv_eq_ediv_of_nonneg h0
 have q2:(t/64).tmod 4=t/64%4:=Int.tmod_eq_emod_of_nonneg (by omega)
 unfold uD
 rw[q1,q2]
 omega
theorem OZ (w:sy) (hu:w.used=true) (h:Wl w.top):PV.st 6 [.bl true,.int .u64 w.top,.ar 1 4 ((List.replicate 4 (.int .u64 qb)).set (uD w.top) (.int .u64 (Bz w.top)))]=wP (pO w):=by
 have hk:=(ED h).1
 simp only[wP,pO,hu,if_true]
 rcases(by omega:uD w.top=0∨uD w.top=1∨uD w.top=2∨uD w.top=3)with e|e|e|e<;>simp[e,List.replicate]
theorem al7 {w:sy} (h:Wl w.top):bB Pg I.pP [wP w] (wP (pO w)):=by
 refine af.intro T.De (by simp[F.De]) ?_
 by_cases hu:w.used=true
 ·obtain⟨hk,k0,k4⟩:=ED h
  have J3:=OZ w hu h
  obtain⟨h0,h1⟩:=h
  have q1:w.top.tdiv 64=w.top/64:=Int.tdiv_eq_ediv_of_nonneg h0
  have q3:w.top.tmod 64=w.top%64:=Int.tmod_eq_emod_of_nonneg h0
  have w2:IntKind.u64.wrap (w.top.tdiv 64)=w.top.tdiv 64:=by rw[q1];exact wrap_u64 (by omega)
  have w3:IntKind.u64.wrap (63-w.top.tmod 64)=63-w.top.tmod 64:=by rw[q3];exact wrap_u64 (by omega)
  have m0:0≤63-w.top.tmod 64:=by rw[q3];omega
  have hw:wP w= .st 6 [.bl true,.int .u64 w.top,.ar 1 4 [.int .u64 w.w0,.int .u64 w.w1,.int .u64 w.w2,.int .u64 w.w3]]:=by rw[wP,hu]
  have hL4:([PV.int .u64 w.w0,.int .u64 w.w1,.int .u64 w.w2,.int .u64 w.w3]:List PV).length=4:=rfl
  have hLw:∀x∈([PV.int .u64 w.w0,.int .u64 w.w1,.int .u64 w.w2,.int .u64 w.w3]:List PV),x.width=1:=by
   intro x hx
   simp at hx
   rcases hx with rfl|rfl|rfl|rfl<;>rfl
  rw[hw]
  have uU:Pure (wP (pO w)):=by simp[wP]
  generalize hX:wP (pO w)=X at J3 uU
  generalize ([PV.int .u64 w.w0,.int .u64 w.w1,.int .u64 w.w2,.int .u64 w.w3]:List PV)=L at*
  obtain⟨Z,z0,z4,zs,zl,zw⟩:=zfs hL4 hLw
  simp[F.De,an,aG]
  refine jh.jY 4 (λ_=>True) [1,2,8] (λi=>[(8,.int .i64 i)]) (λi=>[(1,.box (.st 6 [.bl true,.int .u64 w.top,.ar 1 4 (Z i)]))]) [.keep [1,2,8]] ?_
  have ho:(PV.int IntKind.u64 18446744073709551615)= .int .u64 qb:=rfl
  simp[z0]
  refine⟨λi hi K hK=> ?_,λK=> ?_⟩
  ·have hw:IntKind.i64.wrap ((i:Int)+1)=(i:Int)+1:=wrap_i64 (by omega)
   have lO:(i:Int)<4:=by omega
   have hse:=zs i hi
   have hlen:=zl i (by omega)
   have JU:=zw i
   generalize Z i=Y at*
   generalize Z (i+1)=Y2 at*
   have hzi:Y[i].width=1:=JU _ (List.getElem_mem (by omega))
   simp[↓av,hi,lO,hw,ho,hse,hlen,hzi]
   refine⟨[.keep [1,2,8]],?_⟩
   simp
   exact hK _ (by simp)
  ·have hlen:=zl 4 (by omega)
   have JU:=zw 4
   rw[←z4]at J3
   generalize Z 4=Y at*
   unfold Bz uD at J3
   unfold uD at hk
   generalize hq:w.top.tdiv 64=q at*
   generalize WK:q.tmod 4=k at*
   generalize hm:w.top.tmod 64=m at*
   have BR:k.toNat<Y.length:=by omega
   have hzi:Y[k.toNat].width=1:=JU _ (List.getElem_mem BR)
   have m1:m≤63:=by omega
   simp[↓av,hlen,hq,WK,hm,w2,w3,k0,k4,m1,ho,hzi]
   refine aM.plain [] ?_
   simp
   have e:IntKind.u64.bits=64:=rfl
   rw[e]
   rw[←J3]at uU
   simp at uU
   exact⟨uU,J3⟩
 ·simp[F.De,an,aG,wP,hu]
  refine aM.plain [] ?_
  simp[pO,hu]
theorem al8 {w:sy} (h:Wl w.top):bB Pg I.j5 [wP w] (wP (pO w)):=by
 refine af.intro T.Lx (by simp[F.Lx]) ?_
 by_cases hu:w.used=true
 ·obtain⟨hk,k0,k4⟩:=ED h
  have J3:=OZ w hu h
  obtain⟨h0,h1⟩:=h
  have q1:w.top.tdiv 64=w.top/64:=Int.tdiv_eq_ediv_of_nonneg h0
  have q3:w.top.tmod 64=w.top%64:=Int.tmod_eq_emod_of_nonneg h0
  have w2:IntKind.u64.wrap (w.top.tdiv 64)=w.top.tdiv 64:=by rw[q1];exact wrap_u64 (by omega)
  have w3:IntKind.u64.wrap (63-w.top.tmod 64)=63-w.top.tmod 64:=by rw[q3];exact wrap_u64 (by omega)
  have m0:0≤63-w.top.tmod 64:=by rw[q3];omega
  have hw:wP w= .st 6 [.bl true,.int .u64 w.top,.ar 1 4 [.int .u64 w.w0,.int .u64 w.w1,.int .u64 w.w2,.int .u64 w.w3]]:=by rw[wP,hu]
  have hL4:([PV.int .u64 w.w0,.int .u64 w.w1,.int .u64 w.w2,.int .u64 w.w3]:List PV).length=4:=rfl
  have hLw:∀x∈([PV.int .u64 w.w0,.int .u64 w.w1,.int .u64 w.w2,.int .u64 w.w3]:List PV),x.width=1:=by
   intro x hx
   simp at hx
   rcases hx with rfl|rfl|rfl|rfl<;>rfl
  rw[hw]
  have uU:Pure (wP (pO w)):=by simp[wP]
  generalize hX:wP (pO w)=X at J3 uU
  generalize ([PV.int .u64 w.w0,.int .u64 w.w1,.int .u64 w.w2,.int .u64 w.w3]:List PV)=L at*
  obtain⟨Z,z0,z4,zs,zl,zw⟩:=zfs hL4 hLw
  simp[F.Lx,an,aG]
  refine jh.jY 4 (λ_=>True) [1,2,8] (λi=>[(8,.int .i64 i)]) (λi=>[(1,.box (.st 6 [.bl true,.int .u64 w.top,.ar 1 4 (Z i)]))]) [.keep [1,2,8]] ?_
  have ho:(PV.int IntKind.u64 18446744073709551615)= .int .u64 qb:=rfl
  simp[z0]
  refine⟨λi hi K hK=> ?_,λK=> ?_⟩
  ·have hw:IntKind.i64.wrap ((i:Int)+1)=(i:Int)+1:=wrap_i64 (by omega)
   have lO:(i:Int)<4:=by omega
   have hse:=zs i hi
   have hlen:=zl i (by omega)
   have JU:=zw i
   generalize Z i=Y at*
   generalize Z (i+1)=Y2 at*
   have hzi:Y[i].width=1:=JU _ (List.getElem_mem (by omega))
   simp[↓av,hi,lO,hw,ho,hse,hlen,hzi]
   refine⟨[.keep [1,2,8]],?_⟩
   simp
   exact hK _ (by simp)
  ·have hlen:=zl 4 (by omega)
   have JU:=zw 4
   have G9:∀k,k<4->(Z 4)[k]? =some (.int .u64 qb):=by rw[z4];intro k hk;rw[List.getElem?_replicate,if_pos hk]
   rw[←z4]at J3
   generalize Z 4=Y at*
   unfold Bz uD at J3
   unfold uD at hk
   generalize hq:w.top.tdiv 64=q at*
   generalize WK:q.tmod 4=k at*
   generalize hm:w.top.tmod 64=m at*
   have BR:k.toNat<Y.length:=by omega
   have hzi:Y[k.toNat].width=1:=JU _ (List.getElem_mem BR)
   have m1:m≤63:=by omega
   have G9:=G9 k.toNat (by omega)
   rw[gJ BR]at G9
   have G9:=Option.some.inj G9
   simp[↓av,hlen,hq,WK,hm,w2,w3,k0,k4,m1,G9]
   refine aM.plain [] ?_
   simp
   have e:IntKind.u64.bits=64:=rfl
   rw[e]
   rw[←J3]at uU
   simp at uU
   exact⟨uU,J3⟩
 ·simp[F.Lx,an,aG,wP,hu]
  refine aM.plain [] ?_
  simp[pO,hu]
end Go.Ab
end S2s
noncomputable section S3s
namespace Go.Ab
open Go.Ab
section
variable {P:Program} {s:St}
theorem al.yY {d:Option Nat} {f:FuncId} {args gy:List PV} {v v' r r':PV} {K:St->Prop} {t:Tg K} (k:Nat) (hb:get s.bx k=some (.box v)) (hA:af P f gy [.box v] (λx fp=>x=r∧fp=[.box v']))
  (BT:ae (bj [k]) args=true) (ha:aO (aV [k]) args=gy) (hv:Pure v) (Wu:Pure v') (hr:ab (fY 1) r=true) (hr':aI (eP [k]) r=r')
  (h:K ({s with bx:=put s.bx k (.box v')}.put d r')):al P s d f args K t:=by
 refine⟨[k],[],[.box v],(λx fp=>x=r∧fp=[.box v']),by simp[getAll,hb],by simp,by simp,BT,by simp[ah,hv.refs],?_,?_⟩
 ·rw[ha];simp only[List.map_cons,List.map_nil,aZ,hv.aI];exact hA
 ·rintro x fp ⟨rfl,rfl⟩
  refine⟨⟨rfl,hr,by simp[ah,Wu.refs]⟩,?_⟩
  simpa[bI,aZ,Wu.aI,hr']using h
end
theorem BA:zr 3 PV.nf=[.nf,.nf,.nf]:=by rw[gX];rfl
@[simp] theorem al9 (f:Fn) (a b:List PV):(PV.fn f a b).width=1:=rfl
@[simp] theorem ama:PV.nf.width=1:=rfl
theorem cX (r:kN):af Pg I.cX [.pt KB [] 0] [.box (.st 231 [ee r])] (λx fp=>x= .pt KB [.f 0 0,.f 0 0] 0∧fp=[.box (.st 231 [ee r])]):=by
 refine af.intro T.cX (by simp[F.cX]) ?_
 simp[F.cX,an,aG,ee]
 refine aM.with [] [KB] ?_
 simp[eU]
theorem dv (r:kN):af Pg I.dv [.pt KB [] 0] [.box (.st 231 [ee r])] (λx fp=>x= .pt KB [.f 0 0,.f 1 77] 0∧fp=[.box (.st 231 [ee r])]):=by
 refine af.intro T.dv (by simp[F.dv]) ?_
 simp[F.dv,an,aG,ee]
 refine aM.with [] [KB] ?_
 simp[eU]
theorem eW (r:kN):af Pg I.eW [.pt KB [] 0] [.box (.st 231 [ee r])] (λx fp=>x= .pt KB [.f 0 0,.f 2 154] 0∧fp=[.box (.st 231 [ee r])]):=by
 refine af.intro T.eW (by simp[F.eW]) ?_
 simp[F.eW,an,aG,ee]
 refine aM.with [] [KB] ?_
 simp[eU]
def nE (k:Nat):PV:= .ar 1 3 [.fn (.func I.cX) [.pt k [] 0] [],.fn (.func I.dv) [.pt k [] 0] [],.fn (.func I.eW) [.pt k [] 0] []]
theorem cE (r:kN):af Pg I.cE [.pt KB [] 0] [.box (.st 231 [ee r])] (λx fp=>x=nE KB∧fp=[.box (.st 231 [ee r])]):=by
 refine af.intro T.cE (by simp[F.cE]) ?_
 simp[F.cE,an,aG,BA,show¬KB=2 by decide]
 refine aM.with [] [KB] ?_
 simp[eU,nE,show¬2=KB by decide,ab,ae,ah,aI,aO,aZ]
theorem Ly (r:kN):bB Pg I.gu [ee r,.int .i64 1] (gP (mf r 1)):=by
 refine af.intro T.gu (by simp[F.gu]) ?_
 simp[F.gu,an,aG]
 refine al.yY 9 (by simp) (cE r) (by simp) (by simp) (by simp) (by simp) (by simp[nE,ab,ae,fY]) (r':=nE 9) (by simp[nE,aI,aO,eP]) ?_
 simp[nE,BA]
 refine al.yY 9 (by simp) (cX r) (by simp) (by simp) (by simp) (by simp) (by simp[ab,fY]) (r':= .pt 9 [.f 0 0,.f 0 0] 0) (by simp[aI,eP]) ?_
 simp[ee]
 refine aM.plain [] ?_
 simp[mf]
theorem Lz (r:kN):bB Pg I.gu [ee r,.int .i64 2] (gP (mf r 2)):=by
 refine af.intro T.gu (by simp[F.gu]) ?_
 simp[F.gu,an,aG]
 refine al.yY 9 (by simp) (cE r) (by simp) (by simp) (by simp) (by simp) (by simp[nE,ab,ae,fY]) (r':=nE 9) (by simp[nE,aI,aO,eP]) ?_
 simp[nE,BA]
 refine al.yY 9 (by simp) (dv r) (by simp) (by simp) (by simp) (by simp) (by simp[ab,fY]) (r':= .pt 9 [.f 0 0,.f 1 77] 0) (by simp[aI,eP]) ?_
 simp[ee]
 refine aM.plain [] ?_
 simp[mf]
theorem LA (r:kN):bB Pg I.gu [ee r,.int .i64 3] (gP (mf r 3)):=by
 refine af.intro T.gu (by simp[F.gu]) ?_
 simp[F.gu,an,aG]
 refine al.yY 9 (by simp) (cE r) (by simp) (by simp) (by simp) (by simp) (by simp[nE,ab,ae,fY]) (r':=nE 9) (by simp[nE,aI,aO,eP]) ?_
 simp[nE,BA]
 refine al.yY 9 (by simp) (eW r) (by simp) (by simp) (by simp) (by simp) (by simp[ab,fY]) (r':= .pt 9 [.f 0 0,.f 2 154] 0) (by simp[aI,eP]) ?_
 simp[ee]
 refine aM.plain [] ?_
 simp[mf]
theorem LB (r:kN) (x:j9):bB Pg I.gv [ee r,.int .i64 1,fO x] (ee (xB r 1 x)):=by
 refine af.intro T.gv (by simp[F.gv]) ?_
 simp[F.gv,an,aG]
 refine al.yY 11 (by simp) (cE r) (by simp) (by simp) (by simp) (by simp) (by simp[nE,ab,ae,fY]) (r':=nE 11) (by simp[nE,aI,aO,eP]) ?_
 simp[nE,BA]
 refine ny.run [11] rfl ?_
 simp
 refine al.yY 11 (by simp) (cX r) (by simp) (by simp) (by simp) (by simp) (by simp[ab,fY]) (r':= .pt 11 [.f 0 0,.f 0 0] 0) (by simp[aI,eP]) ?_
 simp[ee]
 refine aM.plain [] ?_
 simp[xB]
 rfl
theorem LC (r:kN) (x:j9):bB Pg I.gv [ee r,.int .i64 2,fO x] (ee (xB r 2 x)):=by
 refine af.intro T.gv (by simp[F.gv]) ?_
 simp[F.gv,an,aG]
 refine al.yY 11 (by simp) (cE r) (by simp) (by simp) (by simp) (by simp) (by simp[nE,ab,ae,fY]) (r':=nE 11) (by simp[nE,aI,aO,eP]) ?_
 simp[nE,BA]
 refine ny.run [11] rfl ?_
 simp
 refine al.yY 11 (by simp) (dv r) (by simp) (by simp) (by simp) (by simp) (by simp[ab,fY]) (r':= .pt 11 [.f 0 0,.f 1 77] 0) (by simp[aI,eP]) ?_
 simp[ee]
 refine aM.plain [] ?_
 simp[xB]
 rfl
theorem LD (r:kN) (x:j9):bB Pg I.gv [ee r,.int .i64 3,fO x] (ee (xB r 3 x)):=by
 refine af.intro T.gv (by simp[F.gv]) ?_
 simp[F.gv,an,aG]
 refine al.yY 11 (by simp) (cE r) (by simp) (by simp) (by simp) (by simp) (by simp[nE,ab,ae,fY]) (r':=nE 11) (by simp[nE,aI,aO,eP]) ?_
 simp[nE,BA]
 refine ny.run [11] rfl ?_
 simp
 refine al.yY 11 (by simp) (eW r) (by simp) (by simp) (by simp) (by simp) (by simp[ab,fY]) (r':= .pt 11 [.f 0 0,.f 2 154] 0) (by simp[aI,eP]) ?_
 simp[ee]
 refine aM.plain [] ?_
 simp[xB]
 rfl
theorem gu (r:kN) {k:Nat} (h:k=1∨k=2∨k=3):bB Pg I.gu [ee r,.int .i64 k] (gP (mf r k)):=by
 rcases h with rfl|rfl|rfl
 ·exact Ly r
 ·exact Lz r
 ·exact LA r
theorem gv (r:kN) {k:Nat} (h:k=1∨k=2∨k=3) (x:j9):bB Pg I.gv [ee r,.int .i64 k,fO x] (ee (xB r k x)):=by
 rcases h with rfl|rfl|rfl
 ·exact LB r x
 ·exact LC r x
 ·exact LD r x
end Go.Ab
end S3s
noncomputable section S4s
namespace Go.Ab
open Go.Ab
theorem ZA {w:World} {b o:Nat} {v:Value} (h:cell w.heap b o=some v):w.cell? ⟨b,o,none⟩=some v:=by rw[cell?_eq];exact h
theorem Df (P:Program) (w:World):∀(l:List UInt8) (b o:Nat) (acc:ByteArray),(∀i x,l[i]? =some x->w.cell? ⟨b,o+i,none⟩=some (.int .u8 (x.toNat:Int)))->
  (Go.Extern.Bytes.loadBytes ⟨b,o,none⟩ l.length acc).run P w= .ok ⟨(acc.data.toList++l).toArray⟩ w
 |[],b,o,acc,h=>by simp[Go.Extern.Bytes.loadBytes]
 |
  x::l,b,o,acc,h=>by
  have h0:=h 0 x rfl
  simp only[Nat.add_zero]at h0
  have ih:=Df P w l b (o+1) (acc.push x) (λi y hi=>by
   have:=h (i+1) y (by simpa using hi)
   rwa [show o+1+i=o+(i+1) by omega])
  have e:(Addr.add ⟨b,o,none⟩ 1)=(⟨b,o+1,none⟩:Addr):=rfl
  have hx:((x.toNat:Int)).toNat.toUInt8=x:=by simp
  simp only[List.length_cons,Go.Extern.Bytes.loadBytes,bJ,run_load,h0,rJ,e,hx]
  rw[ih]
  simp
def Iu (a b:List UInt8):Int:=Go.Extern.BytealgCompare.cmp ⟨a.toArray⟩ ⟨b.toArray⟩
theorem yD {Γ:Cx}:∀ {xs:List UInt8} {cs:List Value},aF Γ (xs.map u8) cs->cs=xs.map (λx=>Value.int .u8 (x.toNat:Int))
 |[],cs,h=>by cases h;rfl
 |
  x::xs,cs,h=>by
  simp only[List.map_cons,u8]at h
  cases h with
  |int k n hr=>rw[yD hr];rfl
theorem yE {Γ:Cx} {w:World} (hw:w.heap=Γ.heap) {xs:List UInt8} {c:Bool} {v:Value} (h:aP Γ (.sl 1 (xs.map u8) c) v):(Go.Extern.Bytes.bytesOf v).run Pg w= .ok ⟨xs.toArray⟩ w:=by
 simp only[aP]at h
 cases h with
 |
  sl sz l clip a bF g1 g2 g3 g4 g5 g6=>
  cases a with
  |
   none=>
   have:xs=[]:=by
    by_cases hx:xs=[]
    ·exact hx
    ·obtain⟨b,o,e,_⟩:=g5 (by simpa using hx)
     simp at e
   subst this
   rfl
  |
   some ad=>
   by_cases hx:xs=[]
   ·subst hx;rfl
   ·obtain⟨b,o,e,q1,q2,q3⟩:=g5 (by simpa using hx)
    obtain rfl:ad=⟨b,o,none⟩:=by simpa using e
    have BY:=yD g1
    have:=Df Pg w xs b o .empty (λi x hi=>ZA (by rw[hw];exact q3 i _ (by rw[BY];simp[hi])))
    simp only[List.length_map,Go.Extern.Bytes.bytesOf]
    rw[this]
    rfl
theorem ZB (l:List UInt8) (i:Nat):(⟨l.toArray⟩:ByteArray)[i]! =l[i]! :=by
 by_cases h:i<l.length
 ·have h2:i<(⟨l.toArray⟩:ByteArray).size:=h
  rw[getElem!_pos (⟨l.toArray⟩:ByteArray) i h2,getElem!_pos l i h];rfl
 ·have h2:¬i<(⟨l.toArray⟩:ByteArray).size:=h
  rw[getElem!_neg (⟨l.toArray⟩:ByteArray) i h2,getElem!_neg l i h]
def Cm:List UInt8->List UInt8->Int
 |x::a,y::b=>if x=y then Cm a b else if x<y then-1 else 1
 |[],_::_=> -1
 |_::_,[]=>1
 |[],[]=>0
def O0 (a b:List UInt8):Int:=
 match (List.range (min a.length b.length)).find? λi=>a[i]! !=b[i]! with
 |some i=>if a[i]! <b[i]! then-1 else 1
 |none=>if a.length<b.length then-1 else if a.length>b.length then 1 else 0
theorem JM:∀a b:List UInt8,O0 a b=Cm a b
 |[],[]=>rfl
 |[],y::b=>by simp[O0,Cm]
 |x::a,[]=>by simp[O0,Cm]
 |
  x::a,y::b=>by
  have ih:=JM a b
  unfold O0 at ih⊢
  have e:min (x::a).length (y::b).length=min a.length b.length+1:=by simp only[List.length_cons];omega
  rw[e,List.range_succ_eq_map,List.find?_cons]
  by_cases LX:x=y
  ·subst LX
   simp only[Cm,if_true]
   rw[←ih]
   have h0:((x::a)[0]! !=(x::b)[0]!)=false:=by simp
   rw[h0]
   simp only[List.find?_map]
   have e2:((λi=>(x::a)[i]! !=(x::b)[i]!)∘Nat.succ)=λi=>a[i]! !=b[i]! :=by
    funext i;simp
   rw[e2]
   cases (List.range (min a.length b.length)).find? (λi=>a[i]! !=b[i]!)with
   |none=>simp
   |some i=>simp
  ·have h0:((x::a)[0]! !=(y::b)[0]!)=true:=by simpa using LX
   rw[h0]
   simp[Cm,LX]
theorem Ti (a b:List UInt8):Iu a b=Cm a b:=by
 rw[←JM]
 unfold Iu Go.Extern.BytealgCompare.cmp O0
 simp only[ZB]
 rfl
theorem JN:∀a b:List UInt8,a.length=b.length->Cm a b=if a=b then 0 else if Op.bytesLess a b=true then-1 else 1
 |[],[],_=>rfl
 |[],_::_,h=>by simp at h
 |_::_,[],h=>by simp at h
 |
  x::a,y::b,h=>by
  have ih:=JN a b (by simpa using h)
  by_cases LX:x=y
  ·subst LX
   have gG:¬x<x:=UInt8.lt_irrefl x
   simp only[Cm,if_true,ih,Op.bytesLess,List.cons.injEq,true_and]
   simp[gG]
  ·have:¬(x::a=y::b):=λe=>LX (by cases e;rfl)
   simp only[Cm,if_neg LX,if_neg this,Op.bytesLess]
   have hb:(x==y)=false:=by simpa using LX
   simp[hb]
theorem avA (a b:Key):Iu a.l b.l=if a=b then 0 else if SF a b=true then-1 else 1:=by
 rw[Ti,JN _ _ (by rw[a.h,b.h])]
 by_cases h:a=b
 ·subst h;simp
 ·have:¬a.l=b.l:=λe=>h (Key.ext' e)
  rw[if_neg h,if_neg this];rfl
theorem O1 (a b:List UInt8) (c d:Bool):bB Pg I.nR [.sl 1 (a.map u8) c,.sl 1 (b.map u8) d] (.int .i64 (Iu a b)):=by
 intro Γ w vs hw hm mH hA
 match vs,hA with
 |
  [v,v2],ha=>
  obtain⟨h1,h2,_⟩:=ha
  refine .inr ⟨.int .i64 (Iu a b),w,?_,_,_,[],Γ,rfl,⟨rfl,rfl⟩,hw,hm,mH,en,Le.refl Γ,WF.refl w⟩
  rw[run_callFunc_extern (fn:=(Pg.funcs[I.nR]?).getD default) (by kernel_rfl) (by kernel_rfl) (by kernel_rfl) (by kernel_rfl) (e:=Go.Extern.BytealgCompare.compare) (by kernel_rfl)]
  have e:Go.Extern.BytealgCompare.compare [v,v2].toArray=(do Pure.pure (goInt (Go.Extern.BytealgCompare.cmp (←Go.Extern.Bytes.bytesOf v) (←Go.Extern.Bytes.bytesOf v2)))):=rfl
  rw[e]
  simp only[bJ,yE hw h1,yE hw h2,rJ]
  rfl
theorem Compare (a b:List UInt8) (c d:Bool):bB Pg I.gH [.sl 1 (a.map u8) c,.sl 1 (b.map u8) d] (.int .i64 (Iu a b)):=by
 refine af.intro T.gH (by simp[F.gH]) ?_
 have pa:∀l:List UInt8,aB (l.map u8):=λl=>bR (λx=>by simp[u8]) l
 simp[F.gH,an,aG]
 refine al.ret (O1 a b false false) (by simp) (by simp[pa]) (by simp) ?_
 simp
 refine aM.plain [] ?_
 simp
theorem Tj {va vb:PV} {pa pb:List Step} {la lb:List UInt8} {n:Nat} (ha:aQ va pa=some (.ar 1 n (la.map u8))) (hb:aQ vb pb=some (.ar 1 n (lb.map u8))) (ea:la.length=n) (eb:lb.length=n):
  af Pg I.gH [.rs KB pa 0 n 0 1 .clip,.rs (KB+1) pb 0 n 0 1 .clip] [.box va,.box vb] (λr fp=>r= .int .i64 (Iu la lb)∧fp=[.box va,.box vb]):=by
 have ta:(la.map u8).take n=la.map u8:=tJ (by simp[ea])
 have tb:(lb.map u8).take n=lb.map u8:=tJ (by simp[eb])
 have h:=af.view (args:=[.rs KB pa 0 n 0 1 .clip,.rs (KB+1) pb 0 n 0 1 .clip]) (fp:=[.box va,.box vb]) (Compare la lb false false)
  ⟨.inl (.inr ⟨KB,pa,0,n,0,1,.clip,la.map u8,rfl,by simp[get,aG,ha,ta],(bR (λx=>by simp[u8]) la).refs _,by omega,rfl⟩),
   .inl (.inr ⟨KB+1,pb,0,n,0,1,.clip,lb.map u8,rfl,by simp[get,aG,hb,tb],(bR (λx=>by simp[u8]) lb).refs _,by omega,rfl⟩),trivial⟩ (λr new e=>by
  obtain⟨rfl,rfl⟩:=e
  exact⟨rfl,rfl⟩)
 refine h.mono ?_
 rintro r kS ⟨r0,new,⟨rfl,rfl⟩,rfl,rfl⟩
 exact⟨by simp[aI],by simp⟩
theorem wof (t:fX) (k:Key) (n:Int):bB Pg I.fK [.st 34 [bU t],eF k,.int .i64 n] (.bl (!sv k n t)):=by
 refine af.intro T.fK (by simp[F.fK]) ?_
 by_cases h1:t.peer=k
 ·by_cases h2:t.kind=n
  ·simp[F.fK,an,aG,h1,h2]
   refine aM.plain [] ?_
   simp[sv,h1,h2]
  ·simp[F.fK,an,aG,h1,h2]
   refine aM.plain [] ?_
   simp[sv,h1,h2]
 ·simp[F.fK,an,aG,yA,h1]
  refine aM.plain [] ?_
  simp[sv,h1]
theorem Tk (a b:fX):bB Pg I.eM [.st 34 [bU a],.st 34 [bU b]] (.bl (jf a b)):=by
 refine af.intro T.eM (by simp[F.eM]) ?_
 have g1:aQ (.st 34 [bU a]) [.f 0 0,.f 1 1]=some (.ar 1 32 (a.peer.l.map u8)):=by simp[eF]
 have g2:aQ (.st 34 [bU b]) [.f 0 0,.f 1 1]=some (.ar 1 32 (b.peer.l.map u8)):=by simp[eF]
 have hv:=Tj g1 g2 a.peer.h b.peer.h
 have p1:Pure (.st 34 [bU a]):=by simp
 have p2:Pure (.st 34 [bU b]):=by simp
 rw[avA]at hv
 by_cases h1:a.at_=b.at_
 ·simp[F.eM,an,aG,h1]
  refine al.gen [2,3] [] [.box (.st 34 [bU a]),.box (.st 34 [bU b])] hv (by simp[getAll]) (by simp) (by simp) (by simp[ae,ab,bj,idx]) (by simp[ah]) (by simp[aO,aI,aV,idx]) (by simp[aZ]) (by simp[ah,ab]) ?_
  simp[bI,aZ,aI]
  by_cases h2:a.peer=b.peer
  ·simp[h2]
   refine aM.plain [] ?_
   simp[jf,h1,h2]
  ·by_cases h3:SF a.peer b.peer=true
   ·simp[h2,h3]
    refine aM.plain [] ?_
    simp[jf,h1,h2,h3]
   ·simp[h2,h3]
    refine aM.plain [] ?_
    simp[jf,h1,h2,h3]
 ·simp[F.eM,an,aG,h1]
  refine aM.plain [] ?_
  simp[jf,h1]
theorem amb (a b:fX):bB Pg I.j6 [bU a,bU b] (.bl (jf a b)):=by
 refine af.intro T.j6 (by simp[F.j6]) ?_
 simp[F.j6,an,aG]
 refine al.ret (Tk a b) (by simp) (by simp) (by simp) ?_
 simp
 refine aM.plain [] ?_
 simp
theorem amc (t:fX) (k:Key) (n:Int):af Pg I.gx [bU t,.pt KB [] 0,.pt (KB+1) [] 0] [.box (eF k),.box (.int .i64 n)] (λr fp=>r= .bl (!sv k n t)∧fp=[.box (eF k),.box (.int .i64 n)]):=by
 refine af.intro T.gx (by simp[F.gx]) ?_
 simp[F.gx,an,aG]
 refine al.ret (wof t k n) (by simp) (by simp) (by simp) ?_
 simp
 refine aM.with [] [KB,KB+1] ?_
 simp[ah,ab,aZ,aI]
theorem amd (t u:fX):af Pg I.iL [bU u,.pt KB [] 0] [.box (bU t)] (λr fp=>r= .bl (jf t u)∧fp=[.box (bU t)]):=by
 refine af.intro T.iL (by simp[F.iL]) ?_
 simp[F.iL,an,aG]
 refine al.ret (amb t u) (by simp) (by simp) (by simp) ?_
 simp
 refine aM.with [] [KB] ?_
 simp[ah,aZ]
end Go.Ab
end S4s
