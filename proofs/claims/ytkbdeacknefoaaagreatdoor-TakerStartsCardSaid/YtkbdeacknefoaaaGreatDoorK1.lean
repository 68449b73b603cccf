/- Calls of the library; addresses and endpoints; slices. No condition. -/
import Derived.Test.YtkbdeacknefoaaaGreatDoorKS
import Derived.Test.YtkbdeacknefoaaaGreatDoorA5
import Derived.Test.YtkbdeacknefoaaaGreatDoorSF1
import Derived.Test.YtkbdeacknefoaaaGreatDoorSF2
import Derived.Test.YtkbdeacknefoaaaGreatDoorSF3
import Derived.Test.YtkbdeacknefoaaaGreatDoorSF4
import Derived.Test.YtkbdeacknefoaaaGreatDoorSF5
import Derived.Tactics
import Derived.Test.YtkbdeacknefoaaaGreatDoorB5
import Derived.Lib.ItoaLen
import Derived.Laws.Externs
set_option maxRecDepth 100000
set_option maxHeartbeats 1000000
set_option linter.all false
namespace Go.Ab
open Go.Ab
variable {P:Program}
theorem af.yU {f:FuncId} {args:List PV} {v:PV} {u:Value} (he:∀(vs:Array Value) (w:World),(callFunc f vs).run P w= .ok (.enter f vs) w) (hv:∀Γ,aN Γ v u)
  (h:∀(Γ:Cx) (w:World) (vs:List Value),w.heap=Γ.heap->Mem Γ->Γ.bx=[]->gp Γ args vs->Calls P f vs.toArray w λe w'=>e= .returned u∧WF w w'∧w.heap.size≤w'.heap.size∧∀b,b<w.heap.size->w'.heap[b]? =w.heap[b]?):
  a8 P f args v:=by
 intro Γ w vs h1 h2 h3 h4
 refine .inl ⟨he _ _,?_⟩
 have lj:Γ.bx=[]:=by rw[h3];rfl
 refine(h Γ w vs h1 h2 lj h4).mono ?_
 rintro e w' ⟨rfl,g1,g2,g3⟩
 rw[h1]at g2 g3
 have DG:∀b,¬Γ.iQ b:=by
  rintro b ⟨k,blk,q1,_⟩;rw[lj]at q1;simp[get]at q1
 have hle:Le Γ {Γ with heap:=w'.heap}:=by
  refine⟨λb hb _=>g3 b hb,λb _ hm=>hm,rfl,g2,λk blk hk=> ?_⟩
  rw[lj]at hk;simp[get]at hk
 refine⟨u,v,[],{Γ with heap:=w'.heap},rfl,⟨rfl,rfl⟩,rfl,⟨λk blk hk=> ?_,h2.inj,λb hb=>Nat.lt_of_lt_of_le (h2.dU b hb) g2,h2.apart,h2.ns hle⟩,h3,hv _,hle,g1⟩
 have IG:get Γ.bx k=some blk:=hk
 rw[lj]at IG;simp[get]at IG
theorem J4 {Γ:Cx} {w:World} (h:w.heap=Γ.heap) (hm:Mem Γ):Lib.TabIs Pg w "internal/strconv.uint64pow10" .u64 Lib.pow10Tab:=by
 obtain⟨_,e,x,hx⟩:=hm.uI 1 _ rfl
 have hg:Pg.globalNamed "internal/strconv.uint64pow10" =some 1:=by kernel_rfl
 unfold Lib.TabIs World.var?
 rw[hg]
 simp only[Option.bind_some,h,hx]
theorem Xb {n:Int} (h0: -9223372036854775808≤n) (h1:n≤9223372036854775807):a8 Pg I.strconv_Itoa [.int .i64 n] (.str (Lib.itoa n)):=by
 refine af.yU (u:= .string ⟨(Lib.itoa n).toArray⟩) (Go.Proofs.enters_of Go.Proofs.Tryz.func125 (by kernel_rfl) rfl) (λΓ=>qv (by simp)) ?_
 intro Γ w vs hw hm hb ha
 match vs,ha with
 |
  [v],ha=>
  obtain rfl:v= .int .i64 n:=by
   have:=ha.1
   simp only[aN]at this
   cases this;rfl
  refine(Go.Proofs.Tryz.strconv_Itoa n h0 h1 w (J4 hw hm)).mono ?_
  rintro e w' ⟨rfl,k,os,rfl⟩
  refine⟨rfl,⟨rfl,rfl,rfl⟩,?_,λb hb=> ?_⟩
  ·simp[Go.Sort.grow]
  ·simp only[Go.Sort.grow,World.drewN]
   exact Array.getElem?_append_left hb
theorem M6 {w:World} {b o:Nat} {v:Value} (h:cell w.heap b o=some v):w.cell? ⟨b,o,none⟩=some v:=by
 unfold cell at h
 split at h
 ·rename_i c e x hb
  simp[World.cell?,hb,h]
 ·simp at h
theorem Cl {Γ:Cx}:∀ {xs:List (List UInt8)} {cs:List Value},aD Γ (xs.map PV.str) cs->∃bs:List ByteArray,cs=bs.map Value.string∧bs.map (·.data.toList)=xs
 |[],cs,h=>by cases h;exact⟨[],rfl,rfl⟩
 |
  x::xs,cs,h=>by
  cases h with
  |
   str l s hs hr=>
   obtain⟨bs,rfl,e⟩:=Cl hr
   exact⟨s::bs,rfl,by simp[hs,e]⟩
theorem aet {xs:List (List UInt8)} {sep:List UInt8} (h0:xs≠[]) (hN:xs.length≤140737488355328) (hl:(Lib.join xs sep).length≤140737488355328) (c:Bool):
  a8 Pg I.strings_Join [.sl 1 (xs.map PV.str) c,.str sep] (.str (Lib.join xs sep)):=by
 refine af.yU (u:= .string ⟨(Lib.join xs sep).toArray⟩) (Go.Proofs.enters_of Go.Proofs.Tryz.func156 (by kernel_rfl) rfl) (λΓ=>qv (by simp)) ?_
 intro Γ w vs hw hm hb ha
 match vs,ha with
 |
  [v,v2],ha=>
  obtain⟨h1,h2,_⟩:=ha
  simp only[aN]at h1 h2
  cases h2 with
  |str l s hs pG=>
  cases h1 with
  |
   sl sz l clip a bt g1 g2 g3 g4 g5 g6=>
   obtain⟨bs,rfl,e⟩:=Cl g1
   obtain⟨b,o,rfl,q1,q2,q3⟩:=g5 (by simpa using h0)
   have hlen:(xs.map PV.str).length=bs.length:=by rw[←e];simp
   rw[hlen]
   have:=Go.Proofs.Tryz.strings_Join b o bt bs s w (λj x hj=>by
    have:=q3 j (.string x) (by simp[hj])
    rw[←hw]at this
    exact M6 this) (by rw[hw];exact q1) (by rw[←e]at hN;simpa using hN) (by rw[←hlen];exact g3) (by rw[e,hs];exact hl)
   rw[e,hs]at this
   refine this.mono ?_
   rintro e w' ⟨rfl,k⟩
   exact⟨rfl,⟨k.os,k.tape,k.output⟩,k.size,k.block⟩
end Go.Ab
namespace Go.Ab
open Go.Ab
theorem Bw (va vb:Value) (c:Int) (w:World) (hc:(Go.Extern.BytealgCompare.compare #[va,vb]).run Pg w= .ok (.int .i64 c) w):
  Calls Pg 45 #[va,vb] w λe w'=>e= .returned (.int .i64 c)∧w'=w:=by
 have hx:(callFunc 71 #[va,vb]).run Pg w= .ok (.value (.int .i64 c)) w:=by
  have e1:Extern.findNext Go.Proofs.Tryz.f71=none:=by kernel_rfl
  have e2:Extern.find Go.Proofs.Tryz.f71=some Go.Extern.BytealgCompare.compare:=by kernel_rfl
  have e3:(Go.Proofs.Tryz.f71.name== "runtime.NumGoroutine")=false:=by kernel_rfl
  have e4:Go.Proofs.Tryz.f71.body.isNone=true:=by kernel_rfl
  have e3':¬Go.Proofs.Tryz.f71.name= "runtime.NumGoroutine" :=by simpa using e3
  have e4':Go.Proofs.Tryz.f71.body=none:=by simpa using e4
  simp only[callFunc,bJ]
  simp[Go.Proofs.Tryz.func71,e1,e2,e3',e4',run_mark,hc]
 go_enter Go.Proofs.Tryz.func45,Go.Proofs.Tryz.ntmps45
 go_wp2
 go_ret
 exact⟨rfl,rfl⟩
theorem Cm (P:Program) (w:World):∀(l:List UInt8) (b o:Nat) (acc:ByteArray),(∀i x,l[i]? =some x->w.cell? ⟨b,o+i,none⟩=some (.int .u8 (x.toNat:Int)))->
  (Go.Extern.Bytes.loadBytes ⟨b,o,none⟩ l.length acc).run P w= .ok ⟨(acc.data.toList++l).toArray⟩ w
 |[],b,o,acc,h=>by simp[Go.Extern.Bytes.loadBytes]
 |
  x::l,b,o,acc,h=>by
  have h0:=h 0 x rfl
  simp only[Nat.add_zero]at h0
  have ih:=Cm P w l b (o+1) (acc.push x) (λi y hi=>by
   have:=h (i+1) y (by simpa using hi)
   rwa [show o+1+i=o+(i+1) by omega])
  have e:(Addr.add ⟨b,o,none⟩ 1)=(⟨b,o+1,none⟩:Addr):=rfl
  have hx:((x.toNat:Int)).toNat.toUInt8=x:=by simp
  simp only[List.length_cons,Go.Extern.Bytes.loadBytes,bJ,run_load,h0,rJ,e,hx]
  rw[ih]
  simp
def uo (a b:List UInt8):Int:=Go.Extern.BytealgCompare.cmp ⟨a.toArray⟩ ⟨b.toArray⟩
theorem xU {Γ:Cx}:∀ {xs:List UInt8} {cs:List Value},aD Γ (xs.map u8) cs->cs=xs.map (λx=>Value.int .u8 (x.toNat:Int))
 |[],cs,h=>by cases h;rfl
 |
  x::xs,cs,h=>by
  simp only[List.map_cons,u8]at h
  cases h with
  |int k n hr=>rw[xU hr];rfl
theorem xV {Γ:Cx} {w:World} (hw:w.heap=Γ.heap) {xs:List UInt8} {c:Bool} {v:Value} (h:aN Γ (.sl 1 (xs.map u8) c) v):(Go.Extern.Bytes.bytesOf v).run Pg w= .ok ⟨xs.toArray⟩ w:=by
 simp only[aN]at h
 cases h with
 |
  sl sz l clip a bt g1 g2 g3 g4 g5 g6=>
  cases a with
  |
   none=>
   have:xs=[]:=by
    by_cases hx:xs=[]
    ·exact hx
    ·obtain⟨b,o,e,_⟩:=g5 (by simpa using hx)
     simp at e
   subst this
   rfl
  |
   some ad=>
   by_cases hx:xs=[]
   ·subst hx;rfl
   ·obtain⟨b,o,e,q1,q2,q3⟩:=g5 (by simpa using hx)
    obtain rfl:ad=⟨b,o,none⟩:=by simpa using e
    have AS:=xU g1
    have:=Cm Pg w xs b o .empty (λi x hi=>M6 (by rw[hw];exact q3 i _ (by rw[AS];simp[hi])))
    simp only[List.length_map,Go.Extern.Bytes.bytesOf]
    rw[this]
    rfl
theorem Compare (a b:List UInt8) (c d:Bool):a8 Pg I.lP [.sl 1 (a.map u8) c,.sl 1 (b.map u8) d] (.int .i64 (uo a b)):=by
 refine af.yU (u:= .int .i64 (uo a b)) (Go.Proofs.enters_of Go.Proofs.Tryz.func45 (by kernel_rfl) rfl) (λΓ=>dC) ?_
 intro Γ w vs hw hm hb ha
 match vs,ha with
 |
  [v,v2],ha=>
  obtain⟨h1,h2,_⟩:=ha
  refine(Bw v v2 (uo a b) w ?_).mono ?_
  ·have e:Go.Extern.BytealgCompare.compare #[v,v2]=(do Pure.pure (goInt (Go.Extern.BytealgCompare.cmp (←Go.Extern.Bytes.bytesOf v) (←Go.Extern.Bytes.bytesOf v2)))):=rfl
   rw[e]
   simp only[bJ,xV hw h1,xV hw h2,rJ]
   rfl
  ·rintro e w' ⟨rfl,rfl⟩
   exact⟨rfl,WF.refl _,Nat.le_refl _,λ_ _=>rfl⟩
end Go.Ab
noncomputable section W4s
namespace Go.Ab
open Go.Ab
theorem Xc (l:List UInt8) (i:Nat):(⟨l.toArray⟩:ByteArray)[i]! =l.getD i 0:=by
 have hs:(⟨l.toArray⟩:ByteArray).size=l.length:=rfl
 by_cases h:i<l.length
 ·rw[getElem!_pos _ i (by rw[hs];exact h),ByteArray.getElem_eq_getElem_data]
  simp[List.getD,h]
 ·rw[getElem!_neg _ i (by rw[hs];exact h)]
  simp only[List.getD,List.getElem?_eq_none (Nat.le_of_not_lt h)]
  rfl
theorem vQ (a b:List UInt8):uo a b=match(List.range (min a.length b.length)).find? (λi=>a.getD i 0 !=b.getD i 0)with
  |some i=>if a.getD i 0<b.getD i 0 then-1 else 1
  |none=>if a.length<b.length then-1 else if a.length>b.length then 1 else 0:=by
 unfold uo Go.Extern.BytealgCompare.cmp
 simp only[Xc]
 rfl
theorem J5 (x y:UInt8) (a b:List UInt8):uo (x::a) (y::b)=if x=y then uo a b else if x<y then-1 else 1:=by
 rw[vQ,vQ]
 simp only[List.length_cons,Nat.add_min_add_right,List.range_succ_eq_map,List.find?_cons,List.getD_cons_zero,List.find?_map]
 by_cases h:x=y
 ·subst h
  simp only[bne_self_eq_false,Function.comp_def,List.getD_cons_succ,Nat.succ_eq_add_one,if_true]
  cases(List.range (min a.length b.length)).find? (λi=>a.getD i 0 !=b.getD i 0)<;>simp
 ·have h2:(x !=y)=true:=by simpa using h
  simp only[h2,List.getD_cons_zero,if_neg h]
theorem Dq:∀a b:List UInt8,decide (uo a b<0)=Op.bytesLess a b
 |[],[]=>by rw[vQ];simp[Op.bytesLess]
 |[],y::b=>by rw[vQ];simp[Op.bytesLess]
 |x::a,[]=>by rw[vQ];simp[Op.bytesLess]
 |
  x::a,y::b=>by
  rw[J5]
  unfold Op.bytesLess
  rw[←Dq a b]
  by_cases h:x=y
  ·subst h;simp
  ·by_cases h2:x<y
   ·simp[h,h2]
   ·simp[h,h2]
end Go.Ab
end W4s
noncomputable section W5s
namespace Go.Ab
open Go.Ab
def akp (l:List jy):Nat->Bool
 |0=>false
 |
  j+1=>match l[j]?,l[j+1]?with
  |some a,some b=> !Op.bytesLess a.eK.l b.eK.l
  |_,_=>false
def r2 (d:gU):Bool:=decide (fst (akp d.aj) d.aj.length=d.aj.length)&&decide ((d.aj.length:Int)≤8)
end Go.Ab
end W5s
noncomputable section W6s
namespace Go.Ab
open Go.Ab
@[simp] theorem aeu (f:Fn) (a b:List PV):(PV.fn f a b).width=1:=rfl
def aev (d:gU) (p:jy):Bool:=if p.hand.has=true then p.nm&&(qm p.hand.started 0 p.hand.Ma&&decide (p.hand.Ma≤d.now))else PV.beq (ue p.hand) (ue Wp)
def r4 (d:gU):Bool:=d.aj.all (aev d)
end Go.Ab
end W6s
noncomputable section W7s
namespace Go.Ab
open Go.Ab
def akq (d:gU) (s:GC) (w:QV):Bool:=qm s.born 0 d.now&&decide (s.L9=d.rules.wU)&&decide (s.next≤18446744073709543423)&&(w.used||PV.beq (wP w) zWn.p)
end Go.Ab
end W7s
noncomputable section W8s
namespace Go.Ab
open Go.Ab
def M7 (s:GC):Prop:=∃w,s.Uo=MH w
def wn (s:GC):QV:=by
 classical
 exact if h:M7 s then Classical.choose h else zW
def Xd (d:gU) (x:FK):Bool:=if x.has=true then akq d x.FL (wn x.FL)else PV.beq (yi x) (yi MI)
def aew (d:gU) (p:jy):Bool:=decide (fst (λi=> !Xd d (adM p.ring (i+1))) 3=3)
def T2 (p:jy):Prop:=M7 p.ring.p.FL∧M7 p.ring.c.FL∧M7 p.ring.n.FL
theorem T2.get {p:jy} (h:T2 p) {i:Nat} (hi:i<3):M7 (adM p.ring (i+1)).FL:=by
 rcases(by omega:i=0∨i=1∨i=2)with rfl|rfl|rfl
 ·exact h.1
 ·exact h.2.1
 ·exact h.2.2
def r5 (d:gU):Bool:=d.aj.all (aew d)
end Go.Ab
end W8s
noncomputable section W9s
namespace Go.Ab
open Go.Ab
theorem G0 (a b:iO):PV.beq (ft a) (ft b)=(decide (a.na=b.na)&&decide (a.ip=b.ip)):=by
 simp only[ft,PV.beq,PV.oN,Df,Bool.and_true]
 cases a.na<;>cases b.na<;>simp
def iO.jc (a:iO) (i:Nat):UInt8:=a.ip.getD i 0
theorem iO.Dl (a:iO) {i:Nat} (h:i<16):a.ip[i]? =some (a.jc i):=by
 have:i<a.ip.length:=by rw[a.h];exact h
 simp[iO.jc,List.getD,gJ this]
theorem iO.M8 {a b:List UInt8} (ha:a.length=16) (hb:b.length=16) (h:∀i,i<16->a.getD i 0=b.getD i 0):a=b:=by
 apply List.ext_getElem (by omega)
 intro i h1 h2
 have:=h i (by omega)
 simpa[List.getD,gJ h1,gJ h2]using this
def jB (a:iO):Bool:=a.na||decide (fst (λi=>a.jc (4+i) !=0) 12=12)
theorem M9 (a:iO):a8 Pg I.ei [ft a] (.bl (jB a)):=by
 refine af.intro T.ei (by simp[F.ei]) ?_
 have hle:=xg (λi=>a.jc (4+i) !=0) 12
 have DG:∀i,i<fst (λi=>a.jc (4+i) !=0) 12->a.jc (4+i)=0:=λi h=>by simpa using xh h
 have Yd:fst (λi=>a.jc (4+i) !=0) 12<12->a.jc (4+fst (λi=>a.jc (4+i) !=0) 12)≠0:=λh=>by simpa using Dk h
 have hr:jB a=(a.na||decide (fst (λi=>a.jc (4+i) !=0) 12=12)):=rfl
 generalize fst (λi=>a.jc (4+i) !=0) 12=n at*
 simp[F.ei,ai,aG]
 cases h6:a.na
 ·refine gR.iw n (λ_=>True) [1,2,6,7,8] (λi=>[(8,.int .i64 i)]) (λi=>[]) [.keep [1,2,6,7,8]] ?_
  simp
  refine⟨λi hi K hK=> ?_,λK=> ?_⟩
  ·have hx:=a.Dl (i:=4+i) (by omega)
   rw[DG i hi]at hx
   have hw:IntKind.i64.wrap ((i:Int)+1)=(i:Int)+1:=wrap_i64 (by omega)
   have uG:i<12:=by omega
   have jf:(i:Int)<12:=by omega
   simp[↓an,uG,jf,hx,hw,u8,h6]
   refine⟨[.keep [1,2,6,7,8]],?_⟩
   simp
   exact hK _ (by simp)
  ·by_cases hn:n<12
   ·have hx:=a.Dl (i:=4+n) (by omega)
    have dF:=Yd hn
    have jf:(n:Int)<12:=by omega
    have hn2:¬n=12:=by omega
    have hn3:¬(a.jc (4+n)).toNat=0:=λh=>dF (UInt8.toNat_inj.1 (by simpa using h))
    generalize a.jc (4+n)=b at*
    simp[↓an,hn,jf,hx,u8,h6,hn3]
    refine aC.plain [] ?_
    simp[hr,h6,hn2]
   ·have hn2:n=12:=by omega
    subst hn2
    simp[↓an]
    refine aC.plain [] ?_
    simp[hr]
 ·refine gR.iw 12 (λ_=>True) [1,2,6,7,8] (λi=>[(8,.int .i64 i)]) (λi=>[]) [.keep [1,2,6,7,8]] ?_
  simp
  refine⟨λi hi K hK=> ?_,λK=> ?_⟩
  ·have hx:=a.Dl (i:=4+i) (by omega)
   have hw:IntKind.i64.wrap ((i:Int)+1)=(i:Int)+1:=wrap_i64 (by omega)
   have jf:(i:Int)<12:=by omega
   simp[↓an,hi,jf,hx,hw,u8,h6]
   refine⟨[.keep [1,2,6,7,8]],?_⟩
   simp
   exact hK _ (by simp)
  ·simp[↓an]
   refine aC.plain [] ?_
   simp[hr,h6]
def Bx (a:iO):iO:=⟨a.na,a.ip.take 4++List.replicate 12 0,by simp[a.h]⟩
theorem Na (a:iO) (i:Nat):(Bx a).jc i=if i<4 then a.jc i else 0:=by
 simp only[iO.jc,Bx,List.getD]
 by_cases h:i<4
 ·rw[if_pos h,List.getElem?_append_left (by simp[a.h];omega),List.getElem?_take,if_pos h]
 ·rw[if_neg h,List.getElem?_append_right (by simp[a.h];omega),List.getElem?_replicate]
  split<;>rfl
theorem RD (a:iO):a.ip=(Bx a).ip↔fst (λi=>a.jc (4+i) !=0) 12=12:=by
 rw[vL]
 constructor
 ·intro h i hi
  have:a.jc (4+i)=(Bx a).jc (4+i):=by unfold iO.jc;rw[←h]
  rw[this,Na,if_neg (by omega)];simp
 ·intro h
  refine iO.M8 a.h (Bx a).h λi hi=> ?_
  show a.jc i=(Bx a).jc i
  rw[Na]
  split
  ·rfl
  ·have:=h (i-4) (by omega)
   rw[show 4+(i-4)=i by omega]at this
   simpa using this
theorem Nb (a:iO):a8 Pg I.jx [ft a] (.bl (jB a)):=by
 refine af.intro T.jx (by simp[F.jx]) ?_
 simp[F.jx,ai,aG]
 have he:vv a (PV.ar 1 16 (List.take 4 (List.map u8 a.ip)++PV.int IntKind.u8 0::PV.int IntKind.u8 0::PV.int IntKind.u8 0::PV.int IntKind.u8 0::PV.int IntKind.u8 0::PV.int IntKind.u8 0::PV.int IntKind.u8 0::PV.int IntKind.u8 0::PV.int IntKind.u8 0::PV.int IntKind.u8 0::PV.int IntKind.u8 0::PV.int IntKind.u8 0::List.drop 16 (List.map u8 a.ip)))=ft (Bx a):=by
  have:List.drop 16 (List.map u8 a.ip)=[]:=List.drop_of_length_le (by simp[a.h])
  rw[this]
  simp[vv,ft,Bx,u8,List.replicate]
 rw[he]
 refine⟨by simp,?_⟩
 cases h6:a.na
 ·refine⟨by simp,?_⟩
  simp[h6]
  refine aC.plain [] ?_
  have hb:PV.beq (ft a) (ft (Bx a))=decide (fst (λi=>a.jc (4+i) !=0) 12=12):=by
   rw[G0,show(Bx a).na=a.na from rfl];simp[RD]
  simp[jB,h6,hb]
 ·simp[h6]
  refine aC.plain [] ?_
  simp[jB,h6]
def xo (f:Nat->UInt8) (l:List UInt8) (i:Nat):List UInt8:=(List.range l.length).map λj=>if j<i then f j else l.getD j 0
theorem vR (f:Nat->UInt8) (l:List UInt8) (i:Nat):(xo f l i).length=l.length:=by simp[xo]
theorem Dx (f:Nat->UInt8) (l:List UInt8) (i:Nat) {j:Nat} (h:j<l.length):(xo f l i)[j]? =some (if j<i then f j else l.getD j 0):=by simp[xo,h]
theorem Xe (f:Nat->UInt8) (l:List UInt8):xo f l 0=l:=by
 apply List.ext_getElem (by simp[vR])
 intro j h1 h2
 have:=Dx f l 0 h2
 rw[gJ h1]at this
 simpa[List.getD,gJ h2]using this
theorem Nc (f:Nat->UInt8) (l:List UInt8) (i:Nat):((xo f l i).map u8).set i (u8 (f i))=(xo f l (i+1)).map u8:=by
 rw[←List.map_set]
 congr 1
 apply List.ext_getElem (by simp[vR])
 intro j h1 h2
 simp only[xo,List.getElem_set,List.getElem_map,List.getElem_range]
 by_cases e:i=j
 ·subst e;simp
 ·simp only[e,if_false]
  by_cases e2:j<i
  ·rw[if_pos e2,if_pos (by omega)]
  ·rw[if_neg e2,if_neg (by omega)]
def cb (n:Nat) (b:UInt8):UInt8:=b&&& ~~~((255:UInt8)>>>UInt8.ofNat n)
theorem akr:∀(n:Fin 9) (b:Fin 256),bits .and .u8 (b.val:Int) (bits .xor .u8 (if IntKind.u8.signed=true then-1 else IntKind.u8.max) (Int.fdiv 255 (2^min n.val IntKind.u8.bits)))=((if n.val=8 then b.val else(cb n.val (UInt8.ofNat b.val)).toNat:Nat):Int):=by decide+kernel
def lf (n i:Nat):Nat:=min (n-8*i) 8
def ur (a:iO) (n i:Nat):UInt8:=if lf n i=8 then a.jc i else cb (lf n i) (a.jc i)
theorem Xf (a:iO) (n i:Nat):bits .and .u8 ((a.jc i).toNat:Int) (bits .xor .u8 (if IntKind.u8.signed=true then-1 else IntKind.u8.max) (Int.fdiv 255 (2^min (lf n i) IntKind.u8.bits)))=((ur a n i).toNat:Int):=by
 have:=akr ⟨lf n i,by unfold lf;omega⟩ ⟨(a.jc i).toNat,(a.jc i).toNat_lt⟩
 simp only at this
 rw[this]
 unfold ur
 split
 ·rfl
 ·simp
def tq (a:iO) (n:Nat):iO:=⟨a.na,xo (ur a n) a.ip 16,by rw[vR,a.h]⟩
theorem aex (a:iO) {n:Nat} (hn:n≤128):a8 Pg I.lg [ft a,.int .i64 n] (ft (tq a n)):=by
 refine af.intro T.lg (by simp[F.lg]) ?_
 simp[F.lg,ai,aG]
 refine gR.iw 16 (λ_=>True) [1,2,4,7] (λi=>[(7,.int .i64 i)]) (λi=>[(2,.box (.st 17 [.bl a.na,.ar 1 16 ((xo (ur a n) a.ip i).map u8)]))]) [.keep [1,2,4,7]] ?_
 simp[Xe,ft]
 refine⟨λi hi K hK=> ?_,λK=> ?_⟩
 ·have hx:=Dx (ur a n) a.ip i (j:=i) (by rw[a.h];exact hi)
  rw[if_neg (by omega)]at hx
  have hx:(xo (ur a n) a.ip i)[i]? =some (a.jc i):=hx
  have hw:IntKind.i64.wrap ((i:Int)+1)=(i:Int)+1:=wrap_i64 (by omega)
  have xu:IntKind.i64.wrap (8*(i:Int))=8*(i:Int):=wrap_i64 (by omega)
  have FC:IntKind.i64.wrap ((n:Int)-8*(i:Int))=(n:Int)-8*(i:Int):=wrap_i64 (by omega)
  have nq:(i:Int)<16:=by omega
  have hm:min (max ((n:Int)-8*(i:Int)) 0) 8=(lf n i:Int):=by unfold lf;omega
  have he:=Xf a n i
  have hs:=Nc (ur a n) a.ip i
  have hlen:=vR (ur a n) a.ip i
  generalize xo (ur a n) a.ip i=L at*
  generalize xo (ur a n) a.ip (i+1)=M at*
  generalize a.jc i=b at*
  generalize lf n i=q at*
  generalize ur a n i=c at*
  have e1:(L.map u8).set i (PV.int IntKind.u8 (c.toNat:Int))=M.map u8:=hs
  simp[↓an,hi,nq,hx,hw,xu,FC,hm,he,av,adQ,-getElem?_pos]
  refine⟨.inr (.inr rfl),⟨rfl,rfl⟩,[.keep [1,2,4,7]],?_⟩
  simp only[he,e1]
  simp
  exact hK _ (by simp)
 ·simp[↓an]
  refine aC.plain [] ?_
  simp[tq,ft]
def nh (p:lr):Bool:=jB p.addr&&decide (0≤p.bits)&&decide (p.bits≤if p.addr.na=true then 128 else 32)&&decide (p.addr.ip=(tq p.addr p.bits.toNat).ip)
theorem te (a:iO):fits (Sh.st [Sh.b,Sh.ar 16 (Sh.i IntKind.u8)]) (ft a)=true:=B9 a
theorem Dm (p:lr):a8 Pg I.gH [dX p] (.bl (nh p)):=by
 refine af.intro T.gH (by simp[F.gH]) ?_
 have hr:nh p=(jB p.addr&&decide (0≤p.bits)&&decide (p.bits≤if p.addr.na=true then 128 else 32)&&decide (p.addr.ip=(tq p.addr p.bits.toNat).ip)):=rfl
 have h1:=te p.addr
 have hb:PV.beq (ft (tq p.addr p.bits.toNat)) (ft p.addr)=decide (p.addr.ip=(tq p.addr p.bits.toNat).ip):=by
  rw[G0,show(tq p.addr p.bits.toNat).na=p.addr.na from rfl];simp[eq_comm]
 have h2:=te (tq p.addr p.bits.toNat)
 cases h6:p.addr.na
 ·simp[F.gH,ai,aG,h6]
  refine aU.ret (Nb p.addr) (by simp) (by simp) (by simp) ?_
  cases g1:jB p.addr
  ·simp
   refine aC.plain [] ?_
   simp[hr,g1]
  by_cases g2:0≤p.bits
  ·by_cases g3:p.bits≤32
   ·have hc:=aex p.addr (n:=p.bits.toNat) (by omega)
    rw[show((p.bits.toNat:Nat):Int)=p.bits by omega]at hc
    simp[g2,g3]
    refine aU.ret hc (by simp) (by simp) (by simp) ?_
    simp[h1,h2]
    refine aC.plain [] ?_
    simp[hr,g1,g2,g3,h6,hb]
   ·simp[g2,g3]
    refine aC.plain [] ?_
    simp[hr,g3,h6]
  ·simp[g2]
   refine aC.plain [] ?_
   simp[hr,g2]
 ·simp[F.gH,ai,aG,h6]
  refine aU.ret (Nb p.addr) (by simp) (by simp) (by simp) ?_
  cases g1:jB p.addr
  ·simp
   refine aC.plain [] ?_
   simp[hr,g1]
  by_cases g2:0≤p.bits
  ·by_cases g3:p.bits≤128
   ·have hc:=aex p.addr (n:=p.bits.toNat) (by omega)
    rw[show((p.bits.toNat:Nat):Int)=p.bits by omega]at hc
    simp[g2,g3]
    refine aU.ret hc (by simp) (by simp) (by simp) ?_
    simp[h1,h2]
    refine aC.plain [] ?_
    simp[hr,g1,g2,g3,h6,hb]
   ·simp[g2,g3]
    refine aC.plain [] ?_
    simp[hr,g3,h6]
  ·simp[g2]
   refine aC.plain [] ?_
   simp[hr,g2]
def qn (a:iO) (i:Nat):Nat:=(a.jc (i/8)).toNat/2^(7-i%8)%2
theorem aey:∀(k:Fin 8) (b:Fin 256),bits .and .u8 ((b.val:Int).fdiv (2^k.val)) 1=((b.val/2^k.val%2:Nat):Int):=by decide+kernel
theorem aez (a:iO) {i:Nat} (nq:i<128):a8 Pg I.fY [ft a,.int .i64 (i:Int)] (.int .u8 (qn a i)):=by
 refine af.intro T.fY (by simp[F.fY]) ?_
 have hx:=a.Dl (i:=i/8) (by omega)
 have hw:IntKind.i64.wrap ((i/8:Nat):Int)=((i/8:Nat):Int):=wrap_i64 (by omega)
 have FC:IntKind.i64.wrap (7-((i%8:Nat):Int))=((7-i%8:Nat):Int):=by rw[wrap_i64 (by omega)];omega
 have hd:(i:Int).tdiv 8=((i/8:Nat):Int):=by rw[show(8:Int)=((8:Nat):Int) from rfl,←Int.ofNat_tdiv]
 have hb:=aey ⟨7-i%8,by omega⟩ ⟨(a.jc (i/8)).toNat,(a.jc (i/8)).toNat_lt⟩
 have hm:min (7-i%8) IntKind.u8.bits=7-i%8:=by show min (7-i%8) 8=_;omega
 have hr:qn a i=(a.jc (i/8)).toNat/2^(7-i%8)%2:=rfl
 simp only at hb
 rw[←hr]at hb
 have XW:((i/8:Nat):Int)<16:=by omega
 generalize a.jc (i/8)=b at*
 generalize qn a i=r at*
 generalize hq:7-i%8=q at*
 generalize hp:i%8=z at*
 generalize hs:i/8=y at*
 have hq2:IntKind.i64.wrap (7-(z:Int))=(q:Int):=FC
 simp[F.fY,ai,aG,adO,hw,FC,hd,hx,u8,hp,hm,XW,hb,-Int.natCast_ediv,-Int.natCast_emod,-getElem?_pos]
 refine aC.plain [] ?_
 simp
theorem Xg:∀(q:Fin 8) (b:Fin 256),cb q.val (UInt8.ofNat b.val)=UInt8.ofNat b.val↔∀k:Fin 8,q.val≤k.val->b.val/2^(7-k.val)%2=0:=by decide+kernel
theorem Fv (a:iO) (n j:Nat):ur a n j=a.jc j↔∀k,k<8->n≤8*j+k->(a.jc j).toNat/2^(7-k)%2=0:=by
 unfold ur
 split
 ·rename_i h
  refine⟨λ_ k hk hn=> ?_,λ_=>rfl⟩
  unfold lf at h;omega
 ·rename_i h
  have hq:lf n j<8:=by unfold lf at h⊢;omega
  have:=Xg ⟨lf n j,hq⟩ ⟨(a.jc j).toNat,(a.jc j).toNat_lt⟩
  simp only[UInt8.ofNat_toNat]at this
  rw[this]
  constructor
  ·intro h1 k hk hn
   exact h1 ⟨k,hk⟩ (by show lf n j≤k;unfold lf;omega)
  ·intro h1 k hk
   exact h1 k.val k.isLt (by have A8:lf n j≤k.val:=hk;unfold lf at A8 h;have:=k.isLt;omega)
theorem rG (p:lr) (h0:0≤p.bits) (h1:p.bits≤128):(∀i,i<128-p.bits.toNat->qn p.addr (p.bits.toNat+i)=0)↔p.addr.ip=(tq p.addr p.bits.toNat).ip:=by
 obtain⟨n,hn⟩:∃n,n=p.bits.toNat:=⟨_,rfl⟩
 rw[←hn]
 have Yd:∀j,j<16->(tq p.addr n).jc j=ur p.addr n j:=λj hj=>by
  have:=Dx (ur p.addr n) p.addr.ip 16 (j:=j) (by rw[p.addr.h];exact hj)
  rw[if_pos hj]at this
  simp only[iO.jc,tq,List.getD,this];rfl
 constructor
 ·intro h
  refine iO.M8 p.addr.h (tq p.addr n).h λj hj=> ?_
  show p.addr.jc j=(tq p.addr n).jc j
  rw[Yd j hj]
  refine((Fv p.addr n j).2 λk hk hnk=> ?_).symm
  have:=h (8*j+k-n) (by omega)
  rw[show n+(8*j+k-n)=8*j+k by omega]at this
  unfold qn at this
  rwa [show(8*j+k)/8=j by omega,show(8*j+k)%8=k by omega]at this
 ·intro h i hi
  have hj:(n+i)/8<16:=by omega
  have:=(Fv p.addr n ((n+i)/8)).1 (by rw[←Yd _ hj];unfold iO.jc;rw[←h]) ((n+i)%8) (by omega) (by omega)
  exact this
theorem G2 (p:lr):a8 Pg I.ej [dX p] (.bl (nh p)):=by
 refine af.intro T.ej (by simp[F.ej]) ?_
 have hr:nh p=(jB p.addr&&decide (0≤p.bits)&&decide (p.bits≤if p.addr.na=true then 128 else 32)&&decide (p.addr.ip=(tq p.addr p.bits.toNat).ip)):=rfl
 simp[F.ej,ai,aG]
 refine aU.ret (M9 p.addr) (by simp) (by simp) (by simp) ?_
 cases g1:jB p.addr
 ·simp
  refine aC.plain [] ?_
  simp[hr,g1]
 by_cases g2:p.bits<0
 ·simp[g2]
  refine aC.plain [] ?_
  simp[hr,show¬0≤p.bits by omega]
 simp[g2]
 refine aU.ret (dq p.addr) (by simp) (by simp) (by simp) ?_
 by_cases g3:(if p.addr.na=true then(128:Int)else 32)<p.bits
 ·simp[g3]
  refine aC.plain [] ?_
  simp[hr,show¬p.bits≤(if p.addr.na=true then(128:Int)else 32) by omega]
 have R3:p.bits≤128:=by
  split at g3<;>omega
 have Ye:=rG p (by omega) R3
 rw[show(∀i,i<128-p.bits.toNat->qn p.addr (p.bits.toNat+i)=0)↔∀i,i<128-p.bits.toNat->(qn p.addr (p.bits.toNat+i) !=0)=false by simp,←vL]at Ye
 have pG:nh p=decide (fst (λi=>qn p.addr (p.bits.toNat+i) !=0) (128-p.bits.toNat)=128-p.bits.toNat):=by
  rw[hr,g1]
  simp[Ye,show 0≤p.bits by omega,show p.bits≤(if p.addr.na=true then(128:Int)else 32) by omega]
 have hle:=xg (λi=>qn p.addr (p.bits.toNat+i) !=0) (128-p.bits.toNat)
 have DG:∀i,i<fst (λi=>qn p.addr (p.bits.toNat+i) !=0) (128-p.bits.toNat)->qn p.addr (p.bits.toNat+i)=0:=λi h=>by simpa using xh h
 have Yd:fst (λi=>qn p.addr (p.bits.toNat+i) !=0) (128-p.bits.toNat)<128-p.bits.toNat->qn p.addr (p.bits.toNat+fst (λi=>qn p.addr (p.bits.toNat+i) !=0) (128-p.bits.toNat))≠0:=λh=>by simpa using Dk h
 generalize fst (λi=>qn p.addr (p.bits.toNat+i) !=0) (128-p.bits.toNat)=n at*
 obtain⟨m,hm⟩:∃m,m=p.bits.toNat:=⟨_,rfl⟩
 have T5:p.bits=(m:Int):=by omega
 rw[T5]at g3
 rw[←hm]at pG hle DG Yd
 clear hr Ye
 simp[g3,T5]
 refine gR.iw n (λ_=>True) [1,2,3] (λi=>[(3,.int .i64 ((m:Int)+(i:Int)))]) (λi=>[]) [.keep [1,2,3]] ?_
 simp
 refine⟨λi hi K hK=> ?_,λK=> ?_⟩
 ·have hw:IntKind.i64.wrap ((m:Int)+(i:Int)+1)=(m:Int)+((i:Int)+1):=by rw[wrap_i64 (by omega)];omega
  have jf:(m:Int)+(i:Int)<128:=by omega
  have hb:=aez p.addr (i:=m+i) (by omega)
  rw[show((m+i:Nat):Int)=(m:Int)+(i:Int) by omega,DG i hi]at hb
  simp[↓an,hi,jf,hw]
  refine al.ret hb (by simp) (by simp) (by simp) ?_
  simp[hw]
  refine⟨[.keep [1,2,3]],?_⟩
  simp
  exact hK _ (by simp)
 ·by_cases hn:n<128-m
  ·have jf:(m:Int)+(n:Int)<128:=by omega
   have hb:=aez p.addr (i:=m+n) (by omega)
   rw[show((m+n:Nat):Int)=(m:Int)+(n:Int) by omega]at hb
   have dF:=Yd hn
   have Yf:¬n=128-m:=by omega
   generalize qn p.addr (m+n)=b at*
   have amj:¬(b:Int)=0:=by omega
   simp[↓an,jf]
   refine al.ret hb (by simp) (by simp) (by simp) ?_
   simp[dF,amj]
   refine aC.plain [] ?_
   simp[pG,Yf]
  ·have jf:¬((m:Int)+(n:Int)<128):=by omega
   have Yf:n=128-m:=by omega
   simp[↓an,jf]
   refine aC.plain [] ?_
   simp[pG,Yf]
end Go.Ab
end W9s
noncomputable section W0s
namespace Go.Ab
open Go.Ab
theorem Xh {Γ:Cx} {w:World} (h:w.heap=Γ.heap) (hm:Mem Γ):Lib.TabIs Pg w "math/bits.deBruijn64tab" .u8 AP:=by
 obtain⟨_,e,x,hx⟩:=hm.uI 3 _ rfl
 have hg:Pg.globalNamed "math/bits.deBruijn64tab" =some 3:=by kernel_rfl
 unfold Lib.TabIs World.var?
 rw[hg]
 simp only[Option.bind_some,h,hx]
theorem aks (w:World) (ht:Lib.TabIs Pg w "math/bits.deBruijn64tab" .u8 AP):Calls Pg 203 #[.int .u64 16] w λe w'=>e= .returned (.int .i64 4)∧w'=w:=by
 have hg:Pg.globalNamed "math/bits.deBruijn64tab" =some 3:=by kernel_rfl
 have hc:=ht.cell hg 15 (by decide)
 have hv:AP.getD 15 0=4:=by decide
 rw[hv]at hc
 have he:(IntKind.u64.wrap (bits BinOp.and IntKind.u64 16 (IntKind.u64.wrap (-16))*285870213051353865)/288230376151711744).toNat=15:=by decide+kernel
 clear ht hg hv
 go_enter Go.Proofs.Tryz.func203,Go.Proofs.Tryz.ntmps203
 go_wp2
 go_ret
 exact⟨rfl,rfl⟩
theorem tz (w:World) (ht:Lib.TabIs Pg w "math/bits.deBruijn64tab" .u8 AP):Calls Pg 197 #[.int .u64 16] w λe w'=>e= .returned (.int .i64 4)∧w'=w:=by
 have h:=aks w ht
 have e201:∀args w,(callFunc 203 args).run Pg w= .ok (.enter 203 args) w:=Go.Proofs.enters_of Go.Proofs.Tryz.func203 (by kernel_rfl) rfl
 go_enter Go.Proofs.Tryz.func197,Go.Proofs.Tryz.ntmps197
 go_wp2_with (go_at_fn 203;refine h.mono ?_;rintro e w1 ⟨rfl,rfl⟩)
 go_ret
 exact⟨rfl,rfl⟩
theorem TZ:a8 Pg I.mq [.int .u64 16] (.int .i64 4):=by
 refine af.yU (u:= .int .i64 4) (Go.Proofs.enters_of Go.Proofs.Tryz.func197 (by kernel_rfl) rfl) (λΓ=>dC) ?_
 intro Γ w vs hw hm hb ha
 match vs,ha with
 |
  [v],ha=>
  obtain rfl:v= .int .u64 16:=by
   have:=ha.1
   simp only[aN]at this
   cases this;rfl
  refine(tz w (Xh hw hm)).mono ?_
  rintro e w' ⟨rfl,rfl⟩
  exact⟨rfl,WF.refl _,Nat.le_refl _,λ_ _=>rfl⟩
end Go.Ab
end W0s
noncomputable section W1s
namespace Go.Ab
open Go.Ab
theorem RE:a8 Pg I.dR [.int .i64 16] (.bl true):=by
 refine af.intro T.dR (by simp[F.dR]) ?_
 have h1:IntKind.i64.wrap (16-1)=15:=by decide
 have h2:bits .and .i64 16 15=0:=by decide+kernel
 simp[F.dR,ai,aG,h1,h2]
 refine aC.plain [] ?_
 simp
def qt (u i:Nat):Nat:=u/16^i
def jU (u:Nat):Nat:=if u<16 then 0 else if u<256 then 1 else if u<4096 then 2 else 3
theorem rI (u:Nat):jU u≤3:=by unfold jU;(repeat' split)<;>omega
theorem Ix {u i:Nat} (h:i<jU u):16≤qt u i:=by
 unfold qt
 have h3:=rI u
 rw[Nat.le_div_iff_mul_le (Nat.pow_pos (by omega))]
 rcases(by omega:i=0∨i=1∨i=2)with rfl|rfl|rfl<;>(unfold jU at h;repeat' split at h)<;>omega
theorem Iy {u:Nat} (h:u<65536):qt u (jU u)<16:=by
 unfold qt
 rw[Nat.div_lt_iff_lt_mul (Nat.pow_pos (by omega))]
 unfold jU;(repeat' split)<;>omega
theorem aeA (n:Nat) (h:n<65536):bits .and .u64 (n:Int) 15=((n%16:Nat):Int):=by
 have h1:(BitVec.ofInt 64 (n:Int)).toNat=n:=by
  rw[BitVec.ofInt_natCast,BitVec.toNat_ofNat];exact Nat.mod_eq_of_lt (by omega)
 have h2:(BitVec.ofInt 64 (15:Int)).toNat=15:=by decide
 show IntKind.u64.wrap ((BitVec.ofInt 64 (n:Int)&&&BitVec.ofInt 64 (15:Int)).toNat:Int)=_
 rw[BitVec.toNat_and,h1,h2,show n&&&15=n%16 from Nat.and_two_pow_sub_one_eq_mod n 4]
 exact wrap_u64 (by omega)
def G4:List UInt8:=[48,49,50,51,52,53,54,55,56,57,97,98,99,100,101,102,103,104,105,106,107,108,109,110,111,112,113,114,115,116,117,118,119,120,121,122]
theorem akt (u i:Nat):(qt u i:Int).fdiv 16=(qt u (i+1):Int):=by
 rw[show(16:Int)=2^4 from rfl]
 unfold qt
 rw[Int.fdiv_eq_ediv_of_nonneg _ (by omega),Nat.pow_succ,←Nat.div_div_eq_div_mul]
 norm_cast
def dg (u i:Nat):UInt8:=G4.getD (qt u i%16) 0
def xp (u:Nat):Nat->List UInt8
 |0=>List.replicate 65 0
 |i+1=>(xp u i).set (64-i) (dg u i)
theorem vS (u:Nat):∀i,(xp u i).length=65
 |0=>by simp[xp]
 |i+1=>by simp[xp,vS u i]
def Dy (u:Nat):List UInt8:=List.take (65-(64-jU u)) (List.drop (64-jU u) (xp u (jU u+1)))
theorem Nd (u:Nat):(Dy u).length=jU u+1:=by
 have h3:=rI u
 simp[Dy,vS];omega
theorem aeB {u i:Nat}:[48,49,50,51,52,53,54,55,56,57,97,98,99,100,101,102,103,104,105,106,107,108,109,110,111,112,113,114,115,116,117,118,119,120,121,122][qt u i%16]? =some (dg u i):=by
 have hm:qt u i%16<G4.length:=by have:=Nat.mod_lt (qt u i) (show 0<16 by omega);simp[G4];omega
 show G4[qt u i%16]? =_
 simp[dg,List.getD,gJ hm]
theorem G5 {u:Nat} (hu:u<65536):a8 Pg I.eH [.sl 0 [] false,.int .u64 u,.int .i64 16,.bl false,.bl false] (.tup [.sl 1 [] true,.str (Dy u)]):=by
 refine af.intro T.eH (by simp[F.eH]) ?_
 simp[F.eH,ai,aG]
 refine al.ret RE (by simp) (by simp) (by simp) ?_
 simp
 refine al.ret TZ (by simp) (by simp) (by simp) ?_
 simp
 have h3:=rI u
 refine gR.iw (jU u) (λ_=>True) [0,1,2,3,4,10,11,12,13,14,15,16] (λi=>[(1,.int .u64 (qt u i:Int)),(13,.int .i64 (65-(i:Int)))]) (λi=>[(12,.box (.ar 1 65 ((xp u i).map u8)))]) [.keep [0,1,2,3,4,10,11,12,13,14,15,16]] ?_
 simp[iq,u8,show qt u 0=u by simp[qt],show xp u 0=List.replicate 65 0 from rfl]
 refine⟨λi hi K hK=> ?_,λK=> ?_⟩
 ·have Ue:=Ix hi
  have eu:qt u i<65536:=Nat.lt_of_le_of_lt (Nat.div_le_self _ _) hu
  have A5:=akt u i
  have hg:(16:Int)≤qt u i:=by omega
  have hd:=aeA (qt u i) eu
  have hx:=aeB (u:=u) (i:=i)
  have hbs:xp u (i+1)=(xp u i).set (64-i) (dg u i):=rfl
  have hl:=vS u i
  rw[hbs]at hK
  have w1:IntKind.i64.wrap (65-(i:Int)-1)=65-((i:Int)+1):=by rw[wrap_i64 (by omega)];omega
  have ht:(65-((i:Int)+1)).toNat=64-i:=by omega
  generalize dg u i=c at*
  generalize xp u i=l at*
  have hy:l[64-i]? =some (l[64-i]'(by omega)):=gJ _
  have IM:(i:Int)+1≤65:=by omega
  have BC:65-((i:Int)+1)<65:=by omega
  have hmi:min 4 IntKind.u64.bits=4:=rfl
  generalize qt u i%16=m at*
  have hmm:(0:Int)≤m:=by omega
  simp only[List.getElem?_cons_succ]at hx
  simp[↓an,hg,hd,w1,hx,ht,hy,IM,BC,hmi,A5,hmm,-getElem?_pos]
  refine⟨[.keep [0,1,2,3,4,10,11,12,13,14,15,16]],?_⟩
  simp
  refine hK _ (by simp[u8,A5])
 ·have eu:=Iy hu
  have hx:=aeB (u:=u) (i:=jU u)
  rw[Nat.mod_eq_of_lt eu]at hx
  have hg:¬(16:Int)≤qt u (jU u):=by omega
  have hl:=vS u (jU u)
  have hT:Dy u=List.take (65-(64-jU u)) (List.drop (64-jU u) ((xp u (jU u)).set (64-jU u) (dg u (jU u)))):=rfl
  have w1:IntKind.i64.wrap (65-(jU u:Int)-1)=65-((jU u:Int)+1):=by rw[wrap_i64 (by omega)];omega
  have ht:(65-((jU u:Int)+1)).toNat=64-jU u:=by omega
  obtain⟨y,hy⟩:∃y,(xp u (jU u))[64-jU u]? =some y:=⟨_,gJ (by omega)⟩
  generalize dg u (jU u)=c at*
  generalize xp u (jU u)=l at*
  generalize qt u (jU u)=m at*
  generalize jU u=i at*
  have IM:(i:Int)+1≤65:=by omega
  have BC:65-((i:Int)+1)<65:=by omega
  have hb3:65-((i:Int)+1)≤65:=by omega
  simp[↓an,hg,w1,hx,ht,hy,IM,BC,hb3,-getElem?_pos]
  have e1:((List.map u8 l).set (64-i) (PV.int IntKind.u8 (c.toNat:Int)))=(l.set (64-i) c).map u8:=by rw[List.map_set];rfl
  rw[e1,←List.map_drop,←List.map_take,sq]
  refine⟨by omega,?_⟩
  simp
  refine aC.plain [] ?_
  simp[hT]
theorem Fw {u:Nat} (hu:u<65536):a8 Pg I.fj [.int .i64 u,.int .i64 16] (.str (Dy u)):=by
 have h0:a8 Pg I.ee [.int .i64 u,.int .i64 16] (.str (Dy u)):=by
  refine af.intro T.ee (by simp[F.ee]) ?_
  have w:IntKind.u64.wrap (u:Int)=u:=wrap_u64 (by omega)
  have hn:¬(u:Int)<0:=by omega
  simp[F.ee,ai,aG,w,hn]
  have hF:=G5 hu
  refine al.ret hF (by simp) (by simp) (by simp) ?_
  simp
  refine aC.plain [] ?_
  simp
 refine af.intro T.fj (by simp[F.fj]) ?_
 simp[F.fj,ai,aG]
 refine al.ret h0 (by simp) (by simp) (by simp) ?_
 simp
 refine aC.plain [] ?_
 simp
end Go.Ab
end W1s
noncomputable section W10s
namespace Go.Ab
open Go.Ab
theorem Nf {bx:List (Nat×br)}:∀ {l:List PV},ae (λ_=>false) l=true->Vp bx l l
 |[],_=>trivial
 |
  p::r,h=>by
  simp only[ae,aJ]at h
  exact⟨.inl (.inl ⟨rfl,h.1⟩),Nf h.2⟩
theorem T3 {f:FuncId} {sz:Nat} {xs rest:List PV} {v:PV} (hA:a8 Pg f (.sl sz xs false::rest) v) (iA:0<sz) (hw:∀x∈xs,x.width=sz) (hx:ae (λ_=>false) xs=true) (hr:ae (λ_=>false) rest=true)
  (hv:lN v=true) (hvp:Pure v):af Pg f (.rs KB [] 0 xs.length xs.length sz .tip::rest) [.arr sz xs] (λr fp=>r=v∧fp=[.arr sz xs]):=by
 have h:=af.view (args:= .rs KB [] 0 xs.length xs.length sz .tip::rest) (fp:=[.arr sz xs]) hA ⟨.inl (.inr ⟨KB,[],0,xs.length,xs.length,sz,.tip,xs,rfl,by simp[content,get,aG],hx,iA,rfl⟩),Nf hr⟩ (λr new e=>by
  obtain⟨rfl,rfl⟩:=e
  exact⟨hv,rfl⟩)
 refine h.mono ?_
 rintro r rR ⟨r0,new,⟨rfl,rfl⟩,rfl,rfl⟩
 exact⟨hvp.az _,by simp⟩
theorem nL (l:List (List UInt8)):aB (l.map PV.str):=aS (λx=>(by simp:Pure (PV.str x))) l
def Iz (a:iO) (n:Nat):List (List UInt8):=(a.ip.take n).map (λb=>Lib.itoa (b.toNat:Int))
theorem Dz {a:iO} {n:Nat} (h:n≤16):(Iz a n).length=n:=by simp[Iz,a.h];omega
theorem Ng (a:iO) {n:Nat} {b:UInt8} (h:a.ip[n]? =some b):Iz a (n+1)=Iz a n++[Lib.itoa (b.toNat:Int)]:=by
 unfold Iz
 rw[List.take_add_one,h];simp
theorem J6 {a:iO} (h6:a.na=false):nh ⟨a,32⟩=jB a:=by
 unfold nh
 cases h:jB a
 ·simp
 ·have hz:∀j,4≤j->j<16->a.jc j=0:=by
   intro j h1 h2
   unfold jB at h
   rw[h6,Bool.false_or,decide_eq_true_eq,vL]at h
   have:=h (j-4) (by omega)
   rw[show 4+(j-4)=j by omega]at this
   simpa using this
  have:=(rG ⟨a,32⟩ (show(0:Int)≤32 by decide) (show(32:Int)≤128 by decide)).1 (λi hi=>by
   simp only at hi⊢
   unfold qn
   rw[hz _ (by simp;omega) (by simp at hi⊢;omega)];simp)
  have this:a.ip=(tq a 32).ip:=this
  simp[h6,←this]
theorem G6 {a:iO} (h6:a.na=true):nh ⟨a,128⟩=jB a:=by
 unfold nh
 have:=(rG ⟨a,128⟩ (show(0:Int)≤128 by decide) (show(128:Int)≤128 by decide)).1 (λi hi=>by simp at hi)
 have this:a.ip=(tq a 128).ip:=this
 simp[h6,←this]
theorem RF (a:iO):a8 Pg I.ie [ft a] (.bl (jB a)):=by
 refine af.intro T.ie (by simp[F.ie]) ?_
 cases h6:a.na
 ·have hv:=Dm ⟨a,32⟩
  rw[J6 h6]at hv
  have he:(.st 18 [ft a,.int .i64 32]:PV)=dX ⟨a,32⟩:=rfl
  simp[F.ie,ai,aG,h6,av]
  rw[he]
  refine al.ret hv (by simp) (by simp) (by simp) ?_
  simp
  refine aC.plain [] ?_
  simp
 ·have hv:=Dm ⟨a,128⟩
  rw[G6 h6]at hv
  have he:(.st 18 [ft a,.int .i64 128]:PV)=dX ⟨a,128⟩:=rfl
  simp[F.ie,ai,aG,h6,av]
  rw[he]
  refine al.ret hv (by simp) (by simp) (by simp) ?_
  simp
  refine aC.plain [] ?_
  simp
def Ax (a:iO) (i:Nat):Nat:=(a.jc (2*i)).toNat*256+(a.jc (2*i+1)).toNat
theorem Nh (a:iO) (i:Nat):Ax a i<65536:=by
 have:=(a.jc (2*i)).toNat_lt;have:=(a.jc (2*i+1)).toNat_lt;unfold Ax;omega
def IA (a:iO) (n:Nat):List (List UInt8):=(List.range n).map λi=>Dy (Ax a i)
theorem DB (a:iO) (n:Nat):(IA a n).length=n:=by simp[IA]
theorem Ni (a:iO) (n:Nat):IA a (n+1)=IA a n++[Dy (Ax a n)]:=by simp[IA,List.range_succ]
theorem or8 {x y:Nat} (hx:x<256) (hy:y<256):(x*256)|||y=x*256+y:=by
 have:=Nat.shiftLeft_add_eq_or_of_lt (i:=8) (b:=y) (by omega) x
 rw[Nat.shiftLeft_eq]at this
 exact this.symm
theorem IB:∀ {xs:List (List UInt8)} {m:Nat},(∀x∈xs,x.length≤m)->Lib.lens xs≤m*xs.length
 |[],m,_=>by simp[Lib.lens]
 |
  x::xs,m,h=>by
  have h1:=h x (by simp)
  have h2:=IB (xs:=xs) (m:=m) (λy hy=>h y (by simp[hy]))
  simp only[Lib.lens,List.map_cons,List.sum_cons,List.length_cons,Nat.mul_add]at h2⊢
  omega
def J7 (a:iO):List UInt8:=Lib.join (IA a 8) [58]
def J8 (a:iO):List UInt8:=Lib.join (Iz a 4) [46]
theorem Nj {xs:List (List UInt8)} {s:List UInt8} {m n:Nat} (hn:xs.length=n+2) (hs:s.length=1) (h:∀x∈xs,x.length≤m):1≤(Lib.join xs s).length∧(Lib.join xs s).length≤n+1+m*(n+2):=by
 match xs,hn with
 |
  x::y::r,hn=>
  rw[Lib.join_length]
  have:=IB h
  rw[hn]at this
  simp at hn
  simp only[List.length_cons,hs]at*
  constructor<;>omega
theorem Nk (a:iO):1≤(J7 a).length∧(J7 a).length≤1000:=by
 have:=Nj (n:=6) (s:=[58]) (m:=4) (DB a 8) rfl (λx hx=>by
  obtain⟨i,_,rfl⟩:=List.mem_map.1 hx
  rw[Nd];have:=rI (Ax a i);omega)
 unfold J7;omega
theorem Nl (a:iO):1≤(J8 a).length∧(J8 a).length≤1000:=by
 have:=Nj (n:=2) (s:=[46]) (m:=21) (Dz (a:=a) (n:=4) (by omega)) rfl (λx hx=>by
  obtain⟨b,_,rfl⟩:=List.mem_map.1 hx
  have:=b.toNat_lt
  exact Lib.itoa_length_le (b.toNat:Int) (by omega) (by omega))
 unfold J8;omega
theorem Fx (a:iO):a8 Pg I.fk [ft a] (.str (if jB a=true then(if a.na=true then J7 a else J8 a)else [])):=by
 refine af.intro T.fk (by simp[F.fk]) ?_
 simp[F.fk,ai,aG]
 refine al.ret (RF a) (by simp) (by simp) (by simp) ?_
 cases hs:jB a
 ·simp
  refine aC.plain [] ?_
  simp
 cases h6:a.na
 ·simp[h6,↓an]
  refine gR.iw 4 (λ_=>True) [1,2,3,36] (λi=>[(3,.rs 3 [] 0 i i 1 .tip),(36,.int .i64 i)]) (λi=>[(3,.arr 1 ((Iz a i).map PV.str))]) [.keep [1,2,3,36],.vt 3 3 1] ?_
  simp[show Iz a 0=[] from rfl]
  refine⟨λi hi K hK=> ?_,λK=> ?_⟩
  ·have nq:i<a.ip.length:=by rw[a.h];omega
   have hx:a.ip[i]? =some a.ip[i]:=gJ nq
   have hb:=(a.ip[i]).toNat_lt
   have hw:IntKind.i64.wrap ((a.ip[i]).toNat:Int)=((a.ip[i]).toNat:Int):=wrap_i64 (by omega)
   have hi4:(i:Int)<4:=by omega
   have hl:=Dz (a:=a) (n:=i) (by omega)
   rw[Ng a hx]at hK
   have NN:(i:Int)<16:=by omega
   simp[↓an,hi,hi4,NN,hx,u8,hw,om hi (by omega)]
   refine al.ret (Xb (n:=(a.ip[i].toNat:Int)) (by omega) (by omega)) (by simp) (by simp) (by simp) ?_
   simp[hw,om hi (by omega),hl]
   refine⟨⟨by omega,by omega⟩,[.keep [1,2,3,36]],?_⟩
   simp
   exact hK _ (by simp)
  ·have hl:=Dz (a:=a) (n:=4) (by omega)
   have hle:=(Nl a).2
   have hj:=T3 (rest:=[.str [46]]) (aet (xs:=Iz a 4) (sep:=[46]) (λh=>by rw[h]at hl;simp at hl) (by omega) (by unfold J8 at hle;omega) false) (by omega) (λx hx=>by
    obtain⟨y,_,rfl⟩:=List.mem_map.1 hx;rfl) ((nL _).refs _) (by simp[ae,ab]) (by simp[lN,oz]) (by simp)
   simp only[List.length_map,hl]at hj
   simp[↓an]
   refine al.gen [3] [] [.arr 1 ((Iz a 4).map PV.str)] hj (by simp[getAll]) (by simp) (by simp) (by simp[ae,ab,bS,idx]) (by simp[ah,(nL (Iz a 4)).refs]) (by simp[aO,az,bE,idx]) (by simp[aM,(nL (Iz a 4)).az]) (by simp[ah,ab,(nL (Iz a 4)).refs]) ?_
   simp[bB,aM,az,fu,(nL (Iz a 4)).az]
   refine aC.plain [] ?_
   simp[J8]
 ·simp[h6]
  refine gR.iw 8 (λ_=>True) [1,2,3,11] (λi=>[(3,.rs 3 [] 0 i i 1 .tip),(11,.int .i64 i)]) (λi=>[(3,.arr 1 ((IA a i).map PV.str))]) [.keep [1,2,3,11],.vt 3 3 1] ?_
  simp[show IA a 0=[] from rfl]
  refine⟨λi hi K hK=> ?_,λK=> ?_⟩
  ·have hx:=a.Dl (i:=2*i) (by omega)
   have hy:=a.Dl (i:=2*i+1) (by omega)
   have lj:=(a.jc (2*i)).toNat_lt
   have hby:=(a.jc (2*i+1)).toNat_lt
   have hF:=Fw (Nh a i)
   have afT:Ax a i=(a.jc (2*i)).toNat*256+(a.jc (2*i+1)).toNat:=rfl
   have hl:=DB a i
   rw[Ni]at hK
   generalize Dy (Ax a i)=T at*
   generalize Ax a i=W at*
   generalize a.jc (2*i)=x at*
   generalize a.jc (2*i+1)=y at*
   have hor:=uk (x.toNat*256) y.toNat (by omega) (by omega)
   rw[or8 lj hby,←afT]at hor
   have w0:IntKind.i64.wrap ((x.toNat:Nat):Int)=x.toNat:=wrap_i64 (by omega)
   have w1:IntKind.i64.wrap ((y.toNat:Nat):Int)=y.toNat:=wrap_i64 (by omega)
   have w2:IntKind.i64.wrap (2*(i:Int))=2*(i:Int):=wrap_i64 (by omega)
   have w3:IntKind.i64.wrap (2*(i:Int)+1)=2*(i:Int)+1:=wrap_i64 (by omega)
   have t2:(2*(i:Int)).toNat=2*i:=by omega
   have t3:(2*(i:Int)+1).toNat=2*i+1:=by omega
   have hi8:(i:Int)<8:=by omega
   have b2:2*(i:Int)<16:=by omega
   have b3:2*(i:Int)+1<16:=by omega
   have b4:(0:Int)≤2*(i:Int):=by omega
   have b5:(0:Int)≤2*(i:Int)+1:=by omega
   have Ks:IntKind.i64.wrap ((x.toNat:Int)*2^min 8 IntKind.i64.bits)=((x.toNat*256:Nat):Int):=by
    rw[show min 8 IntKind.i64.bits=8 from rfl,wrap_i64 (by omega)];omega
   simp[↓an,hi8,w0,w1,w2,w3,t2,t3,b2,b3,b4,b5,hx,hy,u8,-getElem?_pos]
   rw[Ks,hor]
   refine aU.ret hF (by simp) (by simp) (by simp) ?_
   have wi:IntKind.i64.wrap ((i:Int)+1)=(i:Int)+1:=wrap_i64 (by omega)
   simp[hl,wi]
   refine⟨⟨by omega,by omega⟩,[.keep [1,2,3,11]],?_⟩
   simp
   exact hK _ (by simp)
  ·have hl:=DB a 8
   have hle:=(Nk a).2
   have hj:=T3 (rest:=[.str [58]]) (aet (xs:=IA a 8) (sep:=[58]) (λh=>by rw[h]at hl;simp at hl) (by omega) (by unfold J7 at hle;omega) false) (by omega) (λx hx=>by
    obtain⟨y,_,rfl⟩:=List.mem_map.1 hx;rfl) ((nL _).refs _) (by simp[ae,ab]) (by simp[lN,oz]) (by simp)
   simp only[List.length_map,hl]at hj
   simp[↓an]
   refine al.gen [3] [] [.arr 1 ((IA a 8).map PV.str)] hj (by simp[getAll]) (by simp) (by simp) (by simp[ae,ab,bS,idx]) (by simp[ah,(nL (IA a 8)).refs]) (by simp[aO,az,bE,idx]) (by simp[aM,(nL (IA a 8)).az]) (by simp[ah,ab,(nL (IA a 8)).refs]) ?_
   simp[bB,aM,az,fu,(nL (IA a 8)).az]
   refine aC.plain [] ?_
   simp[J7]
end Go.Ab
end W10s
noncomputable section W11s
namespace Go.Ab
open Go.Ab
def gs (u:Nat):Nat->List UInt8
 |0=>[]
 |i+1=>dg u i::gs u i
theorem AQ (u:Nat):∀i,(gs u i).length=i
 |0=>rfl
 |i+1=>by simp[gs,AQ u i]
theorem Xi {u i:Nat} (h1:1≤i) (h:i<jU u+1):0<qt u i:=by
 obtain⟨j,rfl⟩:∃j,i=j+1:=⟨i-1,by omega⟩
 have:=Ix (u:=u) (i:=j) (by omega)
 unfold qt at this⊢
 rw[Nat.pow_succ,←Nat.div_div_eq_div_mul];omega
theorem aeC (u i:Nat):qt u (i+1)=qt u i/16:=by unfold qt;rw[Nat.pow_succ,←Nat.div_div_eq_div_mul]
theorem Xj {u:Nat} (h:u<65536):qt u (jU u+1)=0:=by
 have:=Iy h
 rw[aeC];omega
theorem aku (u:Nat):qt u 0=u:=by simp[qt]
theorem akv:∀m:Fin 16,List.drop m.val (48::List.take m.val ([49,50,51,52,53,54,55,56,57,97,98,99,100,101,102]:List UInt8))=[G4.getD m.val 0]:=by decide
theorem Xk {u:Nat} (hu:u<65536):a8 Pg I.fm [.int .i64 u] (.str (gs u (jU u+1))):=by
 refine af.intro T.fm (by simp[F.fm]) ?_
 simp[F.fm,ai,aG]
 have h3:=rI u
 refine gR.iw (jU u+1) (λ_=>True) [0,2,3] (λi=>[(0,.int .i64 (qt u i:Int)),(3,.str (gs u i))]) (λi=>[]) [.keep [0,2,3]] ?_
 simp[aku,show gs u 0=[] from rfl]
 refine⟨λi hi K hK=> ?_,λK=> ?_⟩
 ·have hle:qt u i<65536:=Nat.lt_of_le_of_lt (Nat.div_le_self _ _) hu
  have hlen:=AQ u i
  have hp:1≤i->0<qt u i:=λh=>Xi h hi
  have hq:=aeC u i
  have hg:gs u (i+1)=dg u i::gs u i:=rfl
  rw[hg,hq]at hK
  have hd:dg u i=G4.getD (qt u i%16) 0:=rfl
  rw[hd]at hK
  have hgn:i=0->gs u i=[]:=by rintro rfl;rfl
  generalize gs u i=s at*
  generalize qt u i=x at*
  have ht:=akv ⟨x%16,Nat.mod_lt x (by omega)⟩
  simp only at ht
  obtain⟨m,hm⟩:∃m,m=x%16:=⟨_,rfl⟩
  rw[←hm]at ht hK
  have apF:m<16:=by rw[hm];exact Nat.mod_lt x (by omega)
  have Hl:(x:Int).tmod 16=(m:Int):=by rw[show(16:Int)=((16:Nat):Int) from rfl,←Int.ofNat_tmod,hm]
  have hdiv:IntKind.i64.wrap ((x:Int).tdiv 16)=((x/16:Nat):Int):=by
   rw[show(16:Int)=((16:Nat):Int) from rfl,←Int.ofNat_tdiv];exact wrap_i64 (by omega)
  have Un:IntKind.i64.wrap ((x:Int)/16)=((x/16:Nat):Int):=by
   rw[show(x:Int)/16=((x/16:Nat):Int) by omega];exact wrap_i64 (by omega)
  have w1:IntKind.i64.wrap ((m:Int)+1)=(m:Int)+1:=wrap_i64 (by omega)
  have t1:((m:Int)+1).toNat-m=1:=by omega
  have b1:(m:Int)+1≤16:=by omega
  generalize G4.getD m 0=c at*
  generalize hz:x/16=z at*
  have pv:min m 15+1-m=1:=by omega
  by_cases hx:0<x
  ·have BK:¬x=0:=by omega
   simp[↓an,hx,BK,Hl,w1,hdiv,Un,b1,ht,pv,-Int.natCast_ediv,-Int.natCast_emod]
   refine⟨by omega,by omega,by omega,[.keep [0,2,3]],?_⟩
   simp
   exact hK _ (by simp)
  ·have hx0:x=0:=by omega
   have hi0:i=0:=by
    rcases Nat.eq_zero_or_pos i with h|h
    ·exact h
    ·exact absurd (hp h) hx
   have hs:=hgn hi0
   subst hs
   simp[↓an,hx,Hl,w1,hdiv,Un,b1,ht,pv,-Int.natCast_ediv,-Int.natCast_emod]
   refine⟨by omega,by omega,[.keep [0,2,3]],?_⟩
   simp
   exact hK _ (by simp)
 ·have he:=Xj hu
  have hlen:=AQ u (jU u+1)
  generalize qt u (jU u+1)=x at*
  subst he
  have dF:¬gs u (jU u+1)=[]:=by intro e;rw[e]at hlen;simp at hlen
  simp[↓an,dF]
  refine aC.plain [] ?_
  simp
def gx (a:iO):Nat->List UInt8
 |0=>[]
 |n+1=>gx a n++([58]++gs (Ax a n) (jU (Ax a n)+1))
theorem DC (a:iO):∀n,(gx a n).length≤5*n∧(1≤n->2≤(gx a n).length)
 |0=>by simp[gx]
 |
  n+1=>by
  have h:=(DC a n).1
  have h3:=rI (Ax a n)
  simp[gx,AQ];omega
theorem Fy (a:iO):a8 Pg I.dh [ft a] (.str (if jB a=true then(if a.na=true then(gx a 8).drop 1 else(AH a 4).drop 1)else [])):=by
 refine af.intro T.dh (by simp[F.dh]) ?_
 simp[F.dh,ai,aG]
 refine al.ret (M9 a) (by simp) (by simp) (by simp) ?_
 cases hs:jB a
 ·simp
  refine aC.plain [] ?_
  simp
 cases h6:a.na
 ·simp[h6]
  refine gR.iw 4 (λ_=>True) [1,2,3,4] (λi=>[(3,.str (AH a i)),(4,.int .i64 i)]) (λi=>[]) [.keep [1,2,3,4]] ?_
  simp[show AH a 0=[] from rfl]
  refine⟨λi hi K hK=> ?_,λK=> ?_⟩
  ·have nq:i<a.ip.length:=by rw[a.h];omega
   have hx:a.ip[i]? =some a.ip[i]:=gJ nq
   have hb:=(a.ip[i]).toNat_lt
   have hw:IntKind.i64.wrap ((a.ip[i]).toNat:Int)=((a.ip[i]).toNat:Int):=wrap_i64 (by omega)
   have hi4:(i:Int)<4:=by omega
   have hl:=Dg a i
   have qU:=qO 2 (a.ip[i]).toNat
   rw[JV a hx]at hK
   have NN:(i:Int)<16:=by omega
   simp[↓an,hi,hi4,NN,hx,u8,hw,om hi (by omega)]
   refine al.ret (Il 2 (a.ip[i]).toNat (by omega) (by omega) (by omega)) (by simp) (by simp) (by simp) ?_
   simp[hw,om hi (by omega)]
   refine⟨by omega,by omega,[.keep [1,2,3,4]],?_⟩
   simp
   exact hK _ (by simp)
  ·have hl:=Dg a 4
   have hp:=Ff a
   simp[↓an]
   refine⟨by omega,?_⟩
   refine aC.plain [] ?_
   simp
 ·simp[h6,↓an]
  refine gR.iw 8 (λ_=>True) [1,2,3,5] (λi=>[(3,.str (gx a i)),(5,.int .i64 i)]) (λi=>[]) [.keep [1,2,3,5]] ?_
  simp[show gx a 0=[] from rfl]
  refine⟨λi hi K hK=> ?_,λK=> ?_⟩
  ·have hx:=a.Dl (i:=2*i) (by omega)
   have hy:=a.Dl (i:=2*i+1) (by omega)
   have lj:=(a.jc (2*i)).toNat_lt
   have hby:=(a.jc (2*i+1)).toNat_lt
   have hF:=Xk (Nh a i)
   have afT:Ax a i=(a.jc (2*i)).toNat*256+(a.jc (2*i+1)).toNat:=rfl
   have hl:=(DC a i).1
   have h3:=rI (Ax a i)
   have hgl:=AQ (Ax a i) (jU (Ax a i)+1)
   rw[show gx a (i+1)=gx a i++([58]++gs (Ax a i) (jU (Ax a i)+1)) from rfl]at hK
   generalize gs (Ax a i) (jU (Ax a i)+1)=T at*
   generalize gx a i=s at*
   generalize jU (Ax a i)=q at*
   generalize Ax a i=W at*
   generalize a.jc (2*i)=x at*
   generalize a.jc (2*i+1)=y at*
   have w0:IntKind.i64.wrap ((x.toNat:Nat):Int)=x.toNat:=wrap_i64 (by omega)
   have w1:IntKind.i64.wrap ((y.toNat:Nat):Int)=y.toNat:=wrap_i64 (by omega)
   have w2:IntKind.i64.wrap (2*(i:Int))=2*(i:Int):=wrap_i64 (by omega)
   have w3:IntKind.i64.wrap (2*(i:Int)+1)=2*(i:Int)+1:=wrap_i64 (by omega)
   have t2:(2*(i:Int)).toNat=2*i:=by omega
   have t3:(2*(i:Int)+1).toNat=2*i+1:=by omega
   have hi8:(i:Int)<8:=by omega
   have b2:2*(i:Int)<16:=by omega
   have b3:2*(i:Int)+1<16:=by omega
   have b4:(0:Int)≤2*(i:Int):=by omega
   have b5:(0:Int)≤2*(i:Int)+1:=by omega
   have wi:IntKind.i64.wrap ((i:Int)+1)=(i:Int)+1:=wrap_i64 (by omega)
   have Ks:IntKind.i64.wrap ((x.toNat:Int)*2^min 8 IntKind.i64.bits)=((x.toNat*256:Nat):Int):=by
    rw[show min 8 IntKind.i64.bits=8 from rfl,wrap_i64 (by omega)];omega
   have had:IntKind.i64.wrap (((x.toNat*256:Nat):Int)+(y.toNat:Int))=(W:Int):=by
    rw[wrap_i64 (by omega)];omega
   simp[↓an,hi8,w0,w1,w2,w3,t2,t3,b2,b3,b4,b5,hx,hy,u8,-getElem?_pos]
   rw[Ks,had]
   refine aU.ret hF (by simp) (by simp) (by simp) ?_
   simp[wi]
   refine⟨by omega,by omega,[.keep [1,2,3,5]],?_⟩
   simp
   exact hK _ (by simp)
  ·have hl:=DC a 8
   have qU:=hl.2 (by omega)
   simp[↓an]
   refine⟨by omega,?_⟩
   refine aC.plain [] ?_
   simp
def MS (e:Bo):Bool:=jB e.addr&&decide (1≤e.port)&&decide (e.port≤65535)
theorem IC {a:iO} {l m:List UInt8} (hl:1≤l.length∧l.length≤1000) (hm:1≤m.length∧m.length≤1000):(if jB a=true then(if a.na=true then l else m)else []).length≤1000∧((if jB a=true then(if a.na=true then l else m)else [])=[]↔jB a=false):=by
 cases jB a
 ·simp
 ·cases a.na
  ·simp;exact⟨hm.2,by intro e;rw[e]at hm;simp at hm⟩
  ·simp;exact⟨hl.2,by intro e;rw[e]at hl;simp at hl⟩
theorem ym (e:Bo):∃l,(l=[]↔MS e=false)∧a8 Pg I.aR [jR e] (.str l):=by
 have hA:=Fx e.addr
 obtain⟨hl,hz⟩:=IC (a:=e.addr) (Nk e.addr) (Nl e.addr)
 generalize (if jB e.addr=true then _ else _:List UInt8)=m at*
 have hr:MS e=(jB e.addr&&decide (1≤e.port)&&decide (e.port≤65535)):=rfl
 by_cases h1:m=[]
 ·have h2:=hz.1 h1
  refine⟨[],by simp[hr,h2],?_⟩
  refine af.intro T.aR (by simp[F.aR]) ?_
  simp[F.aR,ai,aG]
  refine al.ret hA (by simp) (by simp) (by simp) ?_
  simp[h1]
  refine aC.plain [] ?_
  simp
 have hs:jB e.addr=true:=by
  cases h:jB e.addr
  ·exact absurd (hz.2 h) h1
  ·rfl
 by_cases h2:e.port<1
 ·refine⟨[],by simp[hr,show¬1≤e.port by omega],?_⟩
  refine af.intro T.aR (by simp[F.aR]) ?_
  simp[F.aR,ai,aG]
  refine al.ret hA (by simp) (by simp) (by simp) ?_
  simp[h1,h2]
  refine aC.plain [] ?_
  simp
 by_cases h3:65535<e.port
 ·refine⟨[],by simp[hr,show¬e.port≤65535 by omega],?_⟩
  refine af.intro T.aR (by simp[F.aR]) ?_
  simp[F.aR,ai,aG]
  refine al.ret hA (by simp) (by simp) (by simp) ?_
  simp[h1,h2,h3]
  refine aC.plain [] ?_
  simp
 have dF:MS e=true:=by simp[hr,hs,show 1≤e.port by omega,show e.port≤65535 by omega]
 have xY:=Lib.itoa_length_le e.port (by omega) (by omega)
 generalize Hc:Lib.itoa e.port=num at*
 cases h6:e.addr.na
 ·refine⟨m++[58]++num,by simp[dF],?_⟩
  refine af.intro T.aR (by simp[F.aR]) ?_
  simp[F.aR,ai,aG]
  refine al.ret hA (by simp) (by simp) (by simp) ?_
  simp[h1,h2,h3,h6]
  refine⟨by omega,?_⟩
  refine al.ret (Xb (n:=e.port) (by omega) (by omega)) (by simp) (by simp) (by simp) ?_
  simp[Hc]
  refine⟨by omega,?_⟩
  refine aC.plain [] ?_
  simp
 ·refine⟨[91]++m++[93]++[58]++num,by simp[dF],?_⟩
  refine af.intro T.aR (by simp[F.aR]) ?_
  simp[F.aR,ai,aG]
  refine al.ret hA (by simp) (by simp) (by simp) ?_
  simp[h1,h2,h3,h6]
  refine⟨by omega,by omega,by omega,?_⟩
  refine al.ret (Xb (n:=e.port) (by omega) (by omega)) (by simp) (by simp) (by simp) ?_
  simp[Hc]
  refine⟨by omega,?_⟩
  refine aC.plain [] ?_
  simp
theorem yn (e:Bo):∃l,(l=[]↔MS e=false)∧a8 Pg I.aF [jR e] (.str l):=by
 have hA:=Fy e.addr
 obtain⟨hl,hz⟩:=IC (a:=e.addr) (l:=(gx e.addr 8).drop 1) (m:=(AH e.addr 4).drop 1) (by have:=DC e.addr 8;have h2:=this.2 (by omega);rw[List.length_drop];omega) (by have:=Dg e.addr 4;have:=Ff e.addr;rw[List.length_drop];omega)
 generalize (if jB e.addr=true then _ else _:List UInt8)=m at*
 have hr:MS e=(jB e.addr&&decide (1≤e.port)&&decide (e.port≤65535)):=rfl
 by_cases h1:m=[]
 ·have h2:=hz.1 h1
  refine⟨[],by simp[hr,h2],?_⟩
  refine af.intro T.aF (by simp[F.aF]) ?_
  simp[F.aF,ai,aG]
  refine al.ret hA (by simp) (by simp) (by simp) ?_
  simp[h1]
  refine aC.plain [] ?_
  simp
 have hs:jB e.addr=true:=by
  cases h:jB e.addr
  ·exact absurd (hz.2 h) h1
  ·rfl
 by_cases h2:e.port<1
 ·refine⟨[],by simp[hr,show¬1≤e.port by omega],?_⟩
  refine af.intro T.aF (by simp[F.aF]) ?_
  simp[F.aF,ai,aG]
  refine al.ret hA (by simp) (by simp) (by simp) ?_
  simp[h1,h2]
  refine aC.plain [] ?_
  simp
 by_cases h3:65535<e.port
 ·refine⟨[],by simp[hr,show¬e.port≤65535 by omega],?_⟩
  refine af.intro T.aF (by simp[F.aF]) ?_
  simp[F.aF,ai,aG]
  refine al.ret hA (by simp) (by simp) (by simp) ?_
  simp[h1,h2,h3]
  refine aC.plain [] ?_
  simp
 have dF:MS e=true:=by simp[hr,hs,show 1≤e.port by omega,show e.port≤65535 by omega]
 have xY:=(qO 4 e.port.toNat).2
 have Yg:=Il 4 e.port.toNat (by omega) (by omega) (by omega)
 rw[show((e.port.toNat:Nat):Int)=e.port by omega]at Yg
 generalize Hc:yk 4 e.port.toNat=num at*
 cases h6:e.addr.na
 ·refine⟨m++[58]++num,by simp[dF],?_⟩
  refine af.intro T.aF (by simp[F.aF]) ?_
  simp[F.aF,ai,aG]
  refine al.ret hA (by simp) (by simp) (by simp) ?_
  simp[h1,h2,h3,h6]
  refine⟨by omega,?_⟩
  refine al.ret Yg (by simp) (by simp) (by simp) ?_
  simp[Hc]
  refine⟨by omega,?_⟩
  refine aC.plain [] ?_
  simp
 ·refine⟨[91]++m++[93]++[58]++num,by simp[dF],?_⟩
  refine af.intro T.aF (by simp[F.aF]) ?_
  simp[F.aF,ai,aG]
  refine al.ret hA (by simp) (by simp) (by simp) ?_
  simp[h1,h2,h3,h6]
  refine⟨by omega,by omega,by omega,?_⟩
  refine al.ret Yg (by simp) (by simp) (by simp) ?_
  simp[Hc]
  refine⟨by omega,?_⟩
  refine aC.plain [] ?_
  simp
end Go.Ab
end W11s
noncomputable section W12s
namespace Go.Ab
open Go.Ab
def rbN (l:List UInt8):Nat:=l.foldl (λn x=>n*256+x.toNat) 0
theorem u64_or_nat (a b:Nat) (ha:a<18446744073709551616) (hb:b<18446744073709551616):bits .or .u64 (a:Int) (b:Int)=((a|||b:Nat):Int):=by
 have hx:a|||b<2^64:=Nat.or_lt_two_pow (by omega) (by omega)
 have h1:(BitVec.ofInt 64 (a:Int)).toNat=a:=by
  rw[BitVec.ofInt_natCast,BitVec.toNat_ofNat];exact Nat.mod_eq_of_lt (by omega)
 have h2:(BitVec.ofInt 64 (b:Int)).toNat=b:=by
  rw[BitVec.ofInt_natCast,BitVec.toNat_ofNat];exact Nat.mod_eq_of_lt (by omega)
 show IntKind.u64.wrap ((BitVec.ofInt 64 (a:Int)|||BitVec.ofInt 64 (b:Int)).toNat:Int)=_
 rw[BitVec.toNat_or,h1,h2]
 exact wrap_u64 (by omega)
def RG (b:List UInt8):Prop:=1≤b.length∧b.length≤2000∧
 (((b.getD 0 0).toNat/16=4∧20≤b.length∧5≤(b.getD 0 0).toNat%16∧4*((b.getD 0 0).toNat%16)≤rbN ((b.take 4).drop 2)∧rbN ((b.take 4).drop 2)=b.length)∨
  ((b.getD 0 0).toNat/16=6∧40≤b.length∧40+rbN ((b.take 6).drop 4)=b.length))
def J9 (b:List UInt8) (r:PV):Prop:=∃(x y:iO) (L e:Int),r= .tup [.st 35 [ft x,ft y,.int .i64 L],.int .i64 e]∧((e=0∧L=b.length)↔RG b)
theorem J9.bad {b:List UInt8} {e:Int} (he:e≠0) (h:¬RG b):J9 b (.tup [.st 35 [.st 17 [.bl false,.ar 1 16 (zr 16 (.int .u8 0))],.st 17 [.bl false,.ar 1 16 (zr 16 (.int .u8 0))],.int .i64 0],.int .i64 e]):=by
 refine⟨QW,QW,0,e,?_,⟨λg=>absurd g.1 he,λg=>absurd g h⟩⟩
 rw[show ft QW= .st 17 [.bl false,.ar 1 16 (zr 16 (.int .u8 0))] by rw[iq];rfl]
theorem hi4:∀b:Fin 256,(b.val:Int).fdiv (2^min 4 IntKind.u8.bits)=((b.val/16:Nat):Int):=by decide+kernel
end Go.Ab
end W12s
noncomputable section W13s
namespace Go.Ab
open Go.Ab
end Go.Ab
end W13s
noncomputable section W14s
namespace Go.Ab
open Go.Ab
def mP:dD->List Nat->dD
 | .seq x y,[]=> .seqm x y
 | .seq x y,0::p=> .seq (mP x p) y
 | .seq x y,_::p=> .seq x (mP y p)
 | .seqm x y,0::p=> .seqm (mP x p) y
 | .seqm x y,_::p=> .seqm x (mP y p)
 | .block i x,p=> .block i (mP x p)
 | .cond c x y,0::p=> .cond c (mP x p) y
 | .cond c x y,_::p=> .cond c x (mP y p)
 |c,_=>c
theorem aeD:∀(c:dD) (p:List Nat),erase (mP c p)=erase c:=by
 intro c
 induction c with
 |seq x y hx hy=>intro p;match p with|[]=>rfl|0::p=>simp[mP,erase,hx]|(n+1)::p=>simp[mP,erase,hy]
 |seqm x y hx hy=>intro p;match p with|[]=>rfl|0::p=>simp[mP,erase,hx]|(n+1)::p=>simp[mP,erase,hy]
 |block i x hx=>intro p;simp[mP,erase,hx]
 |cond c x y hx hy=>intro p;match p with|[]=>rfl|0::p=>simp[mP,erase,hx]|(n+1)::p=>simp[mP,erase,hy]
 |_=>intro p;rfl
theorem Iq {own sp:List Nat} {f:FuncId} {A:aY} (p:List Nat) (h:kL Pg own sp f=some A.er):kL Pg own sp f=some (aY.er ⟨A.nt,A.res,mP A.code p⟩):=by
 rw[h];simp only[aY.er,aeD]
theorem N0.of {P:Program} {s:St} {x y:dD} {Q:Exit->St->Prop} {t:Tg (x,y,Q)} (M:St->Prop) (h1:aw P x (th Q λs'=>∃c:List Cut,gQ c s' M) s) (h2:∀s',M s'->aw P y Q s'):N0 P x y Q t s:=⟨M,h1,h2⟩
def Nn (b:List UInt8):Bool:=by classical exact decide (RG b)
theorem No {b:List UInt8}:Nn b=true↔RG b:=by unfold Nn;simp
theorem J9.pure {b:List UInt8} {r:PV} (h:J9 b r):Pure r:=by
 obtain⟨x,y,L,e,rfl,_⟩:=h;simp
theorem J9.get {b:List UInt8} {r:PV} (h:J9 b r):∃(x y:iO) (L e:Int),r= .tup [.st 35 [ft x,ft y,.int .i64 L],.int .i64 e]∧Nn b=(decide (e=0)&&decide (L=b.length)):=by
 obtain⟨x,y,L,e,h1,h2⟩:=h
 refine⟨x,y,L,e,h1,?_⟩
 cases h3:Nn b
 ·have h4:¬(e=0∧L=b.length):=λg=>by rw[No.2 (h2.1 g)]at h3;cases h3
  symm;simpa using h4
 ·have h4:=h2.2 (No.1 h3)
  simp[h4.1,h4.2]
def G1 (n:Int):Bool:=decide (n=0)||qm n 1000 1073741824
theorem WQ (n:Int):a8 Pg I.dS [.int .i64 n] (.bl (G1 n)):=by
 refine af.intro T.dS (by simp[F.dS]) ?_
 by_cases h0:n=0
 ·simp[F.dS,ai,aG,h0]
  refine aC.plain [] ?_
  simp[G1,h0]
 ·by_cases h1:1000≤n
  ·simp[F.dS,ai,aG,h0,h1]
   refine aC.plain [] ?_
   simp[G1,h0,qm,h1]
  ·simp[F.dS,ai,aG,h0,h1]
   refine aC.plain [] ?_
   simp[G1,h0,qm,h1]
def akx (p:jy):Bool:=if p.nm=true then MS p.ep else PV.beq (jR p.ep) (jR Br)
def aky (d:gU) (p:jy):Bool:=qm p.JD 0 d.now&&(p.HR||decide (p.JD=0))
def akz (d:gU) (p:jy):Bool:=qm p.JE 0 d.now&&(p.HS||(decide (p.JE=0)&&PV.beq p.Mb.p zTg.p))
def Xl (d:gU) (p:jy):Bool:=akx p&&G1 p.kY&&aky d p&&akz d p&&decide ((p.mR.length:Int)≤d.rules.lq)&&p.mR.all Nn
def r3 (d:gU):Bool:=d.aj.all (Xl d)
end Go.Ab
end W14s
noncomputable section W15s
namespace Go.Ab
open Go.Ab
end Go.Ab
end W15s
noncomputable section W16s
namespace Go.Ab
open Go.Ab
theorem Dp {va vb:PV} {pa pb:List Step} {la lb:List UInt8} {n:Nat} (ha:aX va pa=some (.ar 1 n (la.map u8))) (hb:aX vb pb=some (.ar 1 n (lb.map u8))) (ea:la.length=n) (eb:lb.length=n):
  af Pg I.lP [.rs KB pa 0 n 0 1 .clip,.rs (KB+1) pb 0 n 0 1 .clip] [.box va,.box vb] (λr fp=>r= .int .i64 (uo la lb)∧fp=[.box va,.box vb]):=by
 have ta:(la.map u8).take n=la.map u8:=tJ (by simp[ea])
 have tb:(lb.map u8).take n=lb.map u8:=tJ (by simp[eb])
 have h:=af.view (args:=[.rs KB pa 0 n 0 1 .clip,.rs (KB+1) pb 0 n 0 1 .clip]) (fp:=[.box va,.box vb]) (Compare la lb false false)
  ⟨.inl (.inr ⟨KB,pa,0,n,0,1,.clip,la.map u8,rfl,by simp[content,get,aG,ha,ta],(aS (λx=>by simp[u8]) la).refs _,by omega,rfl⟩),
   .inl (.inr ⟨KB+1,pb,0,n,0,1,.clip,lb.map u8,rfl,by simp[content,get,aG,hb,tb],(aS (λx=>by simp[u8]) lb).refs _,by omega,rfl⟩),trivial⟩ (λr new e=>by
  obtain⟨rfl,rfl⟩:=e
  exact⟨rfl,rfl⟩)
 refine h.mono ?_
 rintro r rR ⟨r0,new,⟨rfl,rfl⟩,rfl,rfl⟩
 exact⟨by simp[az],by simp⟩
def AR (a b:iO):Bool:=if a.na=b.na then Op.bytesLess a.ip b.ip else b.na
theorem aeE (a b:iO):a8 Pg I.jC [ft a,ft b] (.bl (AR a b)):=by
 refine af.intro T.jC (by simp[F.jC]) ?_
 have hv:=Dp (va:=ft a) (vb:=ft b) (pa:=[.f 1 1]) (pb:=[.f 1 1]) (la:=a.ip) (lb:=b.ip) (n:=16) (by simp) (by simp) a.h b.h
 by_cases h:a.na=b.na
 ·simp[F.jC,ai,aG,h]
  refine al.gen [2,3] [] [.box (ft a),.box (ft b)] hv (by simp[getAll]) (by simp) (by simp) (by simp[ae,ab,bS,idx]) (by simp[ah,(jQ a).refs,(jQ b).refs]) (by simp[aO,az,bE,idx]) (by simp[aM,(jQ a).az,(jQ b).az]) (by simp[ah,ab,(jQ a).refs,(jQ b).refs]) ?_
  simp[bB,aM,az,fu,(jQ a).az,(jQ b).az]
  refine aC.plain [] ?_
  simp[AR,h,Dq]
 ·simp[F.jC,ai,aG,h]
  refine aC.plain [] ?_
  simp[AR,h]
theorem aeF (a b:iO):a8 Pg I.eW [ft a,ft b] (.bl (AR a b)):=by
 refine af.intro T.eW (by simp[F.eW]) ?_
 have t1:(a.ip.map u8).take 16=a.ip.map u8:=tJ (by simp[a.h])
 have t2:(b.ip.map u8).take 16=b.ip.map u8:=tJ (by simp[b.h])
 by_cases h:a.na=b.na
 ·simp[F.eW,ai,aG,h,t1,t2]
  refine aC.plain [] ?_
  simp[AR,h]
 ·simp[F.eW,ai,aG,h]
  refine aC.plain [] ?_
  simp[AR,h]
  cases h1:a.na<;>cases h2:b.na<;>simp_all
def oo (p q:lr):Bool:=if PV.beq (ft p.addr) (ft q.addr)=true then decide (p.bits<q.bits)else AR p.addr q.addr
theorem aee (p q:lr):a8 Pg I.iI [dX p,dX q] (.bl (oo p q)):=by
 refine af.intro T.iI (by simp[F.iI]) ?_
 have f1:=te p.addr
 have f2:=te q.addr
 cases h:PV.beq (ft p.addr) (ft q.addr)
 ·simp[F.iI,ai,aG,h,f1,f2]
  refine al.ret (aeE p.addr q.addr) (by simp) (by simp) (by simp) ?_
  simp
  refine aC.plain [] ?_
  simp[oo,h]
 ·simp[F.iI,ai,aG,h,f1,f2]
  refine aC.plain [] ?_
  simp[oo,h]
theorem Is (p q:lr):a8 Pg I.dV [dX p,dX q] (.bl (oo p q)):=by
 refine af.intro T.dV (by simp[F.dV]) ?_
 have f1:=te p.addr
 have f2:=te q.addr
 cases h:PV.beq (ft p.addr) (ft q.addr)
 ·simp[F.dV,ai,aG,h,f1,f2]
  refine al.ret (aeF p.addr q.addr) (by simp) (by simp) (by simp) ?_
  simp
  refine aC.plain [] ?_
  simp[oo,h]
 ·simp[F.dV,ai,aG,h,f1,f2]
  refine aC.plain [] ?_
  simp[oo,h]
def akA (l:List kX) (i:Nat):Bool:=match l[i]?with
 |none=>false
 |
  some r=> !nh r.s6||(match i with
  |0=>false
  |
   j+1=>match l[j]?with
   |none=>false
   |some q=> !oo q.s6 r.s6)
def akB (l:List kX):Bool:=decide (fst (akA l) l.length=l.length)&&decide ((l.length:Int)≤16)
end Go.Ab
end W16s
noncomputable section W17s
namespace Go.Ab
open Go.Ab
def isP (k:Key) (p:jy):Bool:=decide (p.eK=k)
def Xm (d:gU) (k:Key):Bool:=d.aj.any (isP k)
def r6 (d:gU):Bool:=akB d.gL&&d.gL.all λr=>Xm d r.peer
end Go.Ab
end W17s
noncomputable section S3s
namespace Go.Ab
open Go.Ab
variable {P:Program} {s:St}
@[simp] theorem aeG:PV.nf.width=1:=rfl
end Go.Ab
end S3s
noncomputable section S4s
namespace Go.Ab
open Go.Ab
theorem RH (l:List UInt8) (i:Nat):(⟨l.toArray⟩:ByteArray)[i]! =l[i]! :=by
 by_cases h:i<l.length
 ·have h2:i<(⟨l.toArray⟩:ByteArray).size:=h
  rw[getElem!_pos (⟨l.toArray⟩:ByteArray) i h2,getElem!_pos l i h];rfl
 ·have h2:¬i<(⟨l.toArray⟩:ByteArray).size:=h
  rw[getElem!_neg (⟨l.toArray⟩:ByteArray) i h2,getElem!_neg l i h]
def By:List UInt8->List UInt8->Int
 |x::a,y::b=>if x=y then By a b else if x<y then-1 else 1
 |[],_::_=> -1
 |_::_,[]=>1
 |[],[]=>0
def Np (a b:List UInt8):Int:=
 match(List.range (min a.length b.length)).find? λi=>a[i]! !=b[i]! with
 |some i=>if a[i]! <b[i]! then-1 else 1
 |none=>if a.length<b.length then-1 else if a.length>b.length then 1 else 0
theorem ID:∀a b:List UInt8,Np a b=By a b
 |[],[]=>rfl
 |[],y::b=>by simp[Np,By]
 |x::a,[]=>by simp[Np,By]
 |
  x::a,y::b=>by
  have ih:=ID a b
  unfold Np at ih⊢
  have e:min (x::a).length (y::b).length=min a.length b.length+1:=by simp only[List.length_cons];omega
  rw[e,List.range_succ_eq_map,List.find?_cons]
  by_cases Hb:x=y
  ·subst Hb
   simp only[By,if_true]
   rw[←ih]
   have h0:((x::a)[0]! !=(x::b)[0]!)=false:=by simp
   rw[h0]
   simp only[List.find?_map]
   have e2:((λi=>(x::a)[i]! !=(x::b)[i]!)∘Nat.succ)=λi=>a[i]! !=b[i]! :=by
    funext i;simp
   rw[e2]
   cases(List.range (min a.length b.length)).find? (λi=>a[i]! !=b[i]!)with
   |none=>simp
   |some i=>simp
  ·have h0:((x::a)[0]! !=(y::b)[0]!)=true:=by simpa using Hb
   rw[h0]
   simp[By,Hb]
theorem Nq (a b:List UInt8):uo a b=By a b:=by
 rw[←ID]
 unfold uo Go.Extern.BytealgCompare.cmp Np
 simp only[RH]
 rfl
theorem IE:∀a b:List UInt8,a.length=b.length->By a b=if a=b then 0 else if Op.bytesLess a b=true then-1 else 1
 |[],[],_=>rfl
 |[],_::_,h=>by simp at h
 |_::_,[],h=>by simp at h
 |
  x::a,y::b,h=>by
  have ih:=IE a b (by simpa using h)
  by_cases Hb:x=y
  ·subst Hb
   have eu:¬x<x:=UInt8.lt_irrefl x
   simp only[By,if_true,ih,Op.bytesLess,List.cons.injEq,true_and]
   simp[eu]
  ·have:¬(x::a=y::b):=λe=>Hb (by cases e;rfl)
   simp only[By,if_neg Hb,if_neg this,Op.bytesLess]
   have hb:(x==y)=false:=by simpa using Hb
   simp[hb]
theorem akC (a b:Key):uo a.l b.l=if a=b then 0 else if xR a b=true then-1 else 1:=by
 rw[Nq,IE _ _ (by rw[a.h,b.h])]
 by_cases h:a=b
 ·subst h;simp
 ·have:¬a.l=b.l:=λe=>h (Key.ext' e)
  rw[if_neg h,if_neg this];rfl
theorem wof (t:gZ) (k:Key) (n:Int):a8 Pg I.pn [.st 34 [bT t],aW k,.int .i64 n] (.bl (!qN k n t)):=by
 refine af.intro T.gY (by simp[F.gY]) ?_
 by_cases h1:t.peer=k
 ·by_cases h2:t.kind=n
  ·simp[F.gY,ai,aG,tH,h1,h2,av]
   refine aC.plain [] ?_
   simp[qN,h1,h2]
  ·simp[F.gY,ai,aG,tH,h1,h2,av]
   refine aC.plain [] ?_
   simp[qN,h1,h2]
 ·simp[F.gY,ai,aG,tH,h1,av]
  refine aC.plain [] ?_
  simp[qN,h1]
theorem RI (a b:gZ):a8 Pg I.mb [.st 34 [bT a],.st 34 [bT b]] (.bl (gT a b)):=by
 refine af.intro T.gl (by simp[F.gl]) ?_
 have g1:aX (.st 34 [bT a]) [.f 0 0,.f 1 1]=some (.ar 1 32 (a.peer.l.map u8)):=by simp[av,aW]
 have g2:aX (.st 34 [bT b]) [.f 0 0,.f 1 1]=some (.ar 1 32 (b.peer.l.map u8)):=by simp[av,aW]
 have hv:=Dp g1 g2 a.peer.h b.peer.h
 have p1:Pure (.st 34 [bT a]):=by simp
 have p2:Pure (.st 34 [bT b]):=by simp
 rw[akC]at hv
 by_cases h1:a.at_=b.at_
 ·simp[F.gl,ai,aG,av,h1]
  refine al.gen [2,3] [] [.box (.st 34 [bT a]),.box (.st 34 [bT b])] hv (by simp[getAll]) (by simp) (by simp) (by simp[ae,ab,bS,idx]) (by simp[ah,p1.refs,p2.refs]) (by simp[aO,az,bE,idx]) (by simp[aM,p1.az,p2.az]) (by simp[ah,ab,p1.refs,p2.refs]) ?_
  simp[bB,aM,az,fu,p1.az,p2.az]
  by_cases h2:a.peer=b.peer
  ·simp[h2,av]
   refine aC.plain [] ?_
   simp[gT,h1,h2]
  ·by_cases h3:xR a.peer b.peer=true
   ·simp[h2,h3,av]
    refine aC.plain [] ?_
    simp[gT,h1,h2,h3]
   ·simp[h2,h3,av]
    refine aC.plain [] ?_
    simp[gT,h1,h2,h3]
 ·simp[F.gl,ai,aG,av,h1]
  refine aC.plain [] ?_
  simp[gT,h1]
theorem aeH (a b:gZ):a8 Pg I.uu [bT a,bT b] (.bl (gT a b)):=by
 refine af.intro T.mV (by simp[F.mV]) ?_
 simp[F.mV,ai,aG,av]
 refine al.ret (RI a b) (by simp) (by simp) (by simp) ?_
 simp
 refine aC.plain [] ?_
 simp
theorem adX (t:gZ) (k:Key) (n:Int):af Pg I.mS [bT t,.pt KB [] 0,.pt (KB+1) [] 0] [.box (aW k),.box (.int .i64 n)] (λr fp=>r= .bl (!qN k n t)∧fp=[.box (aW k),.box (.int .i64 n)]):=by
 refine af.intro T.jV (by simp[F.jV]) ?_
 simp[F.jV,ai,aG,av]
 refine al.ret (wof t k n) (by simp) (by simp) (by simp) ?_
 simp
 refine aC.with [] [KB,KB+1] ?_
 simp[ah,ab,ae,aM,az,aO,eI]
theorem ad1 (t u:gZ):af Pg I.pZ [bT u,.pt KB [] 0] [.box (bT t)] (λr fp=>r= .bl (gT t u)∧fp=[.box (bT t)]):=by
 refine af.intro T.lQ (by simp[F.lQ]) ?_
 simp[F.lQ,ai,aG,av]
 refine al.ret (aeH t u) (by simp) (by simp) (by simp) ?_
 simp
 refine aC.with [] [KB] ?_
 simp[ah,ab,ae,aM,az,aO,eI,(ba t).refs,(ba t).az]
end Go.Ab
end S4s
