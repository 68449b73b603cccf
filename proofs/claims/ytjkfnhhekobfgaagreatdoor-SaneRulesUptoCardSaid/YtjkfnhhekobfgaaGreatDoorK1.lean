/- Calls of the library; numbers to base 16. No condition. -/
import Derived.Test.YtjkfnhhekobfgaaGreatDoorKS
import Derived.Test.YtjkfnhhekobfgaaGreatDoorA5
import Derived.Test.YtjkfnhhekobfgaaGreatDoorSF1
import Derived.Test.YtjkfnhhekobfgaaGreatDoorSF2
import Derived.Test.YtjkfnhhekobfgaaGreatDoorSF3
import Derived.Test.YtjkfnhhekobfgaaGreatDoorSF4
import Derived.Test.YtjkfnhhekobfgaaGreatDoorSF5
import Derived.Tactics
import Derived.Test.YtjkfnhhekobfgaaGreatDoorB7
set_option maxRecDepth 100000
set_option maxHeartbeats 1000000
set_option linter.all false
namespace Go.Ab
open Go.Ab
variable {P:Program}
theorem ai.xd {f:FuncId} {args:List PV} {v:PV} {u:Value} (he:∀(vs:Array Value) (w:World),(callFunc f vs).run P w= .ok (.enter f vs) w) (hv:∀Γ,aO Γ v u)
  (h:∀(Γ:Cx) (w:World) (vs:List Value),w.heap=Γ.heap->Mem Γ->Γ.bx=[]->gq Γ args vs->Calls P f vs.toArray w λe w'=>e= .returned u∧WF w w'∧w.heap.size≤w'.heap.size∧∀b,b<w.heap.size->w'.heap[b]? =w.heap[b]?):
  bg P f args v:=by
 intro Γ w vs h1 h2 h3 h4
 refine .inl ⟨he _ _,?_⟩
 have lA:Γ.bx=[]:=by rw[h3];rfl
 refine(h Γ w vs h1 h2 lA h4).mono ?_
 rintro e w' ⟨rfl,g1,g2,g3⟩
 rw[h1]at g2 g3
 have jP:∀b,¬Γ.hO b:=by
  rintro b ⟨k,blk,q1,_⟩;rw[lA]at q1;simp[get]at q1
 have hle:Le Γ {Γ with heap:=w'.heap}:=by
  refine⟨λb hb _=>g3 b hb,λb _ hm=>hm,rfl,g2,λk blk hk=> ?_⟩
  rw[lA]at hk;simp[get]at hk
 refine⟨u,v,[],{Γ with heap:=w'.heap},rfl,⟨rfl,rfl⟩,rfl,⟨λk blk hk=> ?_,h2.inj,λb hb=>Nat.lt_of_lt_of_le (h2.ed b hb) g2,h2.apart,h2.lF hle⟩,h3,hv _,hle,g1⟩
 have PF:get Γ.bx k=some blk:=hk
 rw[lA]at PF;simp[get]at PF
theorem Ij {Γ:Cx} {w:World} (h:w.heap=Γ.heap) (hm:Mem Γ):Lib.TabIs Pg w "internal/strconv.uint64pow10" .u64 Lib.pow10Tab:=by
 obtain⟨_,e,x,hx⟩:=hm.te 1 _ rfl
 have hg:Pg.globalNamed "internal/strconv.uint64pow10" =some 1:=by kernel_rfl
 unfold Lib.TabIs World.var?
 rw[hg]
 simp only[Option.bind_some,h,hx]
theorem Uw {n:Int} (h0: -9223372036854775808≤n) (h1:n≤9223372036854775807):bg Pg I.strconv_Itoa [.int .i64 n] (.str (Lib.itoa n)):=by
 refine ai.xd (u:= .string ⟨(Lib.itoa n).toArray⟩) (Go.Proofs.enters_of Go.Proofs.Tryz.func143 (by kernel_rfl) rfl) (λΓ=>oE (by simp)) ?_
 intro Γ w vs hw hm hb ha
 match vs,ha with
 |
  [v],ha=>
  obtain rfl:v= .int .i64 n:=by
   have:=ha.1
   simp only[aO]at this
   cases this;rfl
  refine(Go.Proofs.Tryz.strconv_Itoa n h0 h1 w (Ij hw hm)).mono ?_
  rintro e w' ⟨rfl,k,os,rfl⟩
  refine⟨rfl,⟨rfl,rfl,rfl⟩,?_,λb hb=> ?_⟩
  ·simp[Go.Sort.grow]
  ·simp only[Go.Sort.grow,World.drewN]
   exact Array.getElem?_append_left hb
theorem KL {w:World} {b o:Nat} {v:Value} (h:cell w.heap b o=some v):w.cell? ⟨b,o,none⟩=some v:=by
 unfold cell at h
 split at h
 ·rename_i c e x hb
  simp[World.cell?,hb,h]
 ·simp at h
theorem AE {Γ:Cx}:∀ {xs:List (List UInt8)} {cs:List Value},aG Γ (xs.map PV.str) cs->∃bs:List ByteArray,cs=bs.map Value.string∧bs.map (·.data.toList)=xs
 |[],cs,h=>by cases h;exact⟨[],rfl,rfl⟩
 |
  x::xs,cs,h=>by
  cases h with
  |
   str l s hs hr=>
   obtain⟨bs,rfl,e⟩:=AE hr
   exact⟨s::bs,rfl,by simp[hs,e]⟩
theorem abT {xs:List (List UInt8)} {sep:List UInt8} (h0:xs≠[]) (hN:xs.length≤140737488355328) (hl:(Lib.join xs sep).length≤140737488355328) (c:Bool):
  bg Pg I.strings_Join [.sl 1 (xs.map PV.str) c,.str sep] (.str (Lib.join xs sep)):=by
 refine ai.xd (u:= .string ⟨(Lib.join xs sep).toArray⟩) (Go.Proofs.enters_of Go.Proofs.Tryz.func167 (by kernel_rfl) rfl) (λΓ=>oE (by simp)) ?_
 intro Γ w vs hw hm hb ha
 match vs,ha with
 |
  [v,v2],ha=>
  obtain⟨h1,h2,_⟩:=ha
  simp only[aO]at h1 h2
  cases h2 with
  |str l s hs mQ=>
  cases h1 with
  |
   sl sz l clip a bC g1 g2 g3 g4 g5 g6=>
   obtain⟨bs,rfl,e⟩:=AE g1
   obtain⟨b,o,rfl,q1,q2,q3⟩:=g5 (by simpa using h0)
   have hlen:(xs.map PV.str).length=bs.length:=by rw[←e];simp
   rw[hlen]
   have:=Go.Proofs.Tryz.strings_Join b o bC bs s w (λj x hj=>by
    have:=q3 j (.string x) (by simp[hj])
    rw[←hw]at this
    exact KL this) (by rw[hw];exact q1) (by rw[←e]at hN;simpa using hN) (by rw[←hlen];exact g3) (by rw[e,hs];exact hl)
   rw[e,hs]at this
   refine this.mono ?_
   rintro e w' ⟨rfl,k⟩
   exact⟨rfl,⟨k.os,k.tape,k.output⟩,k.size,k.block⟩
end Go.Ab
namespace Go.Ab
open Go.Ab
theorem zy (va vb:Value) (c:Int) (w:World) (hc:(Go.Extern.BytealgCompare.compare #[va,vb]).run Pg w= .ok (.int .i64 c) w):
  Calls Pg 107 #[va,vb] w λe w'=>e= .returned (.int .i64 c)∧w'=w:=by
 have hx:(callFunc 139 #[va,vb]).run Pg w= .ok (.value (.int .i64 c)) w:=by
  have e1:Extern.findNext Go.Proofs.Tryz.f139=none:=by kernel_rfl
  have e2:Extern.find Go.Proofs.Tryz.f139=some Go.Extern.BytealgCompare.compare:=by kernel_rfl
  have e3:(Go.Proofs.Tryz.f139.name== "runtime.NumGoroutine")=false:=by kernel_rfl
  have e4:Go.Proofs.Tryz.f139.body.isNone=true:=by kernel_rfl
  have e3':¬Go.Proofs.Tryz.f139.name= "runtime.NumGoroutine" :=by simpa using e3
  have e4':Go.Proofs.Tryz.f139.body=none:=by simpa using e4
  simp only[callFunc,bJ]
  simp[Go.Proofs.Tryz.func139,e1,e2,e3',e4',run_mark,hc]
 go_enter Go.Proofs.Tryz.func107,Go.Proofs.Tryz.ntmps107
 go_wp2
 go_ret
 exact⟨rfl,rfl⟩
theorem AF (P:Program) (w:World):∀(l:List UInt8) (b o:Nat) (acc:ByteArray),(∀i x,l[i]? =some x->w.cell? ⟨b,o+i,none⟩=some (.int .u8 (x.toNat:Int)))->
  (Go.Extern.Bytes.loadBytes ⟨b,o,none⟩ l.length acc).run P w= .ok ⟨(acc.data.toList++l).toArray⟩ w
 |[],b,o,acc,h=>by simp[Go.Extern.Bytes.loadBytes]
 |
  x::l,b,o,acc,h=>by
  have h0:=h 0 x rfl
  simp only[Nat.add_zero]at h0
  have ih:=AF P w l b (o+1) (acc.push x) (λi y hi=>by
   have:=h (i+1) y (by simpa using hi)
   rwa [show o+1+i=o+(i+1) by omega])
  have e:(Addr.add ⟨b,o,none⟩ 1)=(⟨b,o+1,none⟩:Addr):=rfl
  have hx:((x.toNat:Int)).toNat.toUInt8=x:=by simp
  simp only[List.length_cons,Go.Extern.Bytes.loadBytes,bJ,run_load,h0,rJ,e,hx]
  rw[ih]
  simp
def rH (a b:List UInt8):Int:=Go.Extern.BytealgCompare.cmp ⟨a.toArray⟩ ⟨b.toArray⟩
theorem vV {Γ:Cx}:∀ {xs:List UInt8} {cs:List Value},aG Γ (xs.map u8) cs->cs=xs.map (λx=>Value.int .u8 (x.toNat:Int))
 |[],cs,h=>by cases h;rfl
 |
  x::xs,cs,h=>by
  simp only[List.map_cons,u8]at h
  cases h with
  |int k n hr=>rw[vV hr];rfl
theorem vW {Γ:Cx} {w:World} (hw:w.heap=Γ.heap) {xs:List UInt8} {c:Bool} {v:Value} (h:aO Γ (.sl 1 (xs.map u8) c) v):(Go.Extern.Bytes.bytesOf v).run Pg w= .ok ⟨xs.toArray⟩ w:=by
 simp only[aO]at h
 cases h with
 |
  sl sz l clip a bC g1 g2 g3 g4 g5 g6=>
  cases a with
  |
   none=>
   have:xs=[]:=by
    by_cases hx:xs=[]
    ·exact hx
    ·obtain⟨b,o,e,_⟩:=g5 (by simpa using hx)
     simp at e
   subst this
   rfl
  |
   some ad=>
   by_cases hx:xs=[]
   ·subst hx;rfl
   ·obtain⟨b,o,e,q1,q2,q3⟩:=g5 (by simpa using hx)
    obtain rfl:ad=⟨b,o,none⟩:=by simpa using e
    have AT:=vV g1
    have:=AF Pg w xs b o .empty (λi x hi=>KL (by rw[hw];exact q3 i _ (by rw[AT];simp[hi])))
    simp only[List.length_map,Go.Extern.Bytes.bytesOf]
    rw[this]
    rfl
theorem Compare (a b:List UInt8) (c d:Bool):bg Pg I.rX [.sl 1 (a.map u8) c,.sl 1 (b.map u8) d] (.int .i64 (rH a b)):=by
 refine ai.xd (u:= .int .i64 (rH a b)) (Go.Proofs.enters_of Go.Proofs.Tryz.func107 (by kernel_rfl) rfl) (λΓ=>dS) ?_
 intro Γ w vs hw hm hb ha
 match vs,ha with
 |
  [v,v2],ha=>
  obtain⟨h1,h2,_⟩:=ha
  refine(zy v v2 (rH a b) w ?_).mono ?_
  ·have e:Go.Extern.BytealgCompare.compare #[v,v2]=(do Pure.pure (goInt (Go.Extern.BytealgCompare.cmp (←Go.Extern.Bytes.bytesOf v) (←Go.Extern.Bytes.bytesOf v2)))):=rfl
   rw[e]
   simp only[bJ,vW hw h1,vW hw h2,rJ]
   rfl
  ·rintro e w' ⟨rfl,rfl⟩
   exact⟨rfl,WF.refl _,Nat.le_refl _,λ_ _=>rfl⟩
end Go.Ab
noncomputable section WUs
namespace Go.Ab
open Go.Ab
theorem an.ahK {P:Program} {s:St} {d:Option Nat} {f:FuncId} {args gY:List PV} {wu:List bX} {R:PV->List bX->Prop} {K:St->Prop} {t:Tg K} (ks os:List Nat) (cY:List bX) (hA:ai P f gY wu R)
  (hg:getAll s.bx ks=some cY) (hn:(ks++os).Nodup) (Sf:∀o∈os,get s.bx o=none) (ha:ab (bM ks) args=true) (hb:cY.all (af (bM ks))=true)
  (ha':jo (aD (bp ks) args)=gY) (yX:cY.map (aE (bp ks))=wu)
  (h:∀r fp,R r fp->(fp.length=(ks++os).length∧ae (fj fp.length) r=true∧fp.all (af (fj fp.length))=true)∧K ({s with bx:=bb s.bx (ks++os) (fp.map (aE (dv (ks++os))))}.put d (aB (dv (ks++os)) r))):an P s d f args K t:=by
 subst ha' yX
 exact⟨ks,os,cY,R,hg,hn,Sf,ha,hb,ai.W9 hA,h⟩
theorem an.Ux {P:Program} {s:St} {d:Option Nat} {f:FuncId} {args gY:List PV} {R:PV->Prop} {K:St->Prop} {t:Tg K} (hA:ai P f gY [] (λr fp=>R r∧fp=[])) (ha:jo args=gY) (hp:cD args) (hv:∀r,R r->Pure r) (h:∀r,R r->K (s.put d r)):an P s d f args K t:=by
 subst ha
 refine an.ahK [] [] [] hA (by simp[getAll]) (by simp) (by simp) (hp.refs _) (by simp) (by rw[hp.aB]) (by simp) ?_
 rintro r fp ⟨hr,rfl⟩
 exact⟨⟨rfl,(hv r hr).refs _,by simp⟩,by simpa[bb,(hv r hr).aB]using h r hr⟩
theorem an.Fb {P:Program} {s:St} {d:Option Nat} {f:FuncId} {args gY:List PV} {v v' r r':PV} {K:St->Prop} {t:Tg K} (k:Nat) (hb:get s.bx k=some (.box v)) (hA:ai P f gY [.box v] (λx fp=>x=r∧fp=[.box v']))
  (DW:ab (bM [k]) args=true) (ha:aD (bp [k]) args=gY) (hv:Pure v) (R9:Pure v') (hr:ae (fj 1) r=true) (hr':aB (dv [k]) r=r')
  (h:K ({s with bx:=put s.bx k (.box v')}.put d r')):an P s d f args K t:=by
 refine⟨[k],[],[.box v],(λx fp=>x=r∧fp=[.box v']),by simp[getAll,hb],by simp,by simp,DW,by simp[af,hv.refs],?_,?_⟩
 ·rw[ha];simp only[List.map_cons,List.map_nil,aE,hv.aB];exact hA
 ·rintro x fp ⟨rfl,rfl⟩
  refine⟨⟨rfl,hr,by simp[af,R9.refs]⟩,?_⟩
  simpa[bb,aE,R9.aB,hr']using h
@[simp] theorem akb (f:Fn) (a b:List PV):wk (.fn f a b)= .fn f a b:=by simp only[wk]
def fst (p:Nat->Bool):Nat->Nat
 |0=>0
 |n+1=>if fst p n<n then fst p n else if p n=true then n else n+1
theorem gu (p:Nat->Bool):∀n,fst p n≤n
 |0=>Nat.le_refl _
 |
  n+1=>by
  have:=gu p n
  unfold fst;(repeat' split)<;>omega
theorem gD {p:Nat->Bool}:∀ {n i},i<fst p n->p i=false
 |0,i,h=>by simp[fst]at h
 |
  n+1,i,h=>by
  have hl:=gu p n
  unfold fst at h
  split at h
  ·exact gD h
  ·rename_i h1
   have he:fst p n=n:=by omega
   split at h
   ·exact gD (n:=n) (by omega)
   ·rename_i h2
    by_cases e:i=n
    ·subst e;simpa using h2
    ·exact gD (n:=n) (by omega)
theorem gN {p:Nat->Bool}:∀ {n},fst p n<n->p (fst p n)=true
 |0,h=>by simp[fst]at h
 |
  n+1,h=>by
  have hl:=gu p n
  unfold fst at h⊢
  split
  ·rename_i h1;exact gN h1
  ·rename_i h1
   rw[if_neg h1]at h
   split
   ·assumption
   ·rename_i h2;rw[if_neg h2]at h;omega
theorem j5 {p:Nat->Bool} {n:Nat}:fst p n=n↔∀i,i<n->p i=false:=by
 refine⟨λh i hi=>gD (n:=n) (by omega),λh=> ?_⟩
 have h1:=gu p n
 by_cases h2:fst p n<n
 ·have:=gN h2;rw[h _ h2]at this;cases this
 ·omega
end Go.Ab
end WUs
noncomputable section W0s
namespace Go.Ab
open Go.Ab
theorem Uy {Γ:Cx} {w:World} (h:w.heap=Γ.heap) (hm:Mem Γ):Lib.TabIs Pg w "math/bits.deBruijn64tab" .u8 yG:=by
 obtain⟨_,e,x,hx⟩:=hm.te 3 _ rfl
 have hg:Pg.globalNamed "math/bits.deBruijn64tab" =some 3:=by kernel_rfl
 unfold Lib.TabIs World.var?
 rw[hg]
 simp only[Option.bind_some,h,hx]
theorem ahL (w:World) (ht:Lib.TabIs Pg w "math/bits.deBruijn64tab" .u8 yG):Calls Pg 201 #[.int .u64 16] w λe w'=>e= .returned (.int .i64 4)∧w'=w:=by
 have hg:Pg.globalNamed "math/bits.deBruijn64tab" =some 3:=by kernel_rfl
 have hc:=ht.cell hg 15 (by decide)
 have hv:yG.getD 15 0=4:=by decide
 rw[hv]at hc
 have he:(IntKind.u64.wrap (bits BinOp.and IntKind.u64 16 (IntKind.u64.wrap (-16))*285870213051353865)/288230376151711744).toNat=15:=by decide+kernel
 clear ht hg hv
 go_enter Go.Proofs.Tryz.func201,Go.Proofs.Tryz.ntmps201
 go_wp2
 go_ret
 exact⟨rfl,rfl⟩
theorem tz (w:World) (ht:Lib.TabIs Pg w "math/bits.deBruijn64tab" .u8 yG):Calls Pg 196 #[.int .u64 16] w λe w'=>e= .returned (.int .i64 4)∧w'=w:=by
 have h:=ahL w ht
 have e201:∀args w,(callFunc 201 args).run Pg w= .ok (.enter 201 args) w:=Go.Proofs.enters_of Go.Proofs.Tryz.func201 (by kernel_rfl) rfl
 go_enter Go.Proofs.Tryz.func196,Go.Proofs.Tryz.ntmps196
 go_wp2_with (go_at_fn 201;refine h.mono ?_;rintro e w1 ⟨rfl,rfl⟩)
 go_ret
 exact⟨rfl,rfl⟩
theorem TZ:bg Pg I.kU [.int .u64 16] (.int .i64 4):=by
 refine ai.xd (u:= .int .i64 4) (Go.Proofs.enters_of Go.Proofs.Tryz.func196 (by kernel_rfl) rfl) (λΓ=>dS) ?_
 intro Γ w vs hw hm hb ha
 match vs,ha with
 |
  [v],ha=>
  obtain rfl:v= .int .u64 16:=by
   have:=ha.1
   simp only[aO]at this
   cases this;rfl
  refine(tz w (Uy hw hm)).mono ?_
  rintro e w' ⟨rfl,rfl⟩
  exact⟨rfl,WF.refl _,Nat.le_refl _,λ_ _=>rfl⟩
end Go.Ab
end W0s
noncomputable section W1s
namespace Go.Ab
open Go.Ab
theorem OX:bg Pg I.dz [.int .i64 16] (.bl true):=by
 refine ai.intro T.dz (by simp[F.dz]) ?_
 have h1:IntKind.i64.wrap (16-1)=15:=by decide
 have h2:bits .and .i64 16 15=0:=by decide+kernel
 simp[F.dz,aj,aF,h1,h2]
 refine al.plain [] ?_
 simp
def qt (u i:Nat):Nat:=u/16^i
def je (u:Nat):Nat:=if u<16 then 0 else if u<256 then 1 else if u<4096 then 2 else 3
theorem pQ (u:Nat):je u≤3:=by unfold je;(repeat' split)<;>omega
theorem Gz {u i:Nat} (h:i<je u):16≤qt u i:=by
 unfold qt
 have h3:=pQ u
 rw[Nat.le_div_iff_mul_le (Nat.pow_pos (by omega))]
 rcases(by omega:i=0∨i=1∨i=2)with rfl|rfl|rfl<;>(unfold je at h;repeat' split at h)<;>omega
theorem GA {u:Nat} (h:u<65536):qt u (je u)<16:=by
 unfold qt
 rw[Nat.div_lt_iff_lt_mul (Nat.pow_pos (by omega))]
 unfold je;(repeat' split)<;>omega
theorem abU (n:Nat) (h:n<65536):bits .and .u64 (n:Int) 15=((n%16:Nat):Int):=by
 have h1:(BitVec.ofInt 64 (n:Int)).toNat=n:=by
  rw[BitVec.ofInt_natCast,BitVec.toNat_ofNat];exact Nat.mod_eq_of_lt (by omega)
 have h2:(BitVec.ofInt 64 (15:Int)).toNat=15:=by decide
 show IntKind.u64.wrap ((BitVec.ofInt 64 (n:Int)&&&BitVec.ofInt 64 (15:Int)).toNat:Int)=_
 rw[BitVec.toNat_and,h1,h2,show n&&&15=n%16 from Nat.and_two_pow_sub_one_eq_mod n 4]
 exact wrap_u64 (by omega)
def Fc:List UInt8:=[48,49,50,51,52,53,54,55,56,57,97,98,99,100,101,102,103,104,105,106,107,108,109,110,111,112,113,114,115,116,117,118,119,120,121,122]
theorem ahM (u i:Nat):(qt u i:Int).fdiv 16=(qt u (i+1):Int):=by
 rw[show(16:Int)=2^4 from rfl]
 unfold qt
 rw[Int.fdiv_eq_ediv_of_nonneg _ (by omega),Nat.pow_succ,←Nat.div_div_eq_div_mul]
 norm_cast
def dg (u i:Nat):UInt8:=Fc.getD (qt u i%16) 0
def vp (u:Nat):Nat->List UInt8
 |0=>List.replicate 65 0
 |i+1=>(vp u i).set (64-i) (dg u i)
theorem uc (u:Nat):∀i,(vp u i).length=65
 |0=>by simp[vp]
 |i+1=>by simp[vp,uc u i]
def BK (u:Nat):List UInt8:=List.take (65-(64-je u)) (List.drop (64-je u) (vp u (je u+1)))
theorem KM (u:Nat):(BK u).length=je u+1:=by
 have h3:=pQ u
 simp[BK,uc];omega
theorem abV {u i:Nat}:[48,49,50,51,52,53,54,55,56,57,97,98,99,100,101,102,103,104,105,106,107,108,109,110,111,112,113,114,115,116,117,118,119,120,121,122][qt u i%16]? =some (dg u i):=by
 have hm:qt u i%16<Fc.length:=by have:=Nat.mod_lt (qt u i) (show 0<16 by omega);simp[Fc];omega
 show Fc[qt u i%16]? =_
 simp[dg,List.getD,gJ hm]
theorem Fe {u:Nat} (hu:u<65536):bg Pg I.eD [.sl 0 [] false,.int .u64 u,.int .i64 16,.bl false,.bl false] (.tup [.sl 1 [] true,.str (BK u)]):=by
 refine ai.intro T.eD (by simp[F.eD]) ?_
 simp[F.eD,aj,aF]
 refine an.ret OX (by simp) (by simp) (by simp) ?_
 simp
 refine an.ret TZ (by simp) (by simp) (by simp) ?_
 simp
 have h3:=pQ u
 refine fb.fG (je u) (λ_=>True) [0,1,2,3,4,10,11,12,13,14,15,16] (λi=>[(1,.int .u64 (qt u i:Int)),(13,.int .i64 (65-(i:Int)))]) (λi=>[(12,.box (.ar 1 65 ((vp u i).map u8)))]) [.keep [0,1,2,3,4,10,11,12,13,14,15,16]] ?_
 simp[fC,u8,show qt u 0=u by simp[qt],show vp u 0=List.replicate 65 0 from rfl]
 refine⟨λi hi K hK=> ?_,λK=> ?_⟩
 ·have mC:=Gz hi
  have dG:qt u i<65536:=Nat.lt_of_le_of_lt (Nat.div_le_self _ _) hu
  have ze:=ahM u i
  have hg:(16:Int)≤qt u i:=by omega
  have hd:=abU (qt u i) dG
  have hx:=abV (u:=u) (i:=i)
  have YB:vp u (i+1)=(vp u i).set (64-i) (dg u i):=rfl
  have hl:=uc u i
  rw[YB]at hK
  have w1:IntKind.i64.wrap (65-(i:Int)-1)=65-((i:Int)+1):=by rw[wrap_i64 (by omega)];omega
  have ht:(65-((i:Int)+1)).toNat=64-i:=by omega
  generalize dg u i=c at*
  generalize vp u i=l at*
  have hy:l[64-i]? =some (l[64-i]'(by omega)):=gJ _
  have oA:(i:Int)+1≤65:=by omega
  have pg:65-((i:Int)+1)<65:=by omega
  have P3:min 4 IntKind.u64.bits=4:=rfl
  generalize qt u i%16=m at*
  have PC:(0:Int)≤m:=by omega
  simp only[List.getElem?_cons_succ]at hx
  simp[↓ah,hg,hd,w1,hx,ht,hy,oA,pg,P3,ze,PC,-getElem?_pos]
  refine⟨[.keep [0,1,2,3,4,10,11,12,13,14,15,16]],?_⟩
  simp
  refine hK _ (by simp[u8,ze])
 ·have dG:=GA hu
  have hx:=abV (u:=u) (i:=je u)
  rw[Nat.mod_eq_of_lt dG]at hx
  have hg:¬(16:Int)≤qt u (je u):=by omega
  have hl:=uc u (je u)
  have hT:BK u=List.take (65-(64-je u)) (List.drop (64-je u) ((vp u (je u)).set (64-je u) (dg u (je u)))):=rfl
  have w1:IntKind.i64.wrap (65-(je u:Int)-1)=65-((je u:Int)+1):=by rw[wrap_i64 (by omega)];omega
  have ht:(65-((je u:Int)+1)).toNat=64-je u:=by omega
  obtain⟨y,hy⟩:∃y,(vp u (je u))[64-je u]? =some y:=⟨_,gJ (by omega)⟩
  generalize dg u (je u)=c at*
  generalize vp u (je u)=l at*
  generalize qt u (je u)=m at*
  generalize je u=i at*
  have oA:(i:Int)+1≤65:=by omega
  have pg:65-((i:Int)+1)<65:=by omega
  have hb3:65-((i:Int)+1)≤65:=by omega
  simp[↓ah,hg,w1,hx,ht,hy,oA,pg,hb3,-getElem?_pos]
  have e1:((List.map u8 l).set (64-i) (PV.int IntKind.u8 (c.toNat:Int)))=(l.set (64-i) c).map u8:=by rw[List.map_set];rfl
  rw[e1,←List.map_drop,←List.map_take,qC]
  refine⟨by omega,?_⟩
  simp
  refine al.plain [] ?_
  simp[hT]
theorem Du {u:Nat} (hu:u<65536):bg Pg I.ey [.int .i64 u,.int .i64 16] (.str (BK u)):=by
 have h0:bg Pg I.eK [.int .i64 u,.int .i64 16] (.str (BK u)):=by
  refine ai.intro T.eK (by simp[F.eK]) ?_
  have w:IntKind.u64.wrap (u:Int)=u:=wrap_u64 (by omega)
  have hn:¬(u:Int)<0:=by omega
  simp[F.eK,aj,aF,w,hn]
  have hF:=Fe hu
  refine an.ret hF (by simp) (by simp) (by simp) ?_
  simp
  refine al.plain [] ?_
  simp
 refine ai.intro T.ey (by simp[F.ey]) ?_
 simp[F.ey,aj,aF]
 refine an.ret h0 (by simp) (by simp) (by simp) ?_
 simp
 refine al.plain [] ?_
 simp
end Go.Ab
end W1s
