/- Functions of the program and of the document, as the abstract reading walks them, part 7. No condition. -/
import Derived.Test.YtlcojgogfjlceaaGreatDoorKS
import Derived.Test.YtlcojgogfjlceaaGreatDoorA5
import Derived.Test.YtlcojgogfjlceaaGreatDoorSF1
import Derived.Test.YtlcojgogfjlceaaGreatDoorSF2
import Derived.Test.YtlcojgogfjlceaaGreatDoorSF3
import Derived.Test.YtlcojgogfjlceaaGreatDoorSF4
import Derived.Test.YtlcojgogfjlceaaGreatDoorSF5
import Derived.Test.YtlcojgogfjlceaaGreatDoorSF6
import Derived.Tactics
import Derived.Test.YtlcojgogfjlceaaGreatDoorB6
import Derived.Lib.ItoaLen
set_option maxRecDepth 100000
set_option maxHeartbeats 1000000
set_option linter.all false
noncomputable section
namespace Go.Ab
variable {P:Program}
theorem ae.GP {f:FuncId} {args:List PV} {v:PV} {u:Value} (he:∀(vs:Array Value) (w:World),(callFunc f vs).run P w= .ok (.enter f vs) w) (hv:∀Γ,aL Γ v u)
  (h:∀(Γ:Cx) (w:World) (vs:List Value),w.heap=Γ.heap->Mem Γ->Γ.bx=[]->ff Γ args vs->Calls P f vs.toArray w λe w'=>e= .returned u∧WF w w'∧w.heap.size≤w'.heap.size∧∀b,b<w.heap.size->w'.heap[b]? =w.heap[b]?):
  aK P f args v:=by
 intro Γ w vs h1 h2 h3 h4;refine .inl ⟨he _ _,?_⟩;have lK:Γ.bx=[]:=by rw[h3];rfl
 refine(h Γ w vs h1 h2 lK h4).mono ?_;rintro e w' ⟨rfl,g1,g2,g3⟩;rw[h1]at g2 g3
 have hno:∀b,¬Γ.gn b:=by
  rintro b ⟨k,blk,q1,_⟩;rw[lK]at q1;simp at q1
 have hle:Le Γ {Γ with heap:=w'.heap}:=by
  refine⟨λb hb _=>g3 b hb,λb _ hm=>hm,rfl,g2,λk blk hk=> ?_⟩;rw[lK]at hk;simp at hk
 refine⟨u,v,[],{Γ with heap:=w'.heap},rfl,⟨rfl,rfl⟩,rfl,⟨λk blk hk=> ?_,h2.inj,λb hb=>JhV (h2.bX b hb) g2,h2.apart,h2.ll hle⟩,h3,hv _,hle,g1⟩;have Sf:get Γ.bx k=some blk:=hk;rw[lK]at Sf;simp at Sf
theorem Oa {Γ:Cx} {w:World} (h:w.heap=Γ.heap) (hm:Mem Γ):Lib.TabIs Pg w "internal/strconv.uint64pow10" .u64 Lib.pow10Tab:=by
 obtain⟨_,e,x,hx⟩:=hm.xN 1 _ rfl;have hg:Pg.globalNamed "internal/strconv.uint64pow10" =some 1:=by kernel_rfl
 unfold Lib.TabIs World.var?;rw[hg];simp only[JlX,h,hx]
theorem aml {n:Int} (h0: -9223372036854775808≤n) (h1:n≤9223372036854775807):aK Pg 119 [.int .i64 n] (.str (Lib.itoa n)):=by
 refine ae.GP (u:= .string ⟨(Lib.itoa n).toArray⟩) (Go.Proofs.enters_of Go.Proofs.Tryz.func119 (by kernel_rfl) rfl) (λΓ=>sy (by simp)) ?_;intro Γ w vs hw hm hb ha;match vs,ha with
 |
  [v],ha=>
  obtain rfl:v= .int .i64 n:=by
   have:=ha.1;simp only[aL]at this;cases this;rfl
  refine(Go.Proofs.Tryz.strconv_Itoa n h0 h1 w (Oa hw hm)).mono ?_
  rintro e w' ⟨rfl,k,os,rfl⟩
  refine⟨rfl,⟨rfl,rfl,rfl⟩,?_,λb hb=> ?_⟩
  ·simp[Go.Sort.grow]
  ·simp only[Go.Sort.grow,World.drewN]
   exact Array.getElem?_append_left hb
theorem RN {w:World} {b o:Nat} {v:Value} (h:cell w.heap b o=some v):w.cell? ⟨b,o,none⟩=some v:=by
 unfold cell at h;split at h
 ·rename_i c e x hb;simp[World.cell?,hb,h]
 ·simp at h
theorem Fm {Γ:Cx}:∀ {xs:List (List UInt8)} {cs:List Value},aD Γ (xs.map PV.str) cs->∃bs:List ByteArray,cs=bs.map Value.string∧bs.map (·.data.toList)=xs
 |[],cs,h=>by cases h;exact⟨[],rfl,rfl⟩
 |
  x::xs,cs,h=>by
  cases h with
  |
   str l s hs hr=>
   obtain⟨bs,rfl,e⟩:=Fm hr
   exact⟨s::bs,rfl,by simp[hs,e]⟩
theorem aup {xs:List (List UInt8)} {sep:List UInt8} (h0:xs≠[]) (hN:xs.length≤140737488355328) (hl:(Lib.join xs sep).length≤140737488355328) (c:Bool):
  aK Pg 201 [.sl 1 (xs.map PV.str) c,.str sep] (.str (Lib.join xs sep)):=by
 refine ae.GP (u:= .string ⟨(Lib.join xs sep).toArray⟩) (Go.Proofs.enters_of Go.Proofs.Tryz.func201 (by kernel_rfl) rfl) (λΓ=>sy (by simp)) ?_;intro Γ w vs hw hm hb ha;match vs,ha with
 |
  [v,v2],ha=>
  obtain⟨h1,h2,_⟩:=ha
  simp only[aL]at h1 h2
  cases h2 with
  |str l s hs qZ=>
  cases h1 with
  |
   sl sz l clip a aX g1 g2 g3 g4 g5 g6=>
   obtain⟨bs,rfl,e⟩:=Fm g1
   obtain⟨b,o,rfl,q1,q2,q3⟩:=g5 (by simpa using h0)
   have hlen:(xs.map PV.str).length=bs.length:=by rw[←e];simp
   rw[hlen]
   have:=Go.Proofs.Tryz.strings_Join b o aX bs s w (λj x hj=>by
    have:=q3 j (.string x) (by simp[hj]);rw[←hw]at this;exact RN this) (by rw[hw];exact q1) (by rw[←e]at hN;simpa using hN) (by rw[←hlen];exact g3) (by rw[e,hs];exact hl)
   rw[e,hs]at this
   refine this.mono ?_
   rintro e w' ⟨rfl,k⟩
   exact⟨rfl,⟨k.os,k.tape,k.output⟩,k.size,k.block⟩
theorem Er (va vb:Value) (c:Int) (w:World) (hc:(Go.Extern.BytealgCompare.compare #[va,vb]).run Pg w= .ok (.int .i64 c) w):
  Calls Pg 89 #[va,vb] w λe w'=>e= .returned (.int .i64 c)∧w'=w:=by
 have hx:(callFunc 182 #[va,vb]).run Pg w= .ok (.value (.int .i64 c)) w:=by
  have e1:Extern.findNext Go.Proofs.Tryz.f182=none:=by kernel_rfl
  have e2:Extern.find Go.Proofs.Tryz.f182=some Go.Extern.BytealgCompare.compare:=by kernel_rfl
  have e3:(Go.Proofs.Tryz.f182.name== "runtime.NumGoroutine")=false:=by kernel_rfl
  have e4:Go.Proofs.Tryz.f182.body.isNone=true:=by kernel_rfl
  have e3':¬Go.Proofs.Tryz.f182.name= "runtime.NumGoroutine" :=by simpa using e3
  have e4':Go.Proofs.Tryz.f182.body=none:=by simpa using e4
  simp only[callFunc,bJ];simp[Go.Proofs.Tryz.func182,e1,e2,e3',e4',run_mark,hc]
 go_enter Go.Proofs.Tryz.func89,Go.Proofs.Tryz.ntmps89;go_wp2;go_ret;exact⟨rfl,rfl⟩
theorem Fo (P:Program) (w:World):∀(l:List UInt8) (b o:Nat) (acc:ByteArray),(∀i x,l[i]? =some x->w.cell? ⟨b,o+i,none⟩=some (.int .u8 (x.toNat:Int)))->
  (Go.Extern.Bytes.loadBytes ⟨b,o,none⟩ l.length acc).run P w= .ok ⟨(acc.data.toList++l).toArray⟩ w
 |[],b,o,acc,h=>by simp[Go.Extern.Bytes.loadBytes]
 |
  x::l,b,o,acc,h=>by
  have h0:=h 0 x rfl
  simp only[JnQ]at h0
  have ih:=Fo P w l b (o+1) (acc.push x) (λi y hi=>by
   have:=h (i+1) y (by simpa using hi);rwa [show o+1+i=o+(i+1) by omega])
  have e:(Addr.add ⟨b,o,none⟩ 1)=(⟨b,o+1,none⟩:Addr):=rfl
  have hx:((x.toNat:Int)).toNat.toUInt8=x:=by simp
  simp only[JcX,Go.Extern.Bytes.loadBytes,bJ,run_load,h0,rJ,e,hx]
  rw[ih]
  simp
def Kz (a b:List UInt8):Int:=Go.Extern.BytealgCompare.cmp ⟨a.toArray⟩ ⟨b.toArray⟩
theorem AZ {Γ:Cx}:∀ {xs:List UInt8} {cs:List Value},aD Γ (xs.map u8) cs->cs=xs.map (λx=>Value.int .u8 (x.toNat:Int))
 |[],cs,h=>by cases h;rfl
 |
  x::xs,cs,h=>by
  simp only[JdX,u8]at h
  cases h with
  |int k n hr=>rw[AZ hr];rfl
theorem A0 {Γ:Cx} {w:World} (hw:w.heap=Γ.heap) {xs:List UInt8} {c:Bool} {v:Value} (h:aL Γ (.sl 1 (xs.map u8) c) v):(Go.Extern.Bytes.bytesOf v).run Pg w= .ok ⟨xs.toArray⟩ w:=by
 simp only[aL]at h;cases h with
 |
  sl sz l clip a aX g1 g2 g3 g4 g5 g6=>
  cases a with
  |
   none=>
   have:xs=[]:=by
    by_cases hx:xs=[]
    ·exact hx
    ·obtain⟨b,o,e,_⟩:=g5 (by simpa using hx);simp at e
   subst this
   rfl
  |
   some ad=>
   by_cases hx:xs=[]
   ·subst hx;rfl
   ·obtain⟨b,o,e,q1,q2,q3⟩:=g5 (by simpa using hx)
    obtain rfl:ad=⟨b,o,none⟩:=by simpa using e
    have D2:=AZ g1
    have:=Fo Pg w xs b o .empty (λi x hi=>RN (by rw[hw];exact q3 i _ (by rw[D2];simp[hi])))
    simp only[JaX,Go.Extern.Bytes.bytesOf]
    rw[this]
    rfl
theorem Compare (a b:List UInt8) (c d:Bool):aK Pg 89 [.sl 1 (a.map u8) c,.sl 1 (b.map u8) d] (.int .i64 (Kz a b)):=by
 refine ae.GP (u:= .int .i64 (Kz a b)) (Go.Proofs.enters_of Go.Proofs.Tryz.func89 (by kernel_rfl) rfl) (λΓ=>cy) ?_;intro Γ w vs hw hm hb ha;match vs,ha with
 |
  [v,v2],ha=>
  obtain⟨h1,h2,_⟩:=ha
  refine(Er v v2 (Kz a b) w ?_).mono ?_
  ·have e:Go.Extern.BytealgCompare.compare #[v,v2]=(do Pure.pure (goInt (Go.Extern.BytealgCompare.cmp (←Go.Extern.Bytes.bytesOf v) (←Go.Extern.Bytes.bytesOf v2)))):=rfl
   rw[e]
   simp only[bJ,A0 hw h1,A0 hw h2,rJ]
   rfl
  ·rintro e w' ⟨rfl,rfl⟩
   exact⟨rfl,WF.refl _,JaQ _,λ_ _=>rfl⟩
def auU (l:List bO):Nat->Bool
 |0=>false
 |
  j+1=>match l[j]?,l[j+1]?with
  |some a,some b=> !Op.bytesLess a.cH.l b.cH.l
  |_,_=>false
def r2 (d:bc):Bool:=decide (fst (auU d.au) d.au.length=d.au.length)&&decide ((d.au.length:Int)≤8)
@[simp] theorem anf (f:Fn) (a b:List PV):(PV.fn f a b).width=1:=rfl
def ang (d:bc) (p:bO):Bool:=if p.hand.has=true then p.iU&&(inR p.hand.started 0 p.hand.C9&&decide (p.hand.C9≤d.now))else PV.beq (mL p.hand) (mL yL)
def r4 (d:bc):Bool:=d.au.all (ang d)
def auV (d:bc) (s:ld) (w:Aj):Bool:=inR s.born 0 d.now&&decide (s.fM=d.rules.uy)&&decide (s.next≤18446744073709543423)&&(w.used||PV.beq (wP w) NY.p)
def RO (s:ld):Prop:=∃w,s.G4=GK w
def wn (s:ld):Aj:=by
 classical
 exact if h:RO s then Classical.choose h else zW
def adO (d:bc) (x:uL):Bool:=if x.has=true then auV d x.nn (wn x.nn)else PV.beq (ib x) (ib qE)
def anh (d:bc) (p:bO):Bool:=decide (fst (λi=> !adO d (NU p.ring (i+1))) 3=3)
def aaf (p:bO):Prop:=RO p.ring.p.nn∧RO p.ring.c.nn∧RO p.ring.n.nn
theorem aaf.get {p:bO} (h:aaf p) {i:Nat} (hi:i<3):RO (NU p.ring (i+1)).nn:=by
 rcases(by omega:i=0∨i=1∨i=2)with rfl|rfl|rfl
 ·exact h.1
 ·exact h.2.1
 ·exact h.2.2
def r5 (d:bc):Bool:=d.au.all (anh d)
theorem RP (a b:iI):PV.beq (cP a) (cP b)=(decide (a.sO=b.sO)&&decide (a.ip=b.ip)):=by
 simp only[cP,PV.beq,PV.lL,GI,Bool.and_true];cases a.sO<;>cases b.sO<;>simp
def iI.uz (a:iI) (i:Nat):UInt8:=a.ip.getD i 0
theorem iI.at2 (a:iI) {i:Nat} (h:i<16):a.ip[i]? =some (a.uz i):=by
 have:i<a.ip.length:=by rw[a.h];exact h
 simp[iI.uz,List.getD,gJ this]
theorem iI.RQ {a b:List UInt8} (ha:a.length=16) (hb:b.length=16) (h:∀i,i<16->a.getD i 0=b.getD i 0):a=b:=by
 apply JpZ (by omega);intro i h1 h2;have:=h i (by omega);simpa[List.getD,gJ h1,gJ h2]using this
def uC (a:iI):Bool:=a.sO||decide (fst (λi=>a.uz (4+i) !=0) 12=12)
def Es (a:iI):iI:=⟨a.sO,a.ip.take 4++List.replicate 12 0,by simp[a.h]⟩
theorem RR (a:iI) (i:Nat):(Es a).uz i=if i<4 then a.uz i else 0:=by
 simp only[iI.uz,Es,List.getD];by_cases h:i<4
 ·rw[if_pos h,List.getElem?_append_left (by simp[a.h];omega),List.getElem?_take,if_pos h]
 ·rw[if_neg h,List.getElem?_append_right (by simp[a.h];omega),List.getElem?_replicate];split<;>rfl
theorem WZ (a:iI):a.ip=(Es a).ip↔fst (λi=>a.uz (4+i) !=0) 12=12:=by
 rw[L9];constructor
 ·intro h i hi;have:a.uz (4+i)=(Es a).uz (4+i):=by unfold iI.uz;rw[←h]
  rw[this,RR,if_neg (by omega)];simp
 ·intro h;refine iI.RQ a.h (Es a).h λi hi=> ?_;show a.uz i=(Es a).uz i;rw[RR];split
  ·rfl
  ·have:=h (i-4) (by omega);rw[show 4+(i-4)=i by omega]at this;simpa using this
theorem J6 (a:iI):aK Pg 191 [cP a] (.bl (uC a)):=by
 refine ae.intro (aC R.vI.2) (by simp[R.vI]) ?_;simp[R.vI,aj,av]
 have he:yC a (PV.ar 1 16 (List.take 4 (List.map u8 a.ip)++PV.int IntKind.u8 0::PV.int IntKind.u8 0::PV.int IntKind.u8 0::PV.int IntKind.u8 0::PV.int IntKind.u8 0::PV.int IntKind.u8 0::PV.int IntKind.u8 0::PV.int IntKind.u8 0::PV.int IntKind.u8 0::PV.int IntKind.u8 0::PV.int IntKind.u8 0::PV.int IntKind.u8 0::List.drop 16 (List.map u8 a.ip)))=cP (Es a):=by
  have:List.drop 16 (List.map u8 a.ip)=[]:=JgX (by simp[a.h]);rw[this];simp[yC,cP,Es,u8,List.replicate]
 rw[he];refine⟨by simp,?_⟩;cases h6:a.sO
 ·refine⟨by simp,?_⟩;simp;refine aA.plain [] ?_
  have hb:PV.beq (cP a) (cP (Es a))=decide (fst (λi=>a.uz (4+i) !=0) 12=12):=by
   rw[RP,show(Es a).sO=a.sO from rfl];simp[WZ]
  simp[uC,h6,hb]
 ·simp;refine aA.plain [] ?_;simp[uC,h6]
def yF (f:Nat->UInt8) (l:List UInt8) (i:Nat):List UInt8:=(List.range l.length).map λj=>if j<i then f j else l.getD j 0
theorem yY (f:Nat->UInt8) (l:List UInt8) (i:Nat):(yF f l i).length=l.length:=by simp[yF]
theorem GQ (f:Nat->UInt8) (l:List UInt8) (i:Nat) {j:Nat} (h:j<l.length):(yF f l i)[j]? =some (if j<i then f j else l.getD j 0):=by simp[yF,h]
theorem adP (f:Nat->UInt8) (l:List UInt8):yF f l 0=l:=by
 apply JpZ (by simp[yY]);intro j h1 h2;have:=GQ f l 0 h2;rw[gJ h1]at this;simpa[List.getD,gJ h2]using this
theorem RS (f:Nat->UInt8) (l:List UInt8) (i:Nat):((yF f l i).map u8).set i (u8 (f i))=(yF f l (i+1)).map u8:=by
 rw[←JfJ];congr 1;apply JpZ (by simp[yY]);intro j h1 h2;simp only[yF,List.getElem_set,List.getElem_map,List.getElem_range];by_cases e:i=j
 ·subst e;simp
 ·simp only[e,if_false];by_cases e2:j<i
  ·rw[if_pos e2,if_pos (by omega)]
  ·rw[if_neg e2,if_neg (by omega)]
def cb (n:Nat) (b:UInt8):UInt8:=b&&& ~~~((255:UInt8)>>>UInt8.ofNat n)
theorem auW:∀(n:Fin 9) (b:Fin 256),bits .and .u8 (b.val:Int) (bits .xor .u8 (if IntKind.u8.signed=true then-1 else IntKind.u8.max) (Int.fdiv 255 (2^min n.val IntKind.u8.bits)))=((if n.val=8 then b.val else(cb n.val (UInt8.ofNat b.val)).toNat:Nat):Int):=by decide+kernel
def lf (n i:Nat):Nat:=min (n-8*i) 8
def vl (a:iI) (n i:Nat):UInt8:=if lf n i=8 then a.uz i else cb (lf n i) (a.uz i)
theorem adQ (a:iI) (n i:Nat):bits .and .u8 ((a.uz i).toNat:Int) (bits .xor .u8 (if IntKind.u8.signed=true then-1 else IntKind.u8.max) (Int.fdiv 255 (2^min (lf n i) IntKind.u8.bits)))=((vl a n i).toNat:Int):=by
 have:=auW ⟨lf n i,by unfold lf;omega⟩ ⟨(a.uz i).toNat,(a.uz i).toNat_lt⟩;simp only at this;rw[this];unfold vl;split
 ·rfl
 ·simp
def vk (a:iI) (n:Nat):iI:=⟨a.sO,yF (vl a n) a.ip 16,by rw[yY,a.h]⟩
theorem acz (a:iI) {n:Nat} (hn:n≤128):aK Pg 192 [cP a,.int .i64 n] (cP (vk a n)):=by
 refine ae.intro (aC R.Am.2) (by simp[R.Am]) ?_;simp[R.Am,aj,av];refine eW.fD 16 (λ_=>True) [1,2,4,7] (λi=>[(7,.int .i64 i)]) (λi=>[(2,.box (.st 17 [.bl a.sO,.ar 1 16 ((yF (vl a n) a.ip i).map u8)]))]) [.keep [1,2,4,7]] ?_;simp[adP,cP];refine⟨λi hi K hK=> ?_,λK=> ?_⟩
 ·have hx:=GQ (vl a n) a.ip i (j:=i) (by rw[a.h];exact hi);rw[if_neg (by omega)]at hx;have hx:(yF (vl a n) a.ip i)[i]? =some (a.uz i):=hx;have hw:IntKind.i64.wrap ((i:Int)+1)=(i:Int)+1:=wrap_i64 (by omega);have Fx:IntKind.i64.wrap (8*(i:Int))=8*(i:Int):=wrap_i64 (by omega);have B9:IntKind.i64.wrap ((n:Int)-8*(i:Int))=(n:Int)-8*(i:Int):=wrap_i64 (by omega);have As:(i:Int)<16:=by omega
  have hm:min (max ((n:Int)-8*(i:Int)) 0) 8=(lf n i:Int):=by unfold lf;omega
  have he:=adQ a n i;have hs:=RS (vl a n) a.ip i;have hlen:=yY (vl a n) a.ip i;generalize yF (vl a n) a.ip i=L at*;generalize yF (vl a n) a.ip (i+1)=M at*;generalize a.uz i=b at*;generalize lf n i=q at*;generalize vl a n i=c at*;have e1:(L.map u8).set i (PV.int IntKind.u8 (c.toNat:Int))=M.map u8:=hs;simp[↓al,As,hx,hw,Fx,B9,hm,aB,-getElem?_pos];refine⟨.inr (.inr rfl),⟨rfl,rfl⟩,[.keep [1,2,4,7]],?_⟩;simp only[he,e1];simp;exact hK _ (by simp)
 ·simp[↓al];refine aA.plain [] ?_;simp[vk]
def wD (p:xG):Bool:=uC p.addr&&decide (0≤p.bits)&&decide (p.bits≤if p.addr.sO=true then 128 else 32)&&decide (p.addr.ip=(vk p.addr p.bits.toNat).ip)
theorem Ma (a:iI):fits (Sh.st [Sh.b,Sh.ar 16 (Sh.i IntKind.u8)]) (cP a)=true:=Aa a
theorem Ac (p:xG):aK Pg 173 [gC p] (.bl (wD p)):=by
 refine ae.intro T.mI (by simp[F.mI]) ?_;have hr:wD p=(uC p.addr&&decide (0≤p.bits)&&decide (p.bits≤if p.addr.sO=true then 128 else 32)&&decide (p.addr.ip=(vk p.addr p.bits.toNat).ip)):=rfl;have h1:=Ma p.addr
 have hb:PV.beq (cP (vk p.addr p.bits.toNat)) (cP p.addr)=decide (p.addr.ip=(vk p.addr p.bits.toNat).ip):=by
  rw[RP,show(vk p.addr p.bits.toNat).sO=p.addr.sO from rfl];simp[eq_comm]
 have h2:=Ma (vk p.addr p.bits.toNat);cases h6:p.addr.sO
 ·simp[F.mI,aj,av,h6];refine aN.rA (J6 p.addr) ?_;cases g1:uC p.addr
  ·simp;refine aA.plain [] ?_;simp[hr,g1]
  by_cases g2:0≤p.bits
  ·by_cases g3:p.bits≤32
   ·have hc:=acz p.addr (n:=p.bits.toNat) (by omega);rw[show((p.bits.toNat:Nat):Int)=p.bits by omega]at hc;simp[g2,g3];refine aN.rA hc ?_;simp[h1,h2];refine aA.plain [] ?_;simp[hr,g1,g2,g3,h6,hb]
   ·simp[g2,g3];refine aA.plain [] ?_;simp[hr,g3,h6]
  ·simp[g2];refine aA.plain [] ?_;simp[hr,g2]
 ·simp[F.mI,aj,av,h6];refine aN.rA (J6 p.addr) ?_;cases g1:uC p.addr
  ·simp;refine aA.plain [] ?_;simp[hr,g1]
  by_cases g2:0≤p.bits
  ·by_cases g3:p.bits≤128
   ·have hc:=acz p.addr (n:=p.bits.toNat) (by omega);rw[show((p.bits.toNat:Nat):Int)=p.bits by omega]at hc;simp[g2,g3];refine aN.rA hc ?_;simp[h1,h2];refine aA.plain [] ?_;simp[hr,g1,g2,g3,h6,hb]
   ·simp[g2,g3];refine aA.plain [] ?_;simp[hr,g3,h6]
  ·simp[g2];refine aA.plain [] ?_;simp[hr,g2]
def rU (a:iI) (i:Nat):Nat:=(a.uz (i/8)).toNat/2^(7-i%8)%2
theorem alk:∀(k:Fin 8) (b:Fin 256),bits .and .u8 ((b.val:Int).fdiv (2^k.val)) 1=((b.val/2^k.val%2:Nat):Int):=by decide+kernel
theorem adR:∀(q:Fin 8) (b:Fin 256),cb q.val (UInt8.ofNat b.val)=UInt8.ofNat b.val↔∀k:Fin 8,q.val≤k.val->b.val/2^(7-k.val)%2=0:=by decide+kernel
theorem IU (a:iI) (n j:Nat):vl a n j=a.uz j↔∀k,k<8->n≤8*j+k->(a.uz j).toNat/2^(7-k)%2=0:=by
 unfold vl;split
 ·rename_i h;refine⟨λ_ k hk hn=> ?_,λ_=>rfl⟩;unfold lf at h;omega
 ·rename_i h;have hq:lf n j<8:=by unfold lf at h⊢;omega
  have:=adR ⟨lf n j,hq⟩ ⟨(a.uz j).toNat,(a.uz j).toNat_lt⟩;simp only[UInt8.ofNat_toNat]at this;rw[this];constructor
  ·intro h1 k hk hn;exact h1 ⟨k,hk⟩ (by show lf n j≤k;unfold lf;omega)
  ·intro h1 k hk;exact h1 k.val k.isLt (by have za:lf n j≤k.val:=hk;unfold lf at za h;have:=k.isLt;omega)
theorem DO (p:xG) (h0:0≤p.bits) (h1:p.bits≤128):(∀i,i<128-p.bits.toNat->rU p.addr (p.bits.toNat+i)=0)↔p.addr.ip=(vk p.addr p.bits.toNat).ip:=by
 obtain⟨n,hn⟩:∃n,n=p.bits.toNat:=⟨_,rfl⟩
 rw[←hn]
 have hat:∀j,j<16->(vk p.addr n).uz j=vl p.addr n j:=λj hj=>by
  have:=GQ (vl p.addr n) p.addr.ip 16 (j:=j) (by rw[p.addr.h];exact hj);rw[if_pos hj]at this;simp only[iI.uz,vk,List.getD,this];rfl
 constructor
 ·intro h;refine iI.RQ p.addr.h (vk p.addr n).h λj hj=> ?_;show p.addr.uz j=(vk p.addr n).uz j;rw[hat j hj];refine((IU p.addr n j).2 λk hk hnk=> ?_).symm;have:=h (8*j+k-n) (by omega);rw[show n+(8*j+k-n)=8*j+k by omega]at this;unfold rU at this;rwa [show(8*j+k)/8=j by omega,show(8*j+k)%8=k by omega]at this
 ·intro h i hi;have hj:(n+i)/8<16:=by omega
  have:=(IU p.addr n ((n+i)/8)).1 (by rw[←hat _ hj];unfold iI.uz;rw[←h]) ((n+i)%8) (by omega) (by omega);exact this
def qt (u i:Nat):Nat:=u/16^i
def auX:List UInt8:=[48,49,50,51,52,53,54,55,56,57,97,98,99,100,101,102,103,104,105,106,107,108,109,110,111,112,113,114,115,116,117,118,119,120,121,122]
def dg (u i:Nat):UInt8:=auX.getD (qt u i%16) 0
theorem RT {bx:List (Nat×aV)}:∀ {l:List PV},ah (λ_=>false) l=true->Yo bx l l
 |[],_=>trivial
 |
  p::r,h=>by
  simp only[ah,aJ]at h
  exact⟨.inl (.inl ⟨rfl,h.1⟩),RT h.2⟩
theorem amm {f:FuncId} {sz:Nat} {xs rest:List PV} {v:PV} (hA:aK Pg f (.sl sz xs false::rest) v) (fH:0<sz) (hw:∀x∈xs,x.width=sz) (hx:ah (λ_=>false) xs=true) (hr:ah (λ_=>false) rest=true)
  (hv:fL v=true) (hvp:Pure v):ae Pg f (.rs KB [] 0 xs.length xs.length sz .tip::rest) [.arr sz xs] (λr fp=>r=v∧fp=[.arr sz xs]):=by
 have h:=ae.view (args:= .rs KB [] 0 xs.length xs.length sz .tip::rest) (fp:=[.arr sz xs]) hA ⟨.inl (.inr ⟨KB,[],0,xs.length,xs.length,sz,.tip,xs,rfl,by simp[get,av],hx,fH,rfl⟩),RT hr⟩ (λr new e=>by
  obtain⟨rfl,rfl⟩:=e;exact⟨hv,rfl⟩)
 refine h.mono ?_;rintro r xD ⟨r0,new,⟨rfl,rfl⟩,rfl,rfl⟩;exact⟨hvp.aE _,by simp⟩
theorem Wd (l:List (List UInt8)):an (l.map PV.str):=aF (λx=>(by simp:Pure (PV.str x))) l
def Tb (a:iI) (n:Nat):List (List UInt8):=(a.ip.take n).map (λb=>Lib.itoa (b.toNat:Int))
theorem Gu {a:iI} {n:Nat} (h:n≤16):(Tb a n).length=n:=by simp[Tb,a.h];omega
theorem QX (a:iI) {n:Nat} {b:UInt8} (h:a.ip[n]? =some b):Tb a (n+1)=Tb a n++[Lib.itoa (b.toNat:Int)]:=by
 unfold Tb;rw[List.take_add_one,h];simp
theorem Ob {a:iI} (h6:a.sO=false):wD ⟨a,32⟩=uC a:=by
 unfold wD;cases h:uC a
 ·simp
 ·have hz:∀j,4≤j->j<16->a.uz j=0:=by
   intro j h1 h2;unfold uC at h;rw[h6,Bool.false_or,decide_eq_true_eq,L9]at h;have:=h (j-4) (by omega);rw[show 4+(j-4)=j by omega]at this;simpa using this
  have:=(DO ⟨a,32⟩ (show(0:Int)≤32 by decide) (show(32:Int)≤128 by decide)).1 (λi hi=>by
   simp only at hi⊢;unfold rU;rw[hz _ (by simp;omega) (by simp at hi⊢;omega)];simp)
  have this:a.ip=(vk a 32).ip:=this;simp[h6,←this]
theorem KA {a:iI} (h6:a.sO=true):wD ⟨a,128⟩=uC a:=by
 unfold wD;have:=(DO ⟨a,128⟩ (show(0:Int)≤128 by decide) (show(128:Int)≤128 by decide)).1 (λi hi=>by simp at hi);have this:a.ip=(vk a 128).ip:=this;simp[h6,←this]
theorem Wc (a:iI):aK Pg 199 [cP a] (.bl (uC a)):=by
 refine ae.intro (aC R.pL.2) (by simp[R.pL]) ?_;cases h6:a.sO
 ·have hv:=Ac ⟨a,32⟩;rw[Ob h6]at hv;have he:(.st 18 [cP a,.int .i64 32]:PV)=gC ⟨a,32⟩:=rfl;simp[R.pL,aj,av,h6];rw[he];refine ai.rA hv ?_;simp;refine aA.plain [] ?_;simp
 ·have hv:=Ac ⟨a,128⟩;rw[KA h6]at hv;have he:(.st 18 [cP a,.int .i64 128]:PV)=gC ⟨a,128⟩:=rfl;simp[R.pL,aj,av,h6];rw[he];refine ai.rA hv ?_;simp;refine aA.plain [] ?_;simp
def w16 (a:iI) (i:Nat):Nat:=(a.uz (2*i)).toNat*256+(a.uz (2*i+1)).toNat
theorem Mb:∀ {xs:List (List UInt8)} {m:Nat},(∀x∈xs,x.length≤m)->Lib.lens xs≤m*xs.length
 |[],m,_=>by simp[Lib.lens]
 |
  x::xs,m,h=>by
  have h1:=h x (by simp)
  have h2:=Mb (xs:=xs) (m:=m) (λy hy=>h y (by simp[hy]))
  simp only[Lib.lens,JdX,List.sum_cons,JcX,Nat.mul_add]at h2⊢
  omega
def Ke (a:iI):List UInt8:=Lib.join (Tb a 4) [46]
theorem adS {xs:List (List UInt8)} {s:List UInt8} {m n:Nat} (hn:xs.length=n+2) (hs:s.length=1) (h:∀x∈xs,x.length≤m):1≤(Lib.join xs s).length∧(Lib.join xs s).length≤n+1+m*(n+2):=by
 match xs,hn with
 |
  x::y::r,hn=>
  rw[Lib.join_length]
  have:=Mb h
  rw[hn]at this
  simp at hn
  simp only[JcX,hs]at*
  constructor<;>omega
theorem QY (a:iI):1≤(Ke a).length∧(Ke a).length≤1000:=by
 have:=adS (n:=2) (s:=[46]) (m:=21) (Gu (a:=a) (n:=4) (by omega)) rfl (λx hx=>by
  obtain⟨b,_,rfl⟩:=JhW.1 hx;have:=b.toNat_lt;exact Lib.itoa_length_le (b.toNat:Int) (by omega) (by omega))
 unfold Ke;omega
def gs (u:Nat):Nat->List UInt8
 |0=>[]
 |i+1=>dg u i::gs u i
def epB (e:G6):Bool:=uC e.addr&&decide (1≤e.port)&&decide (e.port≤65535)
def I8 (l:List UInt8):Nat:=l.foldl (λn x=>n*256+x.toNat) 0
theorem RU (l:List UInt8) (x:UInt8):I8 (l++[x])=I8 l*256+x.toNat:=by simp[I8]
theorem RV {l:List UInt8} {i:Nat} {x:UInt8} (h:l[i]? =some x):I8 (l.take (i+1))=I8 (l.take i)*256+x.toNat:=by
 rw[List.take_add_one,h];exact RU _ _
theorem RW:∀(l:List UInt8) (n:Nat),l.foldl (λn x=>n*256+x.toNat) n<(n+1)*256^l.length
 |[],n=>by simp
 |
  x::l,n=>by
  have h:=RW l (n*256+x.toNat)
  have hx:=x.toNat_lt
  have h2:(n*256+x.toNat+1)*256^l.length≤((n+1)*256)*256^l.length:=JcV _ (by omega)
  rw[List.foldl_cons,JcX,Nat.pow_succ,Nat.mul_comm (256^l.length) 256,←Nat.mul_assoc]
  omega
theorem adT (l:List UInt8):I8 l<256^l.length:=by have:=RW l 0;simpa[I8]using this
theorem u64_or_nat (a b:Nat) (ha:a<18446744073709551616) (hb:b<18446744073709551616):bits .or .u64 (a:Int) (b:Int)=((a|||b:Nat):Int):=by
 have hx:a|||b<2^64:=JoV (by omega) (by omega)
 have h1:(BitVec.ofInt 64 (a:Int)).toNat=a:=by
  rw[JtZ,BitVec.toNat_ofNat];exact JiJ (by omega)
 have h2:(BitVec.ofInt 64 (b:Int)).toNat=b:=by
  rw[JtZ,BitVec.toNat_ofNat];exact JiJ (by omega)
 show IntKind.u64.wrap ((BitVec.ofInt 64 (a:Int)|||BitVec.ofInt 64 (b:Int)).toNat:Int)=_;rw[BitVec.toNat_or,h1,h2];exact wrap_u64 (by omega)
theorem orb {x y:Nat} (hy:y<256):(x*256)|||y=x*256+y:=by
 have:=Nat.shiftLeft_add_eq_or_of_lt (i:=8) (b:=y) (by omega) x;rw[Nat.shiftLeft_eq]at this;exact this.symm
theorem QL {l:List UInt8} (hl:l.length≤8):aK Pg 103 [aP l] (.int .u64 (I8 l)):=by
 refine ae.intro (aC R.sj.2) (by simp[R.sj]) ?_;simp[R.sj,aj,av];refine eW.fD l.length (λ_=>True) [3,6,7,8] (λi=>[(3,.int .u64 (I8 (l.take i))),(8,.int .i64 i)]) (λi=>[]) [.keep [3,6,7,8]] ?_;simp[show I8 []=0 from rfl];refine⟨λi hi K hK=> ?_,λK=> ?_⟩
 ·have hx:l[i]? =some l[i]:=gJ hi;have ht:=RV hx;have dq:=adT (l.take i);rw[lJ,JdW (by omega)]at dq;have awP:256^i≤256^7:=JtX (by omega) (by omega);have hb:=l[i].toNat_lt;generalize I8 (l.take (i+1))=v at*;generalize I8 (l.take i)=n at*;generalize l[i]=x at*;have hn:n<72057594037927936:=JhV dq (by simpa using awP);have hor:=u64_or_nat (n*256) x.toNat (by omega) (by omega);rw[orb (by omega),←ht]at hor
  have EA:IntKind.u64.wrap ((n:Int)*2^min 8 IntKind.u64.bits)=((n*256:Nat):Int):=by
   rw[show min 8 IntKind.u64.bits=8 from rfl,wrap_u64 (by omega)];omega
  have w0:IntKind.u64.wrap ((x.toNat:Nat):Int)=x.toNat:=wrap_u64 (by omega);have w1:IntKind.i64.wrap ((i:Int)+1)=(i:Int)+1:=wrap_i64 (by omega);simp[↓al,hi,hx,u8,w0,w1,-getElem?_pos];refine⟨[.keep [3,6,7,8]],?_⟩;rw[EA,hor];simp;exact hK _ (by simp)
 ·simp[↓al];refine aA.plain [] ?_;simp
def W4 (b:List UInt8):Prop:=1≤b.length∧b.length≤2000∧
 (((b.getD 0 0).toNat/16=4∧20≤b.length∧5≤(b.getD 0 0).toNat%16∧4*((b.getD 0 0).toNat%16)≤I8 ((b.take 4).drop 2)∧I8 ((b.take 4).drop 2)=b.length)∨
  ((b.getD 0 0).toNat/16=6∧40≤b.length∧40+I8 ((b.take 6).drop 4)=b.length))
def Oc (b:List UInt8) (r:PV):Prop:=∃(x y:iI) (L e:Int),r= .tup [.st 35 [cP x,cP y,.int .i64 L],.int .i64 e]∧((e=0∧L=b.length)↔W4 b)
theorem Oc.bad {b:List UInt8} {e:Int} (he:e≠0) (h:¬W4 b):Oc b (.tup [.st 35 [.st 17 [.bl false,.ar 1 16 (zr 16 (.int .u8 0))],.st 17 [.bl false,.ar 1 16 (zr 16 (.int .u8 0))],.int .i64 0],.int .i64 e]):=by
 refine⟨WT,WT,0,e,?_,⟨λg=>absurd g.1 he,λg=>absurd g h⟩⟩;rw[show cP WT= .st 17 [.bl false,.ar 1 16 (zr 16 (.int .u8 0))] by rw[cg];rfl]
theorem hi4:∀b:Fin 256,(b.val:Int).fdiv (2^min 4 IntKind.u8.bits)=((b.val/16:Nat):Int):=by decide+kernel
end Go.Ab
