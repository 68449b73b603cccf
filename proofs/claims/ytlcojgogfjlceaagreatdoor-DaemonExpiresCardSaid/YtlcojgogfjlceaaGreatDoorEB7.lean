/- Functions of the program and of the document, as the abstract reading walks them, part 7. No condition. -/
import Derived.Test.YtlcojgogfjlceaaGreatDoorEKS
import Derived.Test.YtlcojgogfjlceaaGreatDoorEA5
import Derived.Test.YtlcojgogfjlceaaGreatDoorESF1
import Derived.Test.YtlcojgogfjlceaaGreatDoorESF2
import Derived.Test.YtlcojgogfjlceaaGreatDoorESF3
import Derived.Test.YtlcojgogfjlceaaGreatDoorESF4
import Derived.Test.YtlcojgogfjlceaaGreatDoorESF5
import Derived.Test.YtlcojgogfjlceaaGreatDoorESF6
import Derived.Tactics
import Derived.Test.YtlcojgogfjlceaaGreatDoorEB6
import Derived.Lib.ItoaLen
set_option maxRecDepth 100000
set_option maxHeartbeats 1000000
set_option linter.all false
noncomputable section
namespace Go.Ab
variable {P:Program}
theorem ae.GL {f:FuncId} {args:List PV} {v:PV} {u:Value} (he:∀(vs:Array Value) (w:World),(callFunc f vs).run P w= .ok (.enter f vs) w) (hv:∀Γ,aK Γ v u)
  (h:∀(Γ:Cx) (w:World) (vs:List Value),w.heap=Γ.heap->Mem Γ->Γ.bx=[]->eY Γ args vs->Calls P f vs.toArray w λe w'=>e= .returned u∧WF w w'∧w.heap.size≤w'.heap.size∧∀b,b<w.heap.size->w'.heap[b]? =w.heap[b]?):
  aL P f args v:=by
 intro Γ w vs h1 h2 h3 h4;refine .inl ⟨he _ _,?_⟩;have ly:Γ.bx=[]:=by rw[h3];rfl
 refine(h Γ w vs h1 h2 ly h4).mono ?_;rintro e w' ⟨rfl,g1,g2,g3⟩;rw[h1]at g2 g3
 have Z5:∀b,¬Γ.gn b:=by
  rintro b ⟨k,blk,q1,_⟩;rw[ly]at q1;simp at q1
 have hle:Le Γ {Γ with heap:=w'.heap}:=by
  refine⟨λb hb _=>g3 b hb,λb _ hm=>hm,rfl,g2,λk blk hk=> ?_⟩;rw[ly]at hk;simp at hk
 refine⟨u,v,[],{Γ with heap:=w'.heap},rfl,⟨rfl,rfl⟩,rfl,⟨λk blk hk=> ?_,h2.inj,λb hb=>JiX (h2.b9 b hb) g2,h2.apart,h2.kZ hle⟩,h3,hv _,hle,g1⟩;have RW:get Γ.bx k=some blk:=hk;rw[ly]at RW;simp at RW
theorem NR {Γ:Cx} {w:World} (h:w.heap=Γ.heap) (hm:Mem Γ):Lib.TabIs Pg w "internal/strconv.uint64pow10" .u64 Lib.pow10Tab:=by
 obtain⟨_,e,x,hx⟩:=hm.xA 1 _ rfl;have hg:Pg.globalNamed "internal/strconv.uint64pow10" =some 1:=by kernel_rfl
 unfold Lib.TabIs World.var?;rw[hg];simp only[JlZ,h,hx]
theorem alR {n:Int} (h0: -9223372036854775808≤n) (h1:n≤9223372036854775807):aL Pg 119 [.int .i64 n] (.str (Lib.itoa n)):=by
 refine ae.GL (u:= .string ⟨(Lib.itoa n).toArray⟩) (Go.Proofs.enters_of Go.Proofs.Tryz.func119 (by kernel_rfl) rfl) (λΓ=>sc (by simp)) ?_;intro Γ w vs hw hm hb ha;match vs,ha with
 |
  [v],ha=>
  obtain rfl:v= .int .i64 n:=by
   have:=ha.1;simp only[aK]at this;cases this;rfl
  refine(Go.Proofs.Tryz.strconv_Itoa n h0 h1 w (NR hw hm)).mono ?_
  rintro e w' ⟨rfl,k,os,rfl⟩
  refine⟨rfl,⟨rfl,rfl,rfl⟩,?_,λb hb=> ?_⟩
  ·simp[Go.Sort.grow]
  ·simp only[Go.Sort.grow,World.drewN]
   exact Array.getElem?_append_left hb
theorem Rv {w:World} {b o:Nat} {v:Value} (h:cell w.heap b o=some v):w.cell? ⟨b,o,none⟩=some v:=by
 unfold cell at h;split at h
 ·rename_i c e x hb;simp[World.cell?,hb,h]
 ·simp at h
theorem Ff {Γ:Cx}:∀ {xs:List (List UInt8)} {cs:List Value},aD Γ (xs.map PV.str) cs->∃bs:List ByteArray,cs=bs.map Value.string∧bs.map (·.data.toList)=xs
 |[],cs,h=>by cases h;exact⟨[],rfl,rfl⟩
 |
  x::xs,cs,h=>by
  cases h with
  |
   str l s hs hr=>
   obtain⟨bs,rfl,e⟩:=Ff hr
   exact⟨s::bs,rfl,by simp[hs,e]⟩
theorem atL {xs:List (List UInt8)} {sep:List UInt8} (h0:xs≠[]) (hN:xs.length≤140737488355328) (hl:(Lib.join xs sep).length≤140737488355328) (c:Bool):
  aL Pg 201 [.sl 1 (xs.map PV.str) c,.str sep] (.str (Lib.join xs sep)):=by
 refine ae.GL (u:= .string ⟨(Lib.join xs sep).toArray⟩) (Go.Proofs.enters_of Go.Proofs.Tryz.func201 (by kernel_rfl) rfl) (λΓ=>sc (by simp)) ?_;intro Γ w vs hw hm hb ha;match vs,ha with
 |
  [v,v2],ha=>
  obtain⟨h1,h2,_⟩:=ha
  simp only[aK]at h1 h2
  cases h2 with
  |str l s hs qP=>
  cases h1 with
  |
   sl sz l clip a aX g1 g2 g3 g4 g5 g6=>
   obtain⟨bs,rfl,e⟩:=Ff g1
   obtain⟨b,o,rfl,q1,q2,q3⟩:=g5 (by simpa using h0)
   have hlen:(xs.map PV.str).length=bs.length:=by rw[←e];simp
   rw[hlen]
   have:=Go.Proofs.Tryz.strings_Join b o aX bs s w (λj x hj=>by
    have:=q3 j (.string x) (by simp[hj]);rw[←hw]at this;exact Rv this) (by rw[hw];exact q1) (by rw[←e]at hN;simpa using hN) (by rw[←hlen];exact g3) (by rw[e,hs];exact hl)
   rw[e,hs]at this
   refine this.mono ?_
   rintro e w' ⟨rfl,k⟩
   exact⟨rfl,⟨k.os,k.tape,k.output⟩,k.size,k.block⟩
theorem Ei (va vb:Value) (c:Int) (w:World) (hc:(Go.Extern.BytealgCompare.compare #[va,vb]).run Pg w= .ok (.int .i64 c) w):
  Calls Pg 89 #[va,vb] w λe w'=>e= .returned (.int .i64 c)∧w'=w:=by
 have hx:(callFunc 182 #[va,vb]).run Pg w= .ok (.value (.int .i64 c)) w:=by
  have e1:Extern.findNext Go.Proofs.Tryz.f182=none:=by kernel_rfl
  have e2:Extern.find Go.Proofs.Tryz.f182=some Go.Extern.BytealgCompare.compare:=by kernel_rfl
  have e3:(Go.Proofs.Tryz.f182.name== "runtime.NumGoroutine")=false:=by kernel_rfl
  have e4:Go.Proofs.Tryz.f182.body.isNone=true:=by kernel_rfl
  have e3':¬Go.Proofs.Tryz.f182.name= "runtime.NumGoroutine" :=by simpa using e3
  have e4':Go.Proofs.Tryz.f182.body=none:=by simpa using e4
  simp only[callFunc,bJ];simp[Go.Proofs.Tryz.func182,e1,e2,e3',e4',run_mark,hc]
 go_enter Go.Proofs.Tryz.func89,Go.Proofs.Tryz.ntmps89;go_wp2;go_ret;exact⟨rfl,rfl⟩
theorem Fg (P:Program) (w:World):∀(l:List UInt8) (b o:Nat) (acc:ByteArray),(∀i x,l[i]? =some x->w.cell? ⟨b,o+i,none⟩=some (.int .u8 (x.toNat:Int)))->
  (Go.Extern.Bytes.loadBytes ⟨b,o,none⟩ l.length acc).run P w= .ok ⟨(acc.data.toList++l).toArray⟩ w
 |[],b,o,acc,h=>by simp[Go.Extern.Bytes.loadBytes]
 |
  x::l,b,o,acc,h=>by
  have h0:=h 0 x rfl
  simp only[JnX]at h0
  have ih:=Fg P w l b (o+1) (acc.push x) (λi y hi=>by
   have:=h (i+1) y (by simpa using hi);rwa [show o+1+i=o+(i+1) by omega])
  have e:(Addr.add ⟨b,o,none⟩ 1)=(⟨b,o+1,none⟩:Addr):=rfl
  have hx:((x.toNat:Int)).toNat.toUInt8=x:=by simp
  simp only[JcQ,Go.Extern.Bytes.loadBytes,bJ,run_load,h0,rJ,e,hx]
  rw[ih]
  simp
def Ky (a b:List UInt8):Int:=Go.Extern.BytealgCompare.cmp ⟨a.toArray⟩ ⟨b.toArray⟩
theorem AQ {Γ:Cx}:∀ {xs:List UInt8} {cs:List Value},aD Γ (xs.map u8) cs->cs=xs.map (λx=>Value.int .u8 (x.toNat:Int))
 |[],cs,h=>by cases h;rfl
 |
  x::xs,cs,h=>by
  simp only[JdX,u8]at h
  cases h with
  |int k n hr=>rw[AQ hr];rfl
theorem AR {Γ:Cx} {w:World} (hw:w.heap=Γ.heap) {xs:List UInt8} {c:Bool} {v:Value} (h:aK Γ (.sl 1 (xs.map u8) c) v):(Go.Extern.Bytes.bytesOf v).run Pg w= .ok ⟨xs.toArray⟩ w:=by
 simp only[aK]at h;cases h with
 |
  sl sz l clip a aX g1 g2 g3 g4 g5 g6=>
  cases a with
  |
   none=>
   have:xs=[]:=by
    by_cases hx:xs=[]
    ·exact hx
    ·obtain⟨b,o,e,_⟩:=g5 (by simpa using hx);simp at e
   subst this
   rfl
  |
   some ad=>
   by_cases hx:xs=[]
   ·subst hx;rfl
   ·obtain⟨b,o,e,q1,q2,q3⟩:=g5 (by simpa using hx)
    obtain rfl:ad=⟨b,o,none⟩:=by simpa using e
    have DU:=AQ g1
    have:=Fg Pg w xs b o .empty (λi x hi=>Rv (by rw[hw];exact q3 i _ (by rw[DU];simp[hi])))
    simp only[JaX,Go.Extern.Bytes.bytesOf]
    rw[this]
    rfl
theorem Compare (a b:List UInt8) (c d:Bool):aL Pg 89 [.sl 1 (a.map u8) c,.sl 1 (b.map u8) d] (.int .i64 (Ky a b)):=by
 refine ae.GL (u:= .int .i64 (Ky a b)) (Go.Proofs.enters_of Go.Proofs.Tryz.func89 (by kernel_rfl) rfl) (λΓ=>cB) ?_;intro Γ w vs hw hm hb ha;match vs,ha with
 |
  [v,v2],ha=>
  obtain⟨h1,h2,_⟩:=ha
  refine(Ei v v2 (Ky a b) w ?_).mono ?_
  ·have e:Go.Extern.BytealgCompare.compare #[v,v2]=(do Pure.pure (goInt (Go.Extern.BytealgCompare.cmp (←Go.Extern.Bytes.bytesOf v) (←Go.Extern.Bytes.bytesOf v2)))):=rfl
   rw[e]
   simp only[bJ,AR hw h1,AR hw h2,rJ]
   rfl
  ·rintro e w' ⟨rfl,rfl⟩
   exact⟨rfl,WF.refl _,JaQ _,λ_ _=>rfl⟩
def aul (l:List bM):Nat->Bool
 |0=>false
 |
  j+1=>match l[j]?,l[j+1]?with
  |some a,some b=> !Op.bytesLess a.b8.l b.b8.l
  |_,_=>false
def r2 (d:bh):Bool:=decide (fst (aul d.an) d.an.length=d.an.length)&&decide ((d.an.length:Int)≤8)
@[simp] theorem amI (f:Fn) (a b:List PV):(PV.fn f a b).width=1:=rfl
def amJ (d:bh) (p:bM):Bool:=if p.hand.has=true then p.fD&&(Ja p.hand.started 0 p.hand.C0&&decide (p.hand.C0≤d.now))else PV.beq (lU p.hand) (lU yA)
def r4 (d:bh):Bool:=d.an.all (amJ d)
def aum (d:bh) (s:kS) (w:z6):Bool:=Ja s.born 0 d.now&&decide (s.fC=d.rules.sy)&&decide (s.next≤18446744073709543423)&&(w.used||PV.beq (wP w) NM.p)
def Rw (s:kS):Prop:=∃w,s.GZ=GG w
def wn (s:kS):z6:=by
 classical
 exact if h:Rw s then Classical.choose h else zW
def ads (d:bh) (x:ue):Bool:=if x.has=true then aum d x.mZ (wn x.mZ)else PV.beq (gY x) (gY oN)
def amK (d:bh) (p:bM):Bool:=decide (fst (λi=> !ads d (Is p.ring (i+1))) 3=3)
def ZN (p:bM):Prop:=Rw p.ring.p.mZ∧Rw p.ring.c.mZ∧Rw p.ring.n.mZ
theorem ZN.get {p:bM} (h:ZN p) {i:Nat} (hi:i<3):Rw (Is p.ring (i+1)).mZ:=by
 rcases(by omega:i=0∨i=1∨i=2)with rfl|rfl|rfl
 ·exact h.1
 ·exact h.2.1
 ·exact h.2.2
def r5 (d:bh):Bool:=d.an.all (amK d)
theorem Rx (a b:iG):PV.beq (cN a) (cN b)=(decide (a.sA=b.sA)&&decide (a.ip=b.ip)):=by
 simp only[cN,PV.beq,PV.lC,GD,Bool.and_true];cases a.sA<;>cases b.sA<;>simp
def iG.uf (a:iG) (i:Nat):UInt8:=a.ip.getD i 0
theorem iG.atn (a:iG) {i:Nat} (h:i<16):a.ip[i]? =some (a.uf i):=by
 have:i<a.ip.length:=by rw[a.h];exact h
 simp[iG.uf,List.getD,gJ this]
theorem iG.Ry {a b:List UInt8} (ha:a.length=16) (hb:b.length=16) (h:∀i,i<16->a.getD i 0=b.getD i 0):a=b:=by
 apply JnQ (by omega);intro i h1 h2;have:=h i (by omega);simpa[List.getD,gJ h1,gJ h2]using this
def ug (a:iG):Bool:=a.sA||decide (fst (λi=>a.uf (4+i) !=0) 12=12)
def Ej (a:iG):iG:=⟨a.sA,a.ip.take 4++List.replicate 12 0,by simp[a.h]⟩
theorem Rz (a:iG) (i:Nat):(Ej a).uf i=if i<4 then a.uf i else 0:=by
 simp only[iG.uf,Ej,List.getD];by_cases h:i<4
 ·rw[if_pos h,List.getElem?_append_left (by simp[a.h];omega),List.getElem?_take,if_pos h]
 ·rw[if_neg h,List.getElem?_append_right (by simp[a.h];omega),List.getElem?_replicate];split<;>rfl
theorem WB (a:iG):a.ip=(Ej a).ip↔fst (λi=>a.uf (4+i) !=0) 12=12:=by
 rw[L6];constructor
 ·intro h i hi;have:a.uf (4+i)=(Ej a).uf (4+i):=by unfold iG.uf;rw[←h]
  rw[this,Rz,if_neg (by omega)];simp
 ·intro h;refine iG.Ry a.h (Ej a).h λi hi=> ?_;show a.uf i=(Ej a).uf i;rw[Rz];split
  ·rfl
  ·have:=h (i-4) (by omega);rw[show 4+(i-4)=i by omega]at this;simpa using this
theorem J4 (a:iG):aL Pg 191 [cN a] (.bl (ug a)):=by
 refine ae.intro (aC R.vn.2) (by simp[R.vn]) ?_;simp[R.vn,aj,av]
 have he:yn a (PV.ar 1 16 (List.take 4 (List.map u8 a.ip)++PV.int IntKind.u8 0::PV.int IntKind.u8 0::PV.int IntKind.u8 0::PV.int IntKind.u8 0::PV.int IntKind.u8 0::PV.int IntKind.u8 0::PV.int IntKind.u8 0::PV.int IntKind.u8 0::PV.int IntKind.u8 0::PV.int IntKind.u8 0::PV.int IntKind.u8 0::PV.int IntKind.u8 0::List.drop 16 (List.map u8 a.ip)))=cN (Ej a):=by
  have:List.drop 16 (List.map u8 a.ip)=[]:=JgV (by simp[a.h]);rw[this];simp[yn,cN,Ej,u8,List.replicate]
 rw[he];refine⟨by simp,?_⟩;cases h6:a.sA
 ·refine⟨by simp,?_⟩;simp;refine aA.plain [] ?_
  have hb:PV.beq (cN a) (cN (Ej a))=decide (fst (λi=>a.uf (4+i) !=0) 12=12):=by
   rw[Rx,show(Ej a).sA=a.sA from rfl];simp[WB]
  simp[ug,h6,hb]
 ·simp;refine aA.plain [] ?_;simp[ug,h6]
def yu (f:Nat->UInt8) (l:List UInt8) (i:Nat):List UInt8:=(List.range l.length).map λj=>if j<i then f j else l.getD j 0
theorem yK (f:Nat->UInt8) (l:List UInt8) (i:Nat):(yu f l i).length=l.length:=by simp[yu]
theorem GM (f:Nat->UInt8) (l:List UInt8) (i:Nat) {j:Nat} (h:j<l.length):(yu f l i)[j]? =some (if j<i then f j else l.getD j 0):=by simp[yu,h]
theorem adt (f:Nat->UInt8) (l:List UInt8):yu f l 0=l:=by
 apply JnQ (by simp[yK]);intro j h1 h2;have:=GM f l 0 h2;rw[gJ h1]at this;simpa[List.getD,gJ h2]using this
theorem RA (f:Nat->UInt8) (l:List UInt8) (i:Nat):((yu f l i).map u8).set i (u8 (f i))=(yu f l (i+1)).map u8:=by
 rw[←JfJ];congr 1;apply JnQ (by simp[yK]);intro j h1 h2;simp only[yu,JpW,JqJ,List.getElem_range];by_cases e:i=j
 ·subst e;simp
 ·simp only[e,if_false];by_cases e2:j<i
  ·rw[if_pos e2,if_pos (by omega)]
  ·rw[if_neg e2,if_neg (by omega)]
def cb (n:Nat) (b:UInt8):UInt8:=b&&& ~~~((255:UInt8)>>>UInt8.ofNat n)
theorem aun:∀(n:Fin 9) (b:Fin 256),bits .and .u8 (b.val:Int) (bits .xor .u8 (if IntKind.u8.signed=true then-1 else IntKind.u8.max) (Int.fdiv 255 (2^min n.val IntKind.u8.bits)))=((if n.val=8 then b.val else(cb n.val (UInt8.ofNat b.val)).toNat:Nat):Int):=by decide+kernel
def lf (n i:Nat):Nat:=min (n-8*i) 8
def uP (a:iG) (n i:Nat):UInt8:=if lf n i=8 then a.uf i else cb (lf n i) (a.uf i)
theorem adu (a:iG) (n i:Nat):bits .and .u8 ((a.uf i).toNat:Int) (bits .xor .u8 (if IntKind.u8.signed=true then-1 else IntKind.u8.max) (Int.fdiv 255 (2^min (lf n i) IntKind.u8.bits)))=((uP a n i).toNat:Int):=by
 have:=aun ⟨lf n i,by unfold lf;omega⟩ ⟨(a.uf i).toNat,(a.uf i).toNat_lt⟩;simp only at this;rw[this];unfold uP;split
 ·rfl
 ·simp
def uO (a:iG) (n:Nat):iG:=⟨a.sA,yu (uP a n) a.ip 16,by rw[yK,a.h]⟩
theorem ab5 (a:iG) {n:Nat} (hn:n≤128):aL Pg 192 [cN a,.int .i64 n] (cN (uO a n)):=by
 refine ae.intro (aC R.Ac.2) (by simp[R.Ac]) ?_;simp[R.Ac,aj,av];refine eW.fM 16 (λ_=>True) [1,2,4,7] (λi=>[(7,.int .i64 i)]) (λi=>[(2,.box (.st 17 [.bl a.sA,.ar 1 16 ((yu (uP a n) a.ip i).map u8)]))]) [.keep [1,2,4,7]] ?_;simp[adt,cN];refine⟨λi hi K hK=> ?_,λK=> ?_⟩
 ·have hx:=GM (uP a n) a.ip i (j:=i) (by rw[a.h];exact hi);rw[if_neg (by omega)]at hx;have hx:(yu (uP a n) a.ip i)[i]? =some (a.uf i):=hx;have hw:IntKind.i64.wrap ((i:Int)+1)=(i:Int)+1:=wrap_i64 (by omega);have Fp:IntKind.i64.wrap (8*(i:Int))=8*(i:Int):=wrap_i64 (by omega);have BU:IntKind.i64.wrap ((n:Int)-8*(i:Int))=(n:Int)-8*(i:Int):=wrap_i64 (by omega);have Ai:(i:Int)<16:=by omega
  have hm:min (max ((n:Int)-8*(i:Int)) 0) 8=(lf n i:Int):=by unfold lf;omega
  have he:=adu a n i;have hs:=RA (uP a n) a.ip i;have hlen:=yK (uP a n) a.ip i;generalize yu (uP a n) a.ip i=L at*;generalize yu (uP a n) a.ip (i+1)=M at*;generalize a.uf i=b at*;generalize lf n i=q at*;generalize uP a n i=c at*;have e1:(L.map u8).set i (PV.int IntKind.u8 (c.toNat:Int))=M.map u8:=hs;simp[↓al,Ai,hx,hw,Fp,BU,hm,aB,-getElem?_pos];refine⟨.inr (.inr rfl),⟨rfl,rfl⟩,[.keep [1,2,4,7]],?_⟩;simp only[he,e1];simp;exact hK _ (by simp)
 ·simp[↓al];refine aA.plain [] ?_;simp[uO]
def vZ (p:xt):Bool:=ug p.addr&&decide (0≤p.bits)&&decide (p.bits≤if p.addr.sA=true then 128 else 32)&&decide (p.addr.ip=(uO p.addr p.bits.toNat).ip)
theorem L7 (a:iG):fits (Sh.st [Sh.b,Sh.ar 16 (Sh.i IntKind.u8)]) (cN a)=true:=ER a
theorem zI (p:xt):aL Pg 173 [gr p] (.bl (vZ p)):=by
 refine ae.intro T.mD (by simp[F.mD]) ?_;have hr:vZ p=(ug p.addr&&decide (0≤p.bits)&&decide (p.bits≤if p.addr.sA=true then 128 else 32)&&decide (p.addr.ip=(uO p.addr p.bits.toNat).ip)):=rfl;have h1:=L7 p.addr
 have hb:PV.beq (cN (uO p.addr p.bits.toNat)) (cN p.addr)=decide (p.addr.ip=(uO p.addr p.bits.toNat).ip):=by
  rw[Rx,show(uO p.addr p.bits.toNat).sA=p.addr.sA from rfl];simp[eq_comm]
 have h2:=L7 (uO p.addr p.bits.toNat);cases h6:p.addr.sA
 ·simp[F.mD,aj,av,h6];refine aM.rA (J4 p.addr) ?_;cases g1:ug p.addr
  ·simp;refine aA.plain [] ?_;simp[hr,g1]
  by_cases g2:0≤p.bits
  ·by_cases g3:p.bits≤32
   ·have hc:=ab5 p.addr (n:=p.bits.toNat) (by omega);rw[show((p.bits.toNat:Nat):Int)=p.bits by omega]at hc;simp[g2,g3];refine aM.rA hc ?_;simp[h1,h2];refine aA.plain [] ?_;simp[hr,g1,g2,g3,h6,hb]
   ·simp[g2,g3];refine aA.plain [] ?_;simp[hr,g3,h6]
  ·simp[g2];refine aA.plain [] ?_;simp[hr,g2]
 ·simp[F.mD,aj,av,h6];refine aM.rA (J4 p.addr) ?_;cases g1:ug p.addr
  ·simp;refine aA.plain [] ?_;simp[hr,g1]
  by_cases g2:0≤p.bits
  ·by_cases g3:p.bits≤128
   ·have hc:=ab5 p.addr (n:=p.bits.toNat) (by omega);rw[show((p.bits.toNat:Nat):Int)=p.bits by omega]at hc;simp[g2,g3];refine aM.rA hc ?_;simp[h1,h2];refine aA.plain [] ?_;simp[hr,g1,g2,g3,h6,hb]
   ·simp[g2,g3];refine aA.plain [] ?_;simp[hr,g3,h6]
  ·simp[g2];refine aA.plain [] ?_;simp[hr,g2]
def rH (a:iG) (i:Nat):Nat:=(a.uf (i/8)).toNat/2^(7-i%8)%2
theorem akQ:∀(k:Fin 8) (b:Fin 256),bits .and .u8 ((b.val:Int).fdiv (2^k.val)) 1=((b.val/2^k.val%2:Nat):Int):=by decide+kernel
theorem adv:∀(q:Fin 8) (b:Fin 256),cb q.val (UInt8.ofNat b.val)=UInt8.ofNat b.val↔∀k:Fin 8,q.val≤k.val->b.val/2^(7-k.val)%2=0:=by decide+kernel
theorem IS (a:iG) (n j:Nat):uP a n j=a.uf j↔∀k,k<8->n≤8*j+k->(a.uf j).toNat/2^(7-k)%2=0:=by
 unfold uP;split
 ·rename_i h;refine⟨λ_ k hk hn=> ?_,λ_=>rfl⟩;unfold lf at h;omega
 ·rename_i h;have hq:lf n j<8:=by unfold lf at h⊢;omega
  have:=adv ⟨lf n j,hq⟩ ⟨(a.uf j).toNat,(a.uf j).toNat_lt⟩;simp only[UInt8.ofNat_toNat]at this;rw[this];constructor
  ·intro h1 k hk hn;exact h1 ⟨k,hk⟩ (by show lf n j≤k;unfold lf;omega)
  ·intro h1 k hk;exact h1 k.val k.isLt (by have yT:lf n j≤k.val:=hk;unfold lf at yT h;have:=k.isLt;omega)
theorem DF (p:xt) (h0:0≤p.bits) (h1:p.bits≤128):(∀i,i<128-p.bits.toNat->rH p.addr (p.bits.toNat+i)=0)↔p.addr.ip=(uO p.addr p.bits.toNat).ip:=by
 obtain⟨n,hn⟩:∃n,n=p.bits.toNat:=⟨_,rfl⟩
 rw[←hn]
 have hat:∀j,j<16->(uO p.addr n).uf j=uP p.addr n j:=λj hj=>by
  have:=GM (uP p.addr n) p.addr.ip 16 (j:=j) (by rw[p.addr.h];exact hj);rw[if_pos hj]at this;simp only[iG.uf,uO,List.getD,this];rfl
 constructor
 ·intro h;refine iG.Ry p.addr.h (uO p.addr n).h λj hj=> ?_;show p.addr.uf j=(uO p.addr n).uf j;rw[hat j hj];refine((IS p.addr n j).2 λk hk hnk=> ?_).symm;have:=h (8*j+k-n) (by omega);rw[show n+(8*j+k-n)=8*j+k by omega]at this;unfold rH at this;rwa [show(8*j+k)/8=j by omega,show(8*j+k)%8=k by omega]at this
 ·intro h i hi;have hj:(n+i)/8<16:=by omega
  have:=(IS p.addr n ((n+i)/8)).1 (by rw[←hat _ hj];unfold iG.uf;rw[←h]) ((n+i)%8) (by omega) (by omega);exact this
def qt (u i:Nat):Nat:=u/16^i
def auo:List UInt8:=[48,49,50,51,52,53,54,55,56,57,97,98,99,100,101,102,103,104,105,106,107,108,109,110,111,112,113,114,115,116,117,118,119,120,121,122]
def dg (u i:Nat):UInt8:=auo.getD (qt u i%16) 0
theorem RB {bx:List (Nat×aU)}:∀ {l:List PV},ah (λ_=>false) l=true->XY bx l l
 |[],_=>trivial
 |
  p::r,h=>by
  simp only[ah,aJ]at h
  exact⟨.inl (.inl ⟨rfl,h.1⟩),RB h.2⟩
theorem alT {f:FuncId} {sz:Nat} {xs rest:List PV} {v:PV} (hA:aL Pg f (.sl sz xs false::rest) v) (fA:0<sz) (hw:∀x∈xs,x.width=sz) (hx:ah (λ_=>false) xs=true) (hr:ah (λ_=>false) rest=true)
  (hv:gf v=true) (hvp:Pure v):ae Pg f (.rs KB [] 0 xs.length xs.length sz .tip::rest) [.arr sz xs] (λr fp=>r=v∧fp=[.arr sz xs]):=by
 have h:=ae.view (args:= .rs KB [] 0 xs.length xs.length sz .tip::rest) (fp:=[.arr sz xs]) hA ⟨.inl (.inr ⟨KB,[],0,xs.length,xs.length,sz,.tip,xs,rfl,by simp[get,av],hx,fA,rfl⟩),RB hr⟩ (λr new e=>by
  obtain⟨rfl,rfl⟩:=e;exact⟨hv,rfl⟩)
 refine h.mono ?_;rintro r xp ⟨r0,new,⟨rfl,rfl⟩,rfl,rfl⟩;exact⟨hvp.aE _,by simp⟩
theorem VR (l:List (List UInt8)):au (l.map PV.str):=aF (λx=>(by simp:Pure (PV.str x))) l
def SR (a:iG) (n:Nat):List (List UInt8):=(a.ip.take n).map (λb=>Lib.itoa (b.toNat:Int))
theorem Gp {a:iG} {n:Nat} (h:n≤16):(SR a n).length=n:=by simp[SR,a.h];omega
theorem QC (a:iG) {n:Nat} {b:UInt8} (h:a.ip[n]? =some b):SR a (n+1)=SR a n++[Lib.itoa (b.toNat:Int)]:=by
 unfold SR;rw[List.take_add_one,h];simp
theorem NS {a:iG} (h6:a.sA=false):vZ ⟨a,32⟩=ug a:=by
 unfold vZ;cases h:ug a
 ·simp
 ·have hz:∀j,4≤j->j<16->a.uf j=0:=by
   intro j h1 h2;unfold ug at h;rw[h6,Bool.false_or,decide_eq_true_eq,L6]at h;have:=h (j-4) (by omega);rw[show 4+(j-4)=j by omega]at this;simpa using this
  have:=(DF ⟨a,32⟩ (show(0:Int)≤32 by decide) (show(32:Int)≤128 by decide)).1 (λi hi=>by
   simp only at hi⊢;unfold rH;rw[hz _ (by simp;omega) (by simp at hi⊢;omega)];simp)
  have this:a.ip=(uO a 32).ip:=this;simp[h6,←this]
theorem Kz {a:iG} (h6:a.sA=true):vZ ⟨a,128⟩=ug a:=by
 unfold vZ;have:=(DF ⟨a,128⟩ (show(0:Int)≤128 by decide) (show(128:Int)≤128 by decide)).1 (λi hi=>by simp at hi);have this:a.ip=(uO a 128).ip:=this;simp[h6,←this]
theorem VQ (a:iG):aL Pg 199 [cN a] (.bl (ug a)):=by
 refine ae.intro (aC R.pD.2) (by simp[R.pD]) ?_;cases h6:a.sA
 ·have hv:=zI ⟨a,32⟩;rw[NS h6]at hv;have he:(.st 18 [cN a,.int .i64 32]:PV)=gr ⟨a,32⟩:=rfl;simp[R.pD,aj,av,h6];rw[he];refine ai.rA hv ?_;simp;refine aA.plain [] ?_;simp
 ·have hv:=zI ⟨a,128⟩;rw[Kz h6]at hv;have he:(.st 18 [cN a,.int .i64 128]:PV)=gr ⟨a,128⟩:=rfl;simp[R.pD,aj,av,h6];rw[he];refine ai.rA hv ?_;simp;refine aA.plain [] ?_;simp
def w16 (a:iG) (i:Nat):Nat:=(a.uf (2*i)).toNat*256+(a.uf (2*i+1)).toNat
theorem L8:∀ {xs:List (List UInt8)} {m:Nat},(∀x∈xs,x.length≤m)->Lib.lens xs≤m*xs.length
 |[],m,_=>by simp[Lib.lens]
 |
  x::xs,m,h=>by
  have h1:=h x (by simp)
  have h2:=L8 (xs:=xs) (m:=m) (λy hy=>h y (by simp[hy]))
  simp only[Lib.lens,JdX,List.sum_cons,JcQ,Nat.mul_add]at h2⊢
  omega
def Kb (a:iG):List UInt8:=Lib.join (SR a 4) [46]
theorem adw {xs:List (List UInt8)} {s:List UInt8} {m n:Nat} (hn:xs.length=n+2) (hs:s.length=1) (h:∀x∈xs,x.length≤m):1≤(Lib.join xs s).length∧(Lib.join xs s).length≤n+1+m*(n+2):=by
 match xs,hn with
 |
  x::y::r,hn=>
  rw[Lib.join_length]
  have:=L8 h
  rw[hn]at this
  simp at hn
  simp only[JcQ,hs]at*
  constructor<;>omega
theorem QD (a:iG):1≤(Kb a).length∧(Kb a).length≤1000:=by
 have:=adw (n:=2) (s:=[46]) (m:=21) (Gp (a:=a) (n:=4) (by omega)) rfl (λx hx=>by
  obtain⟨b,_,rfl⟩:=JgX.1 hx;have:=b.toNat_lt;exact Lib.itoa_length_le (b.toNat:Int) (by omega) (by omega))
 unfold Kb;omega
def gs (u:Nat):Nat->List UInt8
 |0=>[]
 |i+1=>dg u i::gs u i
def epB (e:H4):Bool:=ug e.addr&&decide (1≤e.port)&&decide (e.port≤65535)
def I7 (l:List UInt8):Nat:=l.foldl (λn x=>n*256+x.toNat) 0
theorem RC (l:List UInt8) (x:UInt8):I7 (l++[x])=I7 l*256+x.toNat:=by simp[I7]
theorem RD {l:List UInt8} {i:Nat} {x:UInt8} (h:l[i]? =some x):I7 (l.take (i+1))=I7 (l.take i)*256+x.toNat:=by
 rw[List.take_add_one,h];exact RC _ _
theorem RE:∀(l:List UInt8) (n:Nat),l.foldl (λn x=>n*256+x.toNat) n<(n+1)*256^l.length
 |[],n=>by simp
 |
  x::l,n=>by
  have h:=RE l (n*256+x.toNat)
  have hx:=x.toNat_lt
  have h2:(n*256+x.toNat+1)*256^l.length≤((n+1)*256)*256^l.length:=JcV _ (by omega)
  rw[List.foldl_cons,JcQ,Nat.pow_succ,Nat.mul_comm (256^l.length) 256,←Nat.mul_assoc]
  omega
theorem adx (l:List UInt8):I7 l<256^l.length:=by have:=RE l 0;simpa[I7]using this
theorem u64_or_nat (a b:Nat) (ha:a<18446744073709551616) (hb:b<18446744073709551616):bits .or .u64 (a:Int) (b:Int)=((a|||b:Nat):Int):=by
 have hx:a|||b<2^64:=JoW (by omega) (by omega)
 have h1:(BitVec.ofInt 64 (a:Int)).toNat=a:=by
  rw[JtV,BitVec.toNat_ofNat];exact JiJ (by omega)
 have h2:(BitVec.ofInt 64 (b:Int)).toNat=b:=by
  rw[JtV,BitVec.toNat_ofNat];exact JiJ (by omega)
 show IntKind.u64.wrap ((BitVec.ofInt 64 (a:Int)|||BitVec.ofInt 64 (b:Int)).toNat:Int)=_;rw[BitVec.toNat_or,h1,h2];exact wrap_u64 (by omega)
theorem orb {x y:Nat} (hy:y<256):(x*256)|||y=x*256+y:=by
 have:=Nat.shiftLeft_add_eq_or_of_lt (i:=8) (b:=y) (by omega) x;rw[Nat.shiftLeft_eq]at this;exact this.symm
theorem Qp {l:List UInt8} (hl:l.length≤8):aL Pg 103 [aQ l] (.int .u64 (I7 l)):=by
 refine ae.intro (aC R.rX.2) (by simp[R.rX]) ?_;simp[R.rX,aj,av];refine eW.fM l.length (λ_=>True) [3,6,7,8] (λi=>[(3,.int .u64 (I7 (l.take i))),(8,.int .i64 i)]) (λi=>[]) [.keep [3,6,7,8]] ?_;simp[show I7 []=0 from rfl];refine⟨λi hi K hK=> ?_,λK=> ?_⟩
 ·have hx:l[i]? =some l[i]:=gJ hi;have ht:=RD hx;have dk:=adx (l.take i);rw[lJ,JdW (by omega)]at dk;have awe:256^i≤256^7:=JtZ (by omega) (by omega);have hb:=l[i].toNat_lt;generalize I7 (l.take (i+1))=v at*;generalize I7 (l.take i)=n at*;generalize l[i]=x at*;have hn:n<72057594037927936:=JiX dk (by simpa using awe);have hor:=u64_or_nat (n*256) x.toNat (by omega) (by omega);rw[orb (by omega),←ht]at hor
  have DQ:IntKind.u64.wrap ((n:Int)*2^min 8 IntKind.u64.bits)=((n*256:Nat):Int):=by
   rw[show min 8 IntKind.u64.bits=8 from rfl,wrap_u64 (by omega)];omega
  have w0:IntKind.u64.wrap ((x.toNat:Nat):Int)=x.toNat:=wrap_u64 (by omega);have w1:IntKind.i64.wrap ((i:Int)+1)=(i:Int)+1:=wrap_i64 (by omega);simp[↓al,hi,hx,u8,w0,w1,-getElem?_pos];refine⟨[.keep [3,6,7,8]],?_⟩;rw[DQ,hor];simp;exact hK _ (by simp)
 ·simp[↓al];refine aA.plain [] ?_;simp
def WC (b:List UInt8):Prop:=1≤b.length∧b.length≤2000∧
 (((b.getD 0 0).toNat/16=4∧20≤b.length∧5≤(b.getD 0 0).toNat%16∧4*((b.getD 0 0).toNat%16)≤I7 ((b.take 4).drop 2)∧I7 ((b.take 4).drop 2)=b.length)∨
  ((b.getD 0 0).toNat/16=6∧40≤b.length∧40+I7 ((b.take 6).drop 4)=b.length))
def NT (b:List UInt8) (r:PV):Prop:=∃(x y:iG) (L e:Int),r= .tup [.st 35 [cN x,cN y,.int .i64 L],.int .i64 e]∧((e=0∧L=b.length)↔WC b)
theorem NT.bad {b:List UInt8} {e:Int} (he:e≠0) (h:¬WC b):NT b (.tup [.st 35 [.st 17 [.bl false,.ar 1 16 (zr 16 (.int .u8 0))],.st 17 [.bl false,.ar 1 16 (zr 16 (.int .u8 0))],.int .i64 0],.int .i64 e]):=by
 refine⟨Ww,Ww,0,e,?_,⟨λg=>absurd g.1 he,λg=>absurd g h⟩⟩;rw[show cN Ww= .st 17 [.bl false,.ar 1 16 (zr 16 (.int .u8 0))] by rw[cm];rfl]
theorem hi4:∀b:Fin 256,(b.val:Int).fdiv (2^min 4 IntKind.u8.bits)=((b.val/16:Nat):Int):=by decide+kernel
end Go.Ab
