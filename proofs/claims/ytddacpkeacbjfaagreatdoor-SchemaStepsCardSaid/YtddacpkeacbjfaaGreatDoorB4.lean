/- Walks of functions, part 4. No condition. -/
import Derived.Test.YtddacpkeacbjfaaGreatDoorB3
import Derived.Test.YtddacpkeacbjfaaGreatDoorKS
import Derived.Tactics
import Derived.Lib.ItoaLen
set_option maxRecDepth 100000
set_option maxHeartbeats 1000000
set_option linter.all false
noncomputable section
namespace Go.Ab
def jV (x a b:Int):Bool:=decide (a≤x)&&decide (x≤b)
def Sr {x a b:Int}:jV x a b=true↔a≤x∧x≤b:=by simp[jV]
def pw (x a b:Int):aP Pg 172 [.int .i64 x,.int .i64 a,.int .i64 b] (.bl (jV x a b)):=by
 refine ab.intro (aA R.oM.2) (by simp[R.oM]) ?_;by_cases h1:a≤x
 ·simp[R.oM,ah,az,h1];refine bH ?_;simp[jV,h1]
 ·simp[R.oM,ah,az,h1];refine bH ?_;simp[jV,h1]
def IM {s:St} {d:Option Nat} {x a b:Int} {K:UD} {t:Tg K} (h:K (s.put d (.bl (jV x a b)))):aj Pg s d 172 [.int .i64 x,.int .i64 a,.int .i64 b] K t:=aj.rA (pw x a b) h
def MW (x:Int):Prop:= -9223372036854775808≤x∧x≤9223372036854775807
def MW.w {x:Int} (h:MW x):IntKind.i64.wrap x=x:=wrap_i64 (by unfold MW at h;omega)
def uC (r:yx):Bool:=decide (¬r.zd<1)&&decide (¬r.pV<r.zd)&&decide (¬(18446744073709543423:Int)<r.pV)&&jV r.ret 1000 1073741824&&jV r.Gi 1000 1073741824&&jV r.cot 1 1073741824&&jV r.C1 1 1073741824&&jV r.iP 1 1073741824&&decide (r.C1≤r.iP)&&decide (r.Gi+r.ret<r.iP)&&jV r.att r.ret (20*r.ret)&&jV r.load 1 64&&jV r.fU 1 8
def aeV {r:yx} (hl:MW r.load) (hs:MW r.fU):aP Pg 171 [cQ r] (.bl (uC r)):=by
 refine ab.intro (aA R.lO.2) (by simp[R.lO]) ?_;have AP:=hl.w;have Dv:=hs.w;by_cases h1:r.zd<1
 ·simp[R.lO,ah,az,h1];refine bH ?_;simp[uC,h1]
 by_cases h2:r.pV<r.zd
 ·simp[R.lO,ah,az,h1,h2];refine bH ?_;simp[uC,h1,h2]
 by_cases h3:(18446744073709543423:Int)<r.pV
 ·simp[R.lO,ah,az,h1,h2,h3];refine bH ?_;simp[uC,h1,h2,h3]
 simp[R.lO,ah,az,h1,h2,h3];refine IM ?_;cases g1:jV r.ret 1000 1073741824
 ·simp;refine bH ?_;simp[uC,g1]
 simp;refine IM ?_;cases g2:jV r.Gi 1000 1073741824
 ·simp;refine bH ?_;simp[uC,g2]
 simp;refine IM ?_;cases g3:jV r.cot 1 1073741824
 ·simp;refine bH ?_;simp[uC,g3]
 simp;refine IM ?_;cases g4:jV r.C1 1 1073741824
 ·simp;refine bH ?_;simp[uC,g4]
 simp;refine IM ?_;cases g5:jV r.iP 1 1073741824
 ·simp;refine bH ?_;simp[uC,g5]
 have q1:=Sr.1 g1;have q2:=Sr.1 g2;have w1:IntKind.i64.wrap (r.Gi+r.ret)=r.Gi+r.ret:=wrap_i64 (by omega);have w2:IntKind.i64.wrap (20*r.ret)=20*r.ret:=wrap_i64 (by omega);by_cases h4:r.iP<r.C1
 ·simp[h4];refine bH ?_;simp[uC,show¬r.C1≤r.iP by omega]
 by_cases h5:r.Gi+r.ret<r.iP
 ·have h5':¬r.iP≤r.Gi+r.ret:=by omega
  simp[h4,h5',w1,w2];refine IM ?_;cases g6:jV r.att r.ret (20*r.ret)
  ·simp;refine bH ?_;simp[uC,g6]
  simp;refine IM ?_;cases g7:jV r.load 1 64
  ·simp;refine bH ?_;simp[uC,g7]
  simp;refine IM ?_;simp;refine bH ?_;simp[uC,h1,h2,h3,g1,g2,g3,g4,g5,g6,g7,h5,show r.C1≤r.iP by omega];try omega
 ·have h5':r.iP≤r.Gi+r.ret:=by omega
  simp[h4,h5',w1,w2];refine bH ?_;simp[uC,h5]
def r1 (d:aR):Bool:=uC d.rules&&jV d.now 0 1099511627776&&jV d.port 0 65535&&jV d.bad 0 1099511627776
def Ss {d:aR} (hl:MW d.rules.load) (hs:MW d.rules.fU) (hb:MW d.bad):aP Pg 95 [bN d] (.bl (r1 d)):=by
 refine ab.intro (aA R.qZ.2) (by simp[R.qZ]) ?_;have tB:=hb.w;simp[R.qZ,ah,az];refine aj.rA (aeV hl hs) ?_;cases g1:uC d.rules
 ·simp;refine bH ?_;simp[r1,g1]
 simp;refine IM ?_;cases g2:jV d.now 0 1099511627776
 ·simp;refine bH ?_;simp[r1,g2]
 by_cases h1:0≤d.port
 ·by_cases h2:d.port≤65535
  ·simp[h1,h2];refine IM ?_;simp;refine bH ?_;simp[r1,g1,g2,Sr.2 ⟨h1,h2⟩]
  ·simp[h1,h2];refine bH ?_;simp[r1,jV,h2]
 ·simp[h1];refine bH ?_;simp[r1,jV,h1]
variable {P:Program}
def ab.BF {f:FuncId} {args:WG} {v:PV} {u:Value} (he:∀(vs:Array Value) (w:World),(callFunc f vs).run P w= .ok (.enter f vs) w) (hv:∀Γ,aN Γ v u)
  (h:∀(Γ:Cx) (w:World) (vs:UE),w.heap=Γ.heap->Mem Γ->Γ.bx=[]->fE Γ args vs->Calls P f vs.toArray w λe w'=>e= .returned u∧WF w w'∧w.heap.size≤w'.heap.size∧∀b,b<w.heap.size->w'.heap[b]? =w.heap[b]?):
  aP P f args v:=by
 intro Γ w vs h1 h2 h3 h4;refine .inl ⟨he _ _,?_⟩;have lj:Γ.bx=[]:=by rw[h3];rfl
 refine(h Γ w vs h1 h2 lj h4).mono ?_;rintro e w' ⟨rfl,g1,g2,g3⟩;rw[h1]at g2 g3
 have yw:∀b,¬Γ.fM b:=by
  rintro b ⟨k,blk,q1,_⟩;rw[lj]at q1;simp at q1
 have hle:Le Γ {Γ with heap:=w'.heap}:=by
  refine⟨λb hb _=>g3 b hb,λb _ hm=>hm,rfl,g2,λk blk hk=> ?_⟩;rw[lj]at hk;simp at hk
 refine⟨u,v,[],{Γ with heap:=w'.heap},rfl,⟨rfl,rfl⟩,rfl,⟨λk blk hk=> ?_,h2.inj,λb hb=>JgZ (h2.cI b hb) g2,h2.apart,h2.kH hle⟩,h3,hv _,hle,g1⟩;have Fk:get Γ.bx k=some blk:=hk;rw[lj]at Fk;simp at Fk
theorem OU {Γ:Cx} {w:World} (h:w.heap=Γ.heap) (hm:Mem Γ):Lib.TabIs Pg w "internal/strconv.uint64pow10" .u64 Lib.pow10Tab:=by
 obtain⟨_,e,x,hx⟩:=hm.xj 1 _ rfl;have hg:Pg.globalNamed "internal/strconv.uint64pow10" =some 1:=by kernel_rfl
 unfold Lib.TabIs World.var?;rw[hg];simp only[JkJ,h,hx]
theorem aeW {n:Int} (h0: -9223372036854775808≤n) (h1:n≤9223372036854775807):aP Pg 250 [.int .i64 n] (.str (Lib.itoa n)):=by
 refine ab.BF (u:= .string ⟨(Lib.itoa n).toArray⟩) (Go.Proofs.enters_of Go.Proofs.Tryz.func250 (by kernel_rfl) rfl) (λΓ=>rD (by simp)) ?_;intro Γ w vs hw hm hb ha;match vs,ha with
 |
  [v],ha=>
  obtain rfl:v= .int .i64 n:=by
   have:=ha.1;simp only[aN]at this;cases this;rfl
  refine(Go.Proofs.Tryz.strconv_Itoa n h0 h1 w (OU hw hm)).mono ?_
  rintro e w' ⟨rfl,k,os,rfl⟩
  refine⟨rfl,⟨rfl,rfl,rfl⟩,?_,λb hb=> ?_⟩
  ·simp[Go.Sort.grow]
  ·simp only[Go.Sort.grow,World.drewN]
   exact Array.getElem?_append_left hb
def Su {w:World} {b o:Nat} {v:Value} (h:cell w.heap b o=some v):w.cell? ⟨b,o,none⟩=some v:=by
 unfold cell at h;split at h
 ·rename_i c e x hb;simp[World.cell?,hb,h]
 ·simp at h
theorem E4 {Γ:Cx}:∀ {xs:List (Zz)} {cs:UE},aC Γ (xs.map PV.str) cs->∃bs:List ByteArray,cs=bs.map Value.string∧bs.map (·.data.toList)=xs
 |[],cs,h=>by cases h;exact⟨[],rfl,rfl⟩
 |
  x::xs,cs,h=>by
  cases h with
  |
   str l s hs hr=>
   obtain⟨bs,rfl,e⟩:=E4 hr
   exact⟨s::bs,rfl,by simp[hs,e]⟩
theorem arb {xs:List (Zz)} {sep:Zz} (h0:xs≠[]) (hN:xs.length≤140737488355328) (hl:(Lib.join xs sep).length≤140737488355328) (c:Bool):
  aP Pg 288 [.sl 1 (xs.map PV.str) c,.str sep] (.str (Lib.join xs sep)):=by
 refine ab.BF (u:= .string ⟨(Lib.join xs sep).toArray⟩) (Go.Proofs.enters_of Go.Proofs.Tryz.func288 (by kernel_rfl) rfl) (λΓ=>rD (by simp)) ?_;intro Γ w vs hw hm hb ha;match vs,ha with
 |
  [v,v2],ha=>
  obtain⟨h1,h2,_⟩:=ha
  simp only[aN]at h1 h2
  cases h2 with
  |str l s hs od=>
  cases h1 with
  |
   sl sz l clip a bg g1 g2 g3 g4 g5 g6=>
   obtain⟨bs,rfl,e⟩:=E4 g1
   obtain⟨b,o,rfl,q1,q2,q3⟩:=g5 (by simpa using h0)
   have hlen:(xs.map PV.str).length=bs.length:=by rw[←e];simp
   rw[hlen]
   have:=Go.Proofs.Tryz.strings_Join b o bg bs s w (λj x hj=>by
    have:=q3 j (.string x) (by simp[hj]);rw[←hw]at this;exact Su this) (by rw[hw];exact q1) (by rw[←e]at hN;simpa using hN) (by rw[←hlen];exact g3) (by rw[e,hs];exact hl)
   rw[e,hs]at this
   refine this.mono ?_
   rintro e w' ⟨rfl,k⟩
   exact⟨rfl,⟨k.os,k.tape,k.output⟩,k.size,k.block⟩
theorem D9 (va vb:Value) (c:Int) (w:World) (hc:(Go.Extern.BytealgCompare.compare #[va,vb]).run Pg w= .ok (.int .i64 c) w):
  Calls Pg 173 #[va,vb] w λe w'=>e= .returned (.int .i64 c)∧w'=w:=by
 have hx:(callFunc 246 #[va,vb]).run Pg w= .ok (.value (.int .i64 c)) w:=by
  have e1:Extern.findNext Go.Proofs.Tryz.f246=none:=by kernel_rfl
  have e2:Extern.find Go.Proofs.Tryz.f246=some Go.Extern.BytealgCompare.compare:=by kernel_rfl
  have e3:(Go.Proofs.Tryz.f246.name== "runtime.NumGoroutine")=false:=by kernel_rfl
  have e4:Go.Proofs.Tryz.f246.body.isNone=true:=by kernel_rfl
  have e3':¬Go.Proofs.Tryz.f246.name= "runtime.NumGoroutine" :=by simpa using e3
  have e4':Go.Proofs.Tryz.f246.body=none:=by simpa using e4
  simp only[callFunc,bJ];simp[Go.Proofs.Tryz.func246,e1,e2,e3',e4',run_mark,hc]
 go_enter Go.Proofs.Tryz.func173,Go.Proofs.Tryz.ntmps173;go_wp2;go_ret;exact⟨rfl,rfl⟩
theorem E5 (P:Program) (w:World):∀(l:Zz) (b o:Nat) (acc:ByteArray),(∀i x,l[i]? =some x->w.cell? ⟨b,o+i,none⟩=some (.int .u8 (x.toNat:Int)))->
  (Go.Extern.Bytes.loadBytes ⟨b,o,none⟩ l.length acc).run P w= .ok ⟨(acc.data.toList++l).toArray⟩ w
 |[],b,o,acc,h=>by simp[Go.Extern.Bytes.loadBytes]
 |
  x::l,b,o,acc,h=>by
  have h0:=h 0 x rfl
  simp only[JmZ]at h0
  have ih:=E5 P w l b (o+1) (acc.push x) (λi y hi=>by
   have:=h (i+1) y (by simpa using hi);rwa [show o+1+i=o+(i+1) by omega])
  have e:(Addr.add ⟨b,o,none⟩ 1)=(⟨b,o+1,none⟩:Addr):=rfl
  have hx:((x.toNat:Int)).toNat.toUInt8=x:=by simp
  simp only[JbZ,Go.Extern.Bytes.loadBytes,bJ,run_load,h0,rJ,e,hx]
  rw[ih]
  simp
def tf (a b:Zz):Int:=Go.Extern.BytealgCompare.cmp ⟨a.toArray⟩ ⟨b.toArray⟩
theorem AJ {Γ:Cx}:∀ {xs:Zz} {cs:UE},aC Γ (xs.map u8) cs->cs=xs.map (λx=>Value.int .u8 (x.toNat:Int))
 |[],cs,h=>by cases h;rfl
 |
  x::xs,cs,h=>by
  simp only[JcQ,u8]at h
  cases h with
  |int k n hr=>rw[AJ hr];rfl
theorem AL {Γ:Cx} {w:World} (hw:w.heap=Γ.heap) {xs:Zz} {c:Bool} {v:Value} (h:aN Γ (.sl 1 (xs.map u8) c) v):(Go.Extern.Bytes.bytesOf v).run Pg w= .ok ⟨xs.toArray⟩ w:=by
 simp only[aN]at h;cases h with
 |
  sl sz l clip a bg g1 g2 g3 g4 g5 g6=>
  cases a with
  |
   none=>
   have:xs=[]:=by
    by_cases hx:xs=[]
    ·exact hx
    ·obtain⟨b,o,e,_⟩:=g5 (by simpa using hx);simp at e
   subst this
   rfl
  |
   some ad=>
   by_cases hx:xs=[]
   ·subst hx;rfl
   ·obtain⟨b,o,e,q1,q2,q3⟩:=g5 (by simpa using hx)
    obtain rfl:ad=⟨b,o,none⟩:=by simpa using e
    have Fj:=AJ g1
    have:=E5 Pg w xs b o .empty (λi x hi=>Su (by rw[hw];exact q3 i _ (by rw[Fj];simp[hi])))
    simp only[JeW,Go.Extern.Bytes.bytesOf]
    rw[this]
    rfl
theorem Compare (a b:Zz) (c d:Bool):aP Pg 173 [.sl 1 (a.map u8) c,.sl 1 (b.map u8) d] (.int .i64 (tf a b)):=by
 refine ab.BF (u:= .int .i64 (tf a b)) (Go.Proofs.enters_of Go.Proofs.Tryz.func173 (by kernel_rfl) rfl) (λΓ=>cH) ?_;intro Γ w vs hw hm hb ha;match vs,ha with
 |
  [v,v2],ha=>
  obtain⟨h1,h2,_⟩:=ha
  refine(D9 v v2 (tf a b) w ?_).mono ?_
  ·have e:Go.Extern.BytealgCompare.compare #[v,v2]=(do Pure.pure (goInt (Go.Extern.BytealgCompare.cmp (←Go.Extern.Bytes.bytesOf v) (←Go.Extern.Bytes.bytesOf v2)))):=rfl
   rw[e]
   simp only[bJ,AL hw h1,AL hw h2,rJ]
   rfl
  ·rintro e w' ⟨rfl,rfl⟩
   exact⟨rfl,WF.refl _,JaQ _,λ_ _=>rfl⟩
theorem aeX (l:Zz) (i:Nat):(⟨l.toArray⟩:ByteArray)[i]! =l.getD i 0:=by
 have hs:(⟨l.toArray⟩:ByteArray).size=l.length:=rfl;by_cases h:i<l.length
 ·rw[getElem!_pos _ i (by rw[hs];exact h),ByteArray.getElem_eq_getElem_data];simp[List.getD,h]
 ·rw[getElem!_neg _ i (by rw[hs];exact h)];simp only[List.getD,List.getElem?_eq_none (Nat.le_of_not_lt h)];rfl
def vA (a b:Zz):tf a b=match(List.range (min a.length b.length)).find? (λi=>a.getD i 0 !=b.getD i 0)with
  |some i=>if a.getD i 0<b.getD i 0 then-1 else 1
  |none=>if a.length<b.length then-1 else if a.length>b.length then 1 else 0:=by
 unfold tf Go.Extern.BytealgCompare.cmp;simp only[aeX];rfl
def E6 (x y:UInt8) (a b:Zz):tf (x::a) (y::b)=if x=y then tf a b else if x<y then-1 else 1:=by
 rw[vA,vA];simp only[JbZ,Nat.add_min_add_right,List.range_succ_eq_map,List.find?_cons,List.getD_cons_zero,List.find?_map];by_cases h:x=y
 ·subst h;simp only[bne_self_eq_false,Function.comp_def,List.getD_cons_succ,Nat.succ_eq_add_one,if_true];cases(List.range (min a.length b.length)).find? (λi=>a.getD i 0 !=b.getD i 0)<;>simp
 ·have h2:(x !=y)=true:=by simpa using h
  simp only[h2,List.getD_cons_zero,if_neg h]
theorem BG:∀a b:Zz,decide (tf a b<0)=Op.bytesLess a b
 |[],[]=>by rw[vA];simp[Op.bytesLess]
 |[],y::b=>by rw[vA];simp[Op.bytesLess]
 |x::a,[]=>by rw[vA];simp[Op.bytesLess]
 |
  x::a,y::b=>by
  rw[E6]
  unfold Op.bytesLess
  rw[←BG a b]
  by_cases h:x=y
  ·subst h;simp
  ·by_cases h2:x<y
   ·simp[h,h2]
   ·simp[h,h2]
def MX (a b:Zz):decide (0≤tf a b)= !Op.bytesLess a b:=by
 rw[←BG];by_cases h:tf a b<0
 ·simp[h]
 ·simp only[h,decide_false,Bool.not_false,decide_eq_true_eq];omega
def zG (l:Xo):Nat->Bool
 |0=>false
 |
  j+1=>match l[j]?,l[j+1]?with
  |some a,some b=> !Op.bytesLess a.cK.l b.cK.l
  |_,_=>false
def Sv {l:Xo} {j:Nat} {a b:bE} (ha:l[j]? =some a) (hb:l[j+1]? =some b):zG l (j+1)= !Op.bytesLess a.cK.l b.cK.l:=by simp only[zG,ha,hb]
def r2 (d:aR):Bool:=decide (fst (zG d.aa) d.aa.length=d.aa.length)&&decide ((d.aa.length:Int)≤8)
def arc (k:Key):(k.l.map u8).take 32=k.l.map u8:=tJ (by simp[k.h])
theorem aeY {d:aR} (hl:d.aa.length≤1048576):aP Pg 96 [bN d] (.bl (r2 d)):=by
 refine ab.intro (aA R.uD.2) (by simp[R.uD]) ?_;have hle:=om (zG d.aa) d.aa.length;have yw:∀i,i<fst (zG d.aa) d.aa.length->zG d.aa i=false:=λi h=>oo h;have Hh:fst (zG d.aa) d.aa.length<d.aa.length->zG d.aa (fst (zG d.aa) d.aa.length)=true:=qY;have hr:r2 d=(decide (fst (zG d.aa) d.aa.length=d.aa.length)&&decide ((d.aa.length:Int)≤8)):=rfl;generalize fst (zG d.aa) d.aa.length=n at*;simp[R.uD,ah,az];refine fa.fN (n-1) (λ_=>True) [1,2,3] (λi=>[(3,.int .i64 ((i:Int)+1))]) (λ_=>[]) [.keep [1,2,3]] ?_;simp;refine⟨λi hi K hK=> ?_,λK=> ?_⟩
 ·have h1:i+1<d.aa.length:=by omega
  have h0:i<d.aa.length:=by omega
  have hx1:d.aa[i+1]? =some d.aa[i+1]:=gJ h1;have T1:d.aa[i]? =some d.aa[i]:=gJ h0;have w1:IntKind.i64.wrap (i:Int)=(i:Int):=wrap_i64 (by omega);have w2:IntKind.i64.wrap ((i:Int)+1+1)=(i:Int)+1+1:=wrap_i64 (by omega);have dx:(i:Int)+1<d.aa.length:=by omega
  have Hi:((i:Int)+1).toNat=i+1:=by omega
  have hc:=Compare d.aa[i].cK.l d.aa[i+1].cK.l false false;have hb:=yw (i+1) (by omega);rw[Sv T1 hx1,←MX]at hb;have hb:¬0≤tf d.aa[i].cK.l d.aa[i+1].cK.l:=by simpa using hb
  have hnn:(0:Int)≤(i:Int)+1:=by omega
  generalize d.aa[i]=a at*;generalize d.aa[i+1]=b at*;simp[↓an,dx,T1,hx1,w1,Hi,h0,bW,hnn,arc,-getElem?_pos];refine aK.rA hc ?_;simp[w2,hb];refine⟨[.keep [1,2,3]],?_⟩;simp;exact hK _ (by simp)
 ·by_cases hn:n<d.aa.length
  ·have hb:=Hh hn;obtain⟨i,rfl⟩:∃i,n=i+1:=by cases n with|zero=>simp[zG]at hb|succ i=>exact⟨i,rfl⟩
   have h0:i<d.aa.length:=by omega
   have hx1:d.aa[i+1]? =some d.aa[i+1]:=gJ hn;have T1:d.aa[i]? =some d.aa[i]:=gJ h0;have w1:IntKind.i64.wrap (i:Int)=(i:Int):=wrap_i64 (by omega);have dx:(i:Int)+1<d.aa.length:=by omega
   have Hi:((i:Int)+1).toNat=i+1:=by omega
   have hc:=Compare d.aa[i].cK.l d.aa[i+1].cK.l false false;rw[Sv T1 hx1,←MX]at hb;have hb:0≤tf d.aa[i].cK.l d.aa[i+1].cK.l:=by simpa using hb
   have hnn:(0:Int)≤(i:Int)+1:=by omega
   have bY:¬i+1=d.aa.length:=by omega
   generalize d.aa[i]=a at*;generalize d.aa[i+1]=b at*;simp[↓an,dx,T1,hx1,w1,Hi,h0,bW,hnn,arc,-getElem?_pos];refine aK.rA hc ?_;simp[hb];refine bH ?_;simp[hr,bY]
  ·have hx:¬(((n-1:Nat):Int)+1<d.aa.length):=by omega
   have bY:n=d.aa.length:=by omega
   simp[↓an,hx];refine bH ?_;simp[hr,bY]
def E7 {l:Xo} (h:l.length≤1048576):OT 464 true aH l:=⟨h,λx=>⟨⟨rfl,rfl⟩,by simp,by simp,λK=>by simp⟩⟩
@[simp] theorem ard (f:Fn) (a b:WG):(PV.fn f a b).width=1:=rfl
theorem aeZ {d:aR} {p:bE} {h:FuncId} {b:Bool} (hy:ab Pg h [aH p,.pt KB [] 0] [.box (bN d)] (λr fp=>r= .bl b∧fp=[.box (bN d)])):
  ab Pg 248 [aH p,.pt KB [] 0] [.box (.fn (.func h) [] [.pt (KB+1) [] 0]),.box (bN d)] (λr fp=>r= .bl (!b)∧fp=[.box (.fn (.func h) [] [.pt (KB+1) [] 0]),.box (bN d)]):=by
 refine ab.intro (aA R.ra.2) (by simp[R.ra]) ?_;simp[R.ra,ah,az];refine aj.gA [KB+1] [] [.box (bN d)] hy (by simp[af]) (by simp[aG]) (by simp[af,ae]) ?_;simp[aQ,aG,aI];refine bj.with [] [KB,KB+1] ?_;simp[af,ae,al,aG,aI,bw]
def every {d:aR} {h:FuncId} {p:bE->Bool} (hl:d.aa.length≤1048576) (hy:∀x∈d.aa,ab Pg h [aH x,.pt KB [] 0] [.box (bN d)] (λr fp=>r= .bl (p x)∧fp=[.box (bN d)])):
  ab Pg 174 [bN d,.fn (.func h) [] [.pt KB [] 0]] [.box (bN d)] (λr fp=>r= .bl (d.aa.all p)∧fp=[.box (bN d)]):=by
 refine ab.intro (aA R.uE.2) (by simp[R.uE]) ?_;simp[R.uE,ah,az];have hc:=aBi (f:=247) (ix:=285) (p:=λx=> !p x) (aA R.fx.2) (aA R.gy.2) (E7 hl) (g:=248) (v:= .fn (.func h) [] [.pt (KB+1) [] 0]) (w:=bN d) (by simp[ae,al,cW,idx,dL,aI,bw,bV,cN]) (by simp) (λx hx=>aeZ (hy x hx));refine aj.gen [3,KB] [] [.box (.fn (.func h) [] [.pt KB [] 0]),.box (bN d)] hc (by simp[getAll]) (by simp) (by simp) (by simp[al,ae,cW,idx,gY]) (by simp[af,ae,al,cW,idx]) (by simp[bw,aI,bV,idx,gY]) (by simp[aG,aI,bw,bV,idx]) (by simp[af,ae,al,dL]) ?_;simp[aQ,aG,aI,bw,cN];refine bj.with [] [KB] ?_;simp[af,aG,List.all_eq_not_any_not]
def th {d:aR} {s:St} {dst:Option Nat} {h:FuncId} {p:bE->Bool} {K:UD} {t:Tg K} {k:Nat} (hl:d.aa.length≤1048576) (hb:get s.bx k=some (.box (bN d)))
  (hy:∀x∈d.aa,ab Pg h [aH x,.pt KB [] 0] [.box (bN d)] (λr fp=>r= .bl (p x)∧fp=[.box (bN d)])) (hk:K ({s with bx:=put s.bx k (.box (bN d))}.put dst (.bl (d.aa.all p)))):
  aj Pg s dst 174 [bN d,.fn (.func h) [] [.pt k [] 0]] K t:=
 aj.zF k hb (every hl hy) (by simp[al,ae,cW,idx]) (by simp[bw,aI,bV,idx]) (by simp) (by simp) (by simp[ae]) (by simp[aI]) hk
theorem Sw:ij kJ=(.st 100 [.bl false,.int .u32 0,.ar 1 32 (zr 32 (.int .u8 0)),.st 64 [.ar 1 32 (zr 32 (.int .u8 0)),.ar 1 32 (zr 32 (.int .u8 0))],.int .i64 0,.int .i64 0]):=rfl
def tI (d:aR) (p:bE):Bool:=if p.hand.has=true then p.ff&&(jV p.hand.started 0 p.hand.xT&&decide (p.hand.xT≤d.now))else PV.beq (ij p.hand) (ij kJ)
theorem XR (d:aR) (p:bE):ab Pg 180 [aH p,.pt KB [] 0] [.box (bN d)] (λr fp=>r= .bl (tI d p)∧fp=[.box (bN d)]):=by
 refine ab.intro (aA R.kX.2) (by simp[R.kX]) ?_;have hf:=zj kJ;rw[Sw]at hf;have hr:tI d p=if p.hand.has=true then p.ff&&(jV p.hand.started 0 p.hand.xT&&decide (p.hand.xT≤d.now))else PV.beq (ij p.hand) (ij kJ):=rfl
 rw[Sw]at hr;cases h1:p.hand.has
 ·simp[R.kX,ah,az,h1];refine⟨hf,?_⟩;refine bj.with [] [KB] ?_;simp[hr,h1,af,aG]
 ·cases h2:p.ff
  ·simp[R.kX,ah,az,h1,h2];refine bj.with [] [KB] ?_;simp[hr,h1,h2,af,aG]
  ·simp[R.kX,ah,az,h1,h2];refine IM ?_;cases h3:jV p.hand.started 0 p.hand.xT
   ·simp;refine bj.with [] [KB] ?_;simp[hr,h1,h2,h3,af,aG]
   ·simp;refine bj.with [] [KB] ?_;simp[hr,h1,h2,h3,af,aG]
def r4 (d:aR):Bool:=d.aa.all (tI d)
def ae0 {d:aR} (hl:d.aa.length≤1048576):aP Pg 98 [bN d] (.bl (r4 d)):=by
 refine ab.intro (aA R.uF.2) (by simp[R.uF]) ?_;simp[R.uF,ah,az];refine th hl (by simp) (λx _=>XR d x) ?_;simp;refine bH ?_;simp[r4]
def eX (r:lU):ab Pg 162 [.pt KB [] 0] [.box (.st 231 [dt r])] (λx fp=>x= .pt KB [.f 0 0,.f 0 0] 0∧fp=[.box (.st 231 [dt r])]):=by
 refine ab.intro (aA R.eX.2) (by simp[R.eX]) ?_;simp[R.eX,ah,az,dt];refine bj.with [] [KB] ?_;simp[dE]
def fy (r:lU):ab Pg 163 [.pt KB [] 0] [.box (.st 231 [dt r])] (λx fp=>x= .pt KB [.f 0 0,.f 1 77] 0∧fp=[.box (.st 231 [dt r])]):=by
 refine ab.intro (aA R.fy.2) (by simp[R.fy]) ?_;simp[R.fy,ah,az,dt];refine bj.with [] [KB] ?_;simp[dE]
def ja (r:lU):ab Pg 164 [.pt KB [] 0] [.box (.st 231 [dt r])] (λx fp=>x= .pt KB [.f 0 0,.f 2 154] 0∧fp=[.box (.st 231 [dt r])]):=by
 refine ab.intro (aA R.ja.2) (by simp[R.ja]) ?_;simp[R.ja,ah,az,dt];refine bj.with [] [KB] ?_;simp[dE]
def nX (k:Nat):PV:= .ar 1 3 [.fn (.func 162) [.pt k [] 0] [],.fn (.func 163) [.pt k [] 0] [],.fn (.func 164) [.pt k [] 0] []]
def dv (r:lU):ab Pg 87 [.pt KB [] 0] [.box (.st 231 [dt r])] (λx fp=>x=nX KB∧fp=[.box (.st 231 [dt r])]):=by
 refine ab.intro (aA R.dv.2) (by simp[R.dv]) ?_;simp[R.dv,ah,az,dh,show¬KB=2 by decide,show∀f a b,(PV.fn f a b).width=1 from λ_ _ _=>rfl,show PV.nf.width=1 from rfl];refine bj.with [] [KB] ?_;simp[dE,nX,show¬2=KB by decide,ae,al,af,aI,bw,aG]
def mB (r:lU) {k:Nat} (h:k=1∨k=2∨k=3):aP Pg 43 [dt r,.int .i64 k] (gq (jC r k)):=by
 refine ab.intro (aA R.mB.2) (by simp[R.mB]) ?_;rcases h with rfl|rfl|rfl
 ·simp[R.mB,ah,az];refine aj.zF 9 (by simp) (dv r) (by simp) (by simp) (by simp) (by simp) (by simp[nX,ae,al,dL]) (r':=nX 9) (by simp[nX,aI,bw,cN]) ?_;simp[nX,show zr 3 PV.nf=[.nf,.nf,.nf] by rw[dh];rfl,show∀f a b,(PV.fn f a b).width=1 from λ_ _ _=>rfl];refine aj.zF 9 (by simp) (eX r) (by simp) (by simp) (by simp) (by simp) (by simp[ae,dL]) (r':= .pt 9 [.f 0 0,.f 0 0] 0) (by simp[aI,cN]) ?_;simp[dt];refine bH ?_;simp[jC]
 ·simp[R.mB,ah,az];refine aj.zF 9 (by simp) (dv r) (by simp) (by simp) (by simp) (by simp) (by simp[nX,ae,al,dL]) (r':=nX 9) (by simp[nX,aI,bw,cN]) ?_;simp[nX,show zr 3 PV.nf=[.nf,.nf,.nf] by rw[dh];rfl,show∀f a b,(PV.fn f a b).width=1 from λ_ _ _=>rfl];refine aj.zF 9 (by simp) (fy r) (by simp) (by simp) (by simp) (by simp) (by simp[ae,dL]) (r':= .pt 9 [.f 0 0,.f 1 77] 0) (by simp[aI,cN]) ?_;simp[dt];refine bH ?_;simp[jC]
 ·simp[R.mB,ah,az];refine aj.zF 9 (by simp) (dv r) (by simp) (by simp) (by simp) (by simp) (by simp[nX,ae,al,dL]) (r':=nX 9) (by simp[nX,aI,bw,cN]) ?_;simp[nX,show zr 3 PV.nf=[.nf,.nf,.nf] by rw[dh];rfl,show∀f a b,(PV.fn f a b).width=1 from λ_ _ _=>rfl];refine aj.zF 9 (by simp) (ja r) (by simp) (by simp) (by simp) (by simp) (by simp[ae,dL]) (r':= .pt 9 [.f 0 0,.f 2 154] 0) (by simp[aI,cN]) ?_;simp[dt];refine bH ?_;simp[jC]
def abt:yz.p=(.st 6 [(.bl false),(.int .u64 0),(.ar 1 4 (zr 4 (.int .u64 0)))]):=by first|rfl|(rw[dh];rfl)
def Sx:fits (Sh.st [Sh.b,Sh.i IntKind.u64,Sh.ar 4 (Sh.i IntKind.u64)]) (.st 6 [(.bl false),(.int .u64 0),(.ar 1 4 (zr 4 (.int .u64 0)))])=true:=by rw[←abt];exact yz.ok
def XS (w:td):fits (Sh.st [Sh.b,Sh.i IntKind.u64,Sh.ar 4 (Sh.i IntKind.u64)]) (wP w)=true:=(nW w).ok
def XT (d:aR) (s:jx) (w:td):Bool:=jV s.born 0 d.now&&decide (s.eY=d.rules.pV)&&decide (s.next≤18446744073709543423)&&(w.used||PV.beq (wP w) yz.p)
theorem IN {d:aR} {s:jx} {w:td} (hw:s.tC=nW w):aP Pg 182 [bN d,dQ s] (.bl (XT d s w)):=by
 refine ab.intro (aA R.rb.2) (by simp[R.rb]) ?_;have hr:XT d s w=(jV s.born 0 d.now&&decide (s.eY=d.rules.pV)&&decide (s.next≤18446744073709543423)&&(w.used||PV.beq (wP w) yz.p)):=rfl;rw[abt]at hr;have f1:=Sx;have f2:=XS w;have e1:s.tC.p=wP w:=by rw[hw];rfl
 simp only[wP]at hr f2 e1;simp[R.rb,ah,az];refine IM ?_;cases g1:jV s.born 0 d.now
 ·simp[e1];refine bH ?_;simp[hr,g1]
 by_cases g2:s.eY=d.rules.pV
 ·by_cases g3:s.next≤18446744073709543423
  ·cases g4:w.used
   ·rw[g4]at hr f2 e1;simp[g2,g3,e1,f1,f2];refine bH ?_;simp[hr,g1,g2,g3]
   ·rw[g4]at hr f2 e1;simp[g2,g3,e1];refine bH ?_;simp[hr,g1,g2,g3]
  ·simp[g2,g3,e1];refine bH ?_;simp[hr,g3]
 ·simp[g2,e1];refine bH ?_;simp[hr,g2]
def K6 (s:jx):Prop:=∃w,s.tC=nW w
def wn (s:jx):td:=by
 classical
 exact if h:K6 s then Classical.choose h else zW
def ae1 {s:jx} (h:K6 s):s.tC=nW (wn s):=by
 unfold wn;rw[dif_pos h];exact Classical.choose_spec h
def kg (d:aR) (x:nU):Bool:=if x.has=true then XT d x.eM (wn x.eM)else PV.beq (gq x) (gq oL)
def Sy (d:aR) (p:bE):Bool:=decide (fst (λi=> !kg d (jC p.ring (i+1))) 3=3)
def IP (p:bE):Prop:=K6 p.ring.p.eM∧K6 p.ring.c.eM∧K6 p.ring.n.eM
def IP.get {p:bE} (h:IP p) {i:Nat} (hi:i<3):K6 (jC p.ring (i+1)).eM:=by
 rcases(by omega:i=0∨i=1∨i=2)with rfl|rfl|rfl
 ·exact h.1
 ·exact h.2.1
 ·exact h.2.2
def OV:fits amh (.st 77 [(.bl false),(.st 76 [(.int .u32 0),(.int .u32 0),(.ar 1 32 (zr 32 (.int .u8 0))),(.ar 1 32 (zr 32 (.int .u8 0))),(.int .u64 0),(.int .u64 0),(.st 6 [(.bl false),(.int .u64 0),(.ar 1 4 (zr 4 (.int .u64 0)))]),(.int .i64 0),(.bl false)])])=true:=by rw[←KW];exact pq oL
theorem K7 {d:aR} {p:bE} (h:IP p):ab Pg 181 [aH p,.pt KB [] 0] [.box (bN d)] (λr fp=>r= .bl (Sy d p)∧fp=[.box (bN d)]):=by
 refine ab.intro (aA R.nG.2) (by simp[R.nG]) ?_;have hle:=om (λi=> !kg d (jC p.ring (i+1))) 3;have yw:∀i,i<fst (λi=> !kg d (jC p.ring (i+1))) 3->kg d (jC p.ring (i+1))=true:=λi h=>by simpa using oo h
 have Hh:fst (λi=> !kg d (jC p.ring (i+1))) 3<3->kg d (jC p.ring (fst (λi=> !kg d (jC p.ring (i+1))) 3+1))=false:=λh=>by simpa using qY h
 have hr:Sy d p=decide (fst (λi=> !kg d (jC p.ring (i+1))) 3=3):=rfl;generalize fst (λi=> !kg d (jC p.ring (i+1))) 3=n at*;have hf:=OV;have hz:=KW;simp[R.nG,ah,az];refine fa.fN n (λ_=>True) [1,2,3,4] (λi=>[(4,.int .i64 ((i:Int)+1))]) (λi=>[]) [.keep [1,2,3,4]] ?_;simp;refine⟨λi hi K hK=> ?_,λK=> ?_⟩
 ·have PG:(i:Int)+1≤3:=by omega
  have hw:IntKind.i64.wrap ((i:Int)+1+1)=(i:Int)+1+1:=wrap_i64 (by omega);have cA:=mB p.ring (k:=i+1) (by omega);rw[show((i+1:Nat):Int)=(i:Int)+1 by omega]at cA;have hp:=yw i hi;have hwn:=ae1 (h.get (i:=i) (by omega));generalize jC p.ring (i+1)=q at*;simp[↓an,PG];refine aj.rA cA ?_;unfold kg at hp;cases h1:q.has
  ·rw[h1,if_neg (by simp),hz]at hp;simp[h1,hw,hp,hf];refine⟨[.keep [1,2,3,4],.dr 5],?_⟩;simp;exact hK _ (by simp)
  ·rw[if_pos h1]at hp;simp[h1];refine aj.rA (IN (d:=d) hwn) ?_;simp[h1,hw,hp];refine⟨[.keep [1,2,3,4],.dr 5],?_⟩;simp;exact hK _ (by simp)
 ·by_cases hn:n<3
  ·have PG:(n:Int)+1≤3:=by omega
   have cA:=mB p.ring (k:=n+1) (by omega);rw[show((n+1:Nat):Int)=(n:Int)+1 by omega]at cA;have hp:=Hh hn;have hwn:=ae1 (h.get (i:=n) (by omega));have bY:¬n=3:=by omega
   generalize jC p.ring (n+1)=q at*;simp[↓an,PG];refine aj.rA cA ?_;unfold kg at hp;cases h1:q.has
   ·rw[h1,if_neg (by simp),hz]at hp;simp[h1,hp,hf];refine bj.with [] [KB] ?_;simp[hr,bY,af,aG]
   ·rw[if_pos h1]at hp;simp[h1];refine aj.rA (IN (d:=d) hwn) ?_;simp[h1,hp];refine bj.with [] [KB] ?_;simp[hr,bY,af,aG]
  ·have bY:n=3:=by omega
   subst bY;simp[↓an];refine bj.with [] [KB] ?_;simp[hr,af,aG]
def r5 (d:aR):Bool:=d.aa.all (Sy d)
def OW {d:aR} (hl:d.aa.length≤1048576) (hw:∀p∈d.aa,IP p):aP Pg 99 [bN d] (.bl (r5 d)):=by
 refine ab.intro (aA R.p7.2) (by simp[R.p7]) ?_;simp[R.p7,ah,az];refine th hl (by simp) (λx hx=>K7 (d:=d) (hw x hx)) ?_;simp;refine bH ?_;simp[r5]
def K8 (a b:iC):PV.beq (cV a) (cV b)=(decide (a.lV=b.lV)&&decide (a.ip=b.ip)):=by
 simp only[cV,PV.beq,PV.oe,Gy,Bool.and_true];cases a.lV<;>cases b.lV<;>simp
def iC.n9 (a:iC) (i:Nat):UInt8:=a.ip.getD i 0
def iC.are (a:iC) {i:Nat} (h:i<16):a.ip[i]? =some (a.n9 i):=by
 have:i<a.ip.length:=by rw[a.h];exact h
 simp[iC.n9,List.getD,gJ this]
def iC.K9 {a b:Zz} (ha:a.length=16) (hb:b.length=16) (h:∀i,i<16->a.getD i 0=b.getD i 0):a=b:=by
 apply JmW (by omega);intro i h1 h2;have:=h i (by omega);simpa[List.getD,gJ h1,gJ h2]using this
def ly (a:iC):Bool:=a.lV||decide (fst (λi=>a.n9 (4+i) !=0) 12=12)
def Ea (a:iC):iC:=⟨a.lV,a.ip.take 4++List.replicate 12 0,by simp[a.h]⟩
def Sz (a:iC) (i:Nat):(Ea a).n9 i=if i<4 then a.n9 i else 0:=by
 simp only[iC.n9,Ea,List.getD];by_cases h:i<4
 ·rw[if_pos h,List.getElem?_append_left (by simp[a.h];omega),List.getElem?_take,if_pos h]
 ·rw[if_neg h,List.getElem?_append_right (by simp[a.h];omega),List.getElem?_replicate];split<;>rfl
def XU (a:iC):a.ip=(Ea a).ip↔fst (λi=>a.n9 (4+i) !=0) 12=12:=by
 rw[te];constructor
 ·intro h i hi;have:a.n9 (4+i)=(Ea a).n9 (4+i):=by unfold iC.n9;rw[←h]
  rw[this,Sz,if_neg (by omega)];simp
 ·intro h;refine iC.K9 a.h (Ea a).h λi hi=> ?_;show a.n9 i=(Ea a).n9 i;rw[Sz];split
  ·rfl
  ·have:=h (i-4) (by omega);rw[show 4+(i-4)=i by omega]at this;simpa using this
def La (a:iC):aP Pg 263 [cV a] (.bl (ly a)):=by
 refine ab.intro (aA R.uG.2) (by simp[R.uG]) ?_;simp[R.uG,ah,az]
 have he:xS a (PV.ar 1 16 (List.take 4 (List.map u8 a.ip)++PV.int IntKind.u8 0::PV.int IntKind.u8 0::PV.int IntKind.u8 0::PV.int IntKind.u8 0::PV.int IntKind.u8 0::PV.int IntKind.u8 0::PV.int IntKind.u8 0::PV.int IntKind.u8 0::PV.int IntKind.u8 0::PV.int IntKind.u8 0::PV.int IntKind.u8 0::PV.int IntKind.u8 0::List.drop 16 (List.map u8 a.ip)))=cV (Ea a):=by
  have:List.drop 16 (List.map u8 a.ip)=[]:=JiZ (by simp[a.h]);rw[this];simp[xS,cV,Ea,u8,List.replicate]
 rw[he];refine⟨by simp,?_⟩;cases h6:a.lV
 ·refine⟨by simp,?_⟩;simp;refine bH ?_
  have hb:PV.beq (cV a) (cV (Ea a))=decide (fst (λi=>a.n9 (4+i) !=0) 12=12):=by
   rw[K8,show(Ea a).lV=a.lV from rfl];simp[XU]
  simp[ly,h6,hb]
 ·simp;refine bH ?_;simp[ly,h6]
def zI (f:Nat->UInt8) (l:Zz) (i:Nat):Zz:=(List.range l.length).map λj=>if j<i then f j else l.getD j 0
def yk (f:Nat->UInt8) (l:Zz) (i:Nat):(zI f l i).length=l.length:=by simp[zI]
def BH (f:Nat->UInt8) (l:Zz) (i:Nat) {j:Nat} (h:j<l.length):(zI f l i)[j]? =some (if j<i then f j else l.getD j 0):=by simp[zI,h]
def ae2 (f:Nat->UInt8) (l:Zz):zI f l 0=l:=by
 apply JmW (by simp[yk]);intro j h1 h2;have:=BH f l 0 h2;rw[gJ h1]at this;simpa[List.getD,gJ h2]using this
def SA (f:Nat->UInt8) (l:Zz) (i:Nat):((zI f l i).map u8).set i (u8 (f i))=(zI f l (i+1)).map u8:=by
 rw[←JeJ];congr 1;apply JmW (by simp[yk]);intro j h1 h2;simp only[zI,List.getElem_set,JnJ,List.getElem_range];by_cases e:i=j
 ·subst e;simp
 ·simp only[e,if_false];by_cases e2:j<i
  ·rw[if_pos e2,if_pos (by omega)]
  ·rw[if_neg e2,if_neg (by omega)]
def cb (n:Nat) (b:UInt8):UInt8:=b&&& ~~~((255:UInt8)>>>UInt8.ofNat n)
def aBj:∀(n:Fin 9) (b:Fin 256),bits .and .u8 (b.val:Int) (bits .xor .u8 (if IntKind.u8.signed=true then-1 else IntKind.u8.max) (Int.fdiv 255 (2^min n.val IntKind.u8.bits)))=((if n.val=8 then b.val else(cb n.val (UInt8.ofNat b.val)).toNat:Nat):Int):=by decide+kernel
def lf (n i:Nat):Nat:=min (n-8*i) 8
def tM (a:iC) (n i:Nat):UInt8:=if lf n i=8 then a.n9 i else cb (lf n i) (a.n9 i)
def ae3 (a:iC) (n i:Nat):bits .and .u8 ((a.n9 i).toNat:Int) (bits .xor .u8 (if IntKind.u8.signed=true then-1 else IntKind.u8.max) (Int.fdiv 255 (2^min (lf n i) IntKind.u8.bits)))=((tM a n i).toNat:Int):=by
 have:=aBj ⟨lf n i,by unfold lf;omega⟩ ⟨(a.n9 i).toNat,(a.n9 i).toNat_lt⟩;simp only at this;rw[this];unfold tM;split
 ·rfl
 ·simp
def ot (a:iC) (n:Nat):iC:=⟨a.lV,zI (tM a n) a.ip 16,by rw[yk,a.h]⟩
def ae4 (a:iC) {n:Nat} (hn:n≤128):aP Pg 264 [cV a,.int .i64 n] (cV (ot a n)):=by
 refine ab.intro (aA R.zJ.2) (by simp[R.zJ]) ?_;simp[R.zJ,ah,az];refine fa.fN 16 (λ_=>True) [1,2,4,7] (λi=>[(7,.int .i64 i)]) (λi=>[(2,.box (.st 17 [.bl a.lV,.ar 1 16 ((zI (tM a n) a.ip i).map u8)]))]) [.keep [1,2,4,7]] ?_;simp[ae2,cV];refine⟨λi hi K hK=> ?_,λK=> ?_⟩
 ·have hx:=BH (tM a n) a.ip i (j:=i) (by rw[a.h];exact hi);rw[if_neg (by omega)]at hx;have hx:(zI (tM a n) a.ip i)[i]? =some (a.n9 i):=hx;have hw:IntKind.i64.wrap ((i:Int)+1)=(i:Int)+1:=wrap_i64 (by omega);have AQ:IntKind.i64.wrap (8*(i:Int))=8*(i:Int):=wrap_i64 (by omega);have xc:IntKind.i64.wrap ((n:Int)-8*(i:Int))=(n:Int)-8*(i:Int):=wrap_i64 (by omega);have jv:(i:Int)<16:=by omega
  have hm:min (max ((n:Int)-8*(i:Int)) 0) 8=(lf n i:Int):=by unfold lf;omega
  have he:=ae3 a n i;have hs:=SA (tM a n) a.ip i;have hlen:=yk (tM a n) a.ip i;generalize zI (tM a n) a.ip i=L at*;generalize zI (tM a n) a.ip (i+1)=M at*;generalize a.n9 i=b at*;generalize lf n i=q at*;generalize tM a n i=c at*;have e1:(L.map u8).set i (PV.int IntKind.u8 (c.toNat:Int))=M.map u8:=hs;simp[↓an,jv,hx,hw,AQ,xc,hm,au,-getElem?_pos];refine⟨.inr (.inr rfl),⟨rfl,rfl⟩,[.keep [1,2,4,7]],?_⟩;simp only[he,e1];simp;exact hK _ (by simp)
 ·simp[↓an];refine bH ?_;simp[ot]
def uH (p:Ip):Bool:=ly p.addr&&decide (0≤p.bits)&&decide (p.bits≤if p.addr.lV=true then 128 else 32)&&decide (p.addr.ip=(ot p.addr p.bits.toNat).ip)
def vB (a:iC):fits (Sh.st [Sh.b,Sh.ar 16 (Sh.i IntKind.u8)]) (cV a)=true:=ES a
theorem wV (p:Ip):aP Pg 253 [gW p] (.bl (uH p)):=by
 refine ab.intro T.lP (by simp[F.lP]) ?_;have hr:uH p=(ly p.addr&&decide (0≤p.bits)&&decide (p.bits≤if p.addr.lV=true then 128 else 32)&&decide (p.addr.ip=(ot p.addr p.bits.toNat).ip)):=rfl;have h1:=vB p.addr
 have hb:PV.beq (cV (ot p.addr p.bits.toNat)) (cV p.addr)=decide (p.addr.ip=(ot p.addr p.bits.toNat).ip):=by
  rw[K8,show(ot p.addr p.bits.toNat).lV=p.addr.lV from rfl];simp[eq_comm]
 have h2:=vB (ot p.addr p.bits.toNat);cases h6:p.addr.lV
 ·simp[F.lP,ah,az,h6];refine aK.rA (La p.addr) ?_;cases g1:ly p.addr
  ·simp;refine bH ?_;simp[hr,g1]
  by_cases g2:0≤p.bits
  ·by_cases g3:p.bits≤32
   ·have hc:=ae4 p.addr (n:=p.bits.toNat) (by omega);rw[show((p.bits.toNat:Nat):Int)=p.bits by omega]at hc;simp[g2,g3];refine aK.rA hc ?_;simp[h1,h2];refine bH ?_;simp[hr,g1,g2,g3,h6,hb]
   ·simp[g2,g3];refine bH ?_;simp[hr,g3,h6]
  ·simp[g2];refine bH ?_;simp[hr,g2]
 ·simp[F.lP,ah,az,h6];refine aK.rA (La p.addr) ?_;cases g1:ly p.addr
  ·simp;refine bH ?_;simp[hr,g1]
  by_cases g2:0≤p.bits
  ·by_cases g3:p.bits≤128
   ·have hc:=ae4 p.addr (n:=p.bits.toNat) (by omega);rw[show((p.bits.toNat:Nat):Int)=p.bits by omega]at hc;simp[g2,g3];refine aK.rA hc ?_;simp[h1,h2];refine bH ?_;simp[hr,g1,g2,g3,h6,hb]
   ·simp[g2,g3];refine bH ?_;simp[hr,g3,h6]
  ·simp[g2];refine bH ?_;simp[hr,g2]
def ae5 (a:iC) (i:Nat):Nat:=(a.n9 (i/8)).toNat/2^(7-i%8)%2
def ae6:∀(q:Fin 8) (b:Fin 256),cb q.val (UInt8.ofNat b.val)=UInt8.ofNat b.val↔∀k:Fin 8,q.val≤k.val->b.val/2^(7-k.val)%2=0:=by decide+kernel
def IQ (a:iC) (n j:Nat):tM a n j=a.n9 j↔∀k,k<8->n≤8*j+k->(a.n9 j).toNat/2^(7-k)%2=0:=by
 unfold tM;split
 ·rename_i h;refine⟨λ_ k hk hn=> ?_,λ_=>rfl⟩;unfold lf at h;omega
 ·rename_i h;have hq:lf n j<8:=by unfold lf at h⊢;omega
  have:=ae6 ⟨lf n j,hq⟩ ⟨(a.n9 j).toNat,(a.n9 j).toNat_lt⟩;simp only[UInt8.ofNat_toNat]at this;rw[this];constructor
  ·intro h1 k hk hn;exact h1 ⟨k,hk⟩ (by show lf n j≤k;unfold lf;omega)
  ·intro h1 k hk;exact h1 k.val k.isLt (by have BO:lf n j≤k.val:=hk;unfold lf at BO h;have:=k.isLt;omega)
def Dk (p:Ip) (h0:0≤p.bits) (h1:p.bits≤128):(∀i,i<128-p.bits.toNat->ae5 p.addr (p.bits.toNat+i)=0)↔p.addr.ip=(ot p.addr p.bits.toNat).ip:=by
 obtain⟨n,hn⟩:∃n,n=p.bits.toNat:=⟨_,rfl⟩
 rw[←hn]
 have Hh:∀j,j<16->(ot p.addr n).n9 j=tM p.addr n j:=λj hj=>by
  have:=BH (tM p.addr n) p.addr.ip 16 (j:=j) (by rw[p.addr.h];exact hj);rw[if_pos hj]at this;simp only[iC.n9,ot,List.getD,this];rfl
 constructor
 ·intro h;refine iC.K9 p.addr.h (ot p.addr n).h λj hj=> ?_;show p.addr.n9 j=(ot p.addr n).n9 j;rw[Hh j hj];refine((IQ p.addr n j).2 λk hk hnk=> ?_).symm;have:=h (8*j+k-n) (by omega);rw[show n+(8*j+k-n)=8*j+k by omega]at this;unfold ae5 at this;rwa [show(8*j+k)/8=j by omega,show(8*j+k)%8=k by omega]at this
 ·intro h i hi;have hj:(n+i)/8<16:=by omega
  have:=(IQ p.addr n ((n+i)/8)).1 (by rw[←Hh _ hj];unfold iC.n9;rw[←h]) ((n+i)%8) (by omega) (by omega);exact this
theorem ae7 {Γ:Cx} {w:World} (h:w.heap=Γ.heap) (hm:Mem Γ):Lib.TabIs Pg w "math/bits.deBruijn64tab" .u8 Dl:=by
 obtain⟨_,e,x,hx⟩:=hm.xj 3 _ rfl;have hg:Pg.globalNamed "math/bits.deBruijn64tab" =some 3:=by kernel_rfl
 unfold Lib.TabIs World.var?;rw[hg];simp only[JkJ,h,hx]
theorem aBk (w:World) (ht:Lib.TabIs Pg w "math/bits.deBruijn64tab" .u8 Dl):Calls Pg 345 #[.int .u64 16] w λe w'=>e= .returned (.int .i64 4)∧w'=w:=by
 have hg:Pg.globalNamed "math/bits.deBruijn64tab" =some 3:=by kernel_rfl
 have hc:=ht.cell hg 15 (by decide);have hv:Dl.getD 15 0=4:=by decide
 rw[hv]at hc;have he:(IntKind.u64.wrap (bits BinOp.and IntKind.u64 16 (IntKind.u64.wrap (-16))*285870213051353865)/288230376151711744).toNat=15:=by decide+kernel
 clear ht hg hv;go_enter Go.Proofs.Tryz.func345,Go.Proofs.Tryz.ntmps345;go_wp2;go_ret;exact⟨rfl,rfl⟩
def tz (w:World) (ht:Lib.TabIs Pg w "math/bits.deBruijn64tab" .u8 Dl):Calls Pg 339 #[.int .u64 16] w λe w'=>e= .returned (.int .i64 4)∧w'=w:=by
 have h:=aBk w ht;have e201:∀args w,(callFunc 345 args).run Pg w= .ok (.enter 345 args) w:=Go.Proofs.enters_of Go.Proofs.Tryz.func345 (by kernel_rfl) rfl;go_enter Go.Proofs.Tryz.func339,Go.Proofs.Tryz.ntmps339;go_wp2_with (go_at_fn 345;refine h.mono ?_;rintro e w1 ⟨rfl,rfl⟩);go_ret;exact⟨rfl,rfl⟩
theorem TZ:aP Pg 339 [.int .u64 16] (.int .i64 4):=by
 refine ab.BF (u:= .int .i64 4) (Go.Proofs.enters_of Go.Proofs.Tryz.func339 (by kernel_rfl) rfl) (λΓ=>cH) ?_;intro Γ w vs hw hm hb ha;match vs,ha with
 |
  [v],ha=>
  obtain rfl:v= .int .u64 16:=by
   have:=ha.1;simp only[aN]at this;cases this;rfl
  refine(tz w (ae7 hw hm)).mono ?_
  rintro e w' ⟨rfl,rfl⟩
  exact⟨rfl,WF.refl _,JaQ _,λ_ _=>rfl⟩
def XV:aP Pg 338 [.int .i64 16] (.bl true):=by
 refine ab.intro (aA R.kh.2) (by simp[R.kh]) ?_;have h1:IntKind.i64.wrap (16-1)=15:=by decide
 have h2:bits .and .i64 16 15=0:=by decide+kernel
 simp[R.kh,ah,az,h2];refine bH ?_;simp
def qt (u i:Nat):Nat:=u/16^i
def mC (u:Nat):Nat:=if u<16 then 0 else if u<256 then 1 else if u<4096 then 2 else 3
def BI (u:Nat):mC u≤3:=by unfold mC;(repeat' split)<;>omega
def XW {u i:Nat} (h:i<mC u):16≤qt u i:=by
 unfold qt;have h3:=BI u;rw[Nat.le_div_iff_mul_le (Nat.pow_pos (by omega))];rcases(by omega:i=0∨i=1∨i=2)with rfl|rfl|rfl<;>(unfold mC at h;repeat' split at h)<;>omega
def XX {u:Nat} (h:u<65536):qt u (mC u)<16:=by
 unfold qt;rw[Nat.div_lt_iff_lt_mul (Nat.pow_pos (by omega))];unfold mC;(repeat' split)<;>omega
def arf (n:Nat) (h:n<65536):bits .and .u64 (n:Int) 15=((n%16:Nat):Int):=by
 have h1:(BitVec.ofInt 64 (n:Int)).toNat=n:=by
  rw[JlJ,BitVec.toNat_ofNat];exact JkQ (by omega)
 have h2:(BitVec.ofInt 64 (15:Int)).toNat=15:=by decide
 show IntKind.u64.wrap ((BitVec.ofInt 64 (n:Int)&&&BitVec.ofInt 64 (15:Int)).toNat:Int)=_;rw[BitVec.toNat_and,h1,h2,show n&&&15=n%16 from Nat.and_two_pow_sub_one_eq_mod n 4];exact wrap_u64 (by omega)
def XY:Zz:=[48,49,50,51,52,53,54,55,56,57,97,98,99,100,101,102,103,104,105,106,107,108,109,110,111,112,113,114,115,116,117,118,119,120,121,122]
def aBl (u i:Nat):(qt u i:Int).fdiv 16=(qt u (i+1):Int):=by
 rw[show(16:Int)=2^4 from rfl];unfold qt;rw[Int.fdiv_eq_ediv_of_nonneg _ (by omega),Nat.pow_succ,←Nat.div_div_eq_div_mul];norm_cast
def dg (u i:Nat):UInt8:=XY.getD (qt u i%16) 0
def zL (u:Nat):Nat->Zz
 |0=>List.replicate 65 0
 |i+1=>(zL u i).set (64-i) (dg u i)
theorem yl (u:Nat):∀i,(zL u i).length=65
 |0=>by simp[zL]
 |i+1=>by simp[zL,yl u i]
def GH (u:Nat):Zz:=List.take (65-(64-mC u)) (List.drop (64-mC u) (zL u (mC u+1)))
def SB (u:Nat):(GH u).length=mC u+1:=by
 have h3:=BI u;simp[GH,yl];omega
def arh {u i:Nat}:[48,49,50,51,52,53,54,55,56,57,97,98,99,100,101,102,103,104,105,106,107,108,109,110,111,112,113,114,115,116,117,118,119,120,121,122][qt u i%16]? =some (dg u i):=by
 have hm:qt u i%16<XY.length:=by have:=Nat.mod_lt (qt u i) (show 0<16 by omega);simp[XY];omega
 show XY[qt u i%16]? =_;simp[dg,List.getD,gJ hm]
theorem Lb {u:Nat} (hu:u<65536):aP Pg 329 [.sl 0 [] false,.int .u64 u,.int .i64 16,.bl false,.bl false] (.tup [.sl 1 [] true,.str (GH u)]):=by
 refine ab.intro (aA R.lA.2) (by simp[R.lA]) ?_;simp[R.lA,ah,az];refine aj.rA XV ?_;simp;refine aj.rA TZ ?_;simp;have h3:=BI u;refine fa.fN (mC u) (λ_=>True) [0,1,2,3,4,10,11,12,13,14,15,16] (λi=>[(1,.int .u64 (qt u i:Int)),(13,.int .i64 (65-(i:Int)))]) (λi=>[(12,.box (.ar 1 65 ((zL u i).map u8)))]) [.keep [0,1,2,3,4,10,11,12,13,14,15,16]] ?_;simp[dh,u8,show qt u 0=u by simp[qt],show zL u 0=List.replicate 65 0 from rfl];refine⟨λi hi K hK=> ?_,λK=> ?_⟩
 ·have Em:=XW hi;have dx:qt u i<65536:=Nat.lt_of_le_of_lt (Nat.div_le_self _ _) hu;have Ej:=aBl u i;have hg:(16:Int)≤qt u i:=by omega
  have hd:=arf (qt u i) dx;have hx:=arh (u:=u) (i:=i);have Jh:zL u (i+1)=(zL u i).set (64-i) (dg u i):=rfl;have hl:=yl u i;rw[Jh]at hK;have w1:IntKind.i64.wrap (65-(i:Int)-1)=65-((i:Int)+1):=by rw[wrap_i64 (by omega)];omega
  have ht:(65-((i:Int)+1)).toNat=64-i:=by omega
  generalize dg u i=c at*;generalize zL u i=l at*;have hy:l[64-i]? =some (l[64-i]'(by omega)):=gJ _;have JG:(i:Int)+1≤65:=by omega
  have vM:65-((i:Int)+1)<65:=by omega
  have hmi:min 4 IntKind.u64.bits=4:=rfl;generalize qt u i%16=m at*;have UZ:(0:Int)≤m:=by omega
  simp only[]at hx;simp[↓an,hg,hd,w1,hx,ht,hy,JG,vM,hmi,Ej,UZ,-getElem?_pos];refine⟨[.keep [0,1,2,3,4,10,11,12,13,14,15,16]],?_⟩;simp;refine hK _ (by simp[u8])
 ·have dx:=XX hu;have hx:=arh (u:=u) (i:=mC u);rw[JkQ dx]at hx;have hg:¬(16:Int)≤qt u (mC u):=by omega
  have hl:=yl u (mC u);have hT:GH u=List.take (65-(64-mC u)) (List.drop (64-mC u) ((zL u (mC u)).set (64-mC u) (dg u (mC u)))):=rfl;have w1:IntKind.i64.wrap (65-(mC u:Int)-1)=65-((mC u:Int)+1):=by rw[wrap_i64 (by omega)];omega
  have ht:(65-((mC u:Int)+1)).toNat=64-mC u:=by omega
  obtain⟨y,hy⟩:∃y,(zL u (mC u))[64-mC u]? =some y:=⟨_,gJ (by omega)⟩
  generalize dg u (mC u)=c at*;generalize zL u (mC u)=l at*;generalize qt u (mC u)=m at*;generalize mC u=i at*;have JG:(i:Int)+1≤65:=by omega
  have vM:65-((i:Int)+1)<65:=by omega
  have hb3:65-((i:Int)+1)≤65:=by omega
  simp[↓an,hg,w1,hx,ht,hy,JG,vM,hb3,-getElem?_pos];have e1:((List.map u8 l).set (64-i) (PV.int IntKind.u8 (c.toNat:Int)))=(l.set (64-i) c).map u8:=by rw[JeJ];rfl
  rw[e1,←JmQ,←JjX,ug];refine⟨by omega,?_⟩;simp;refine bH ?_;simp[hT]
def IS {u:Nat} (hu:u<65536):aP Pg 287 [.int .i64 u,.int .i64 16] (.str (GH u)):=by
 have h0:aP Pg 310 [.int .i64 u,.int .i64 16] (.str (GH u)):=by
  refine ab.intro (aA R.kL.2) (by simp[R.kL]) ?_;have w:IntKind.u64.wrap (u:Int)=u:=wrap_u64 (by omega);have hn:¬(u:Int)<0:=by omega
  simp[R.kL,ah,az,w,hn];have hF:=Lb hu;refine aj.rA hF ?_;simp;refine bH ?_;simp
 refine ab.intro (aA R.mD.2) (by simp[R.mD]) ?_;simp[R.mD,ah,az];refine aj.rA h0 ?_;simp;refine bH ?_;simp
theorem SC {bx:List (Nat×aU)}:∀ {l:WG},al (λ_=>false) l=true->Q5 bx l l
 |[],_=>trivial
 |
  p::r,h=>by
  simp only[al,aJ]at h
  exact⟨.inl (.inl ⟨rfl,h.1⟩),SC h.2⟩
def abu {f:FuncId} {sz:Nat} {xs rest:WG} {v:PV} (hA:aP Pg f (.sl sz xs false::rest) v) (fP:0<sz) (hw:∀x∈xs,x.width=sz) (hx:al (λ_=>false) xs=true) (hr:al (λ_=>false) rest=true)
  (hv:pQ v=true) (hvp:Pure v):ab Pg f (.rs KB [] 0 xs.length xs.length sz .tip::rest) [.arr sz xs] (λr fp=>r=v∧fp=[.arr sz xs]):=by
 have h:=ab.view (args:= .rs KB [] 0 xs.length xs.length sz .tip::rest) (fp:=[.arr sz xs]) hA ⟨.inl (.inr ⟨KB,[],0,xs.length,xs.length,sz,.tip,xs,rfl,by simp[get,az],hx,fP,rfl⟩),SC hr⟩ (λr new e=>by
  obtain⟨rfl,rfl⟩:=e;exact⟨hv,rfl⟩)
 refine h.mono ?_;rintro r mW ⟨r0,new,⟨rfl,rfl⟩,rfl,rfl⟩;exact⟨hvp.aI _,by simp⟩
def MY (l:List (Zz)):aB (l.map PV.str):=aL (λx=>(by simp:Pure (PV.str x))) l
def UR (a:iC) (n:Nat):List (Zz):=(a.ip.take n).map (λb=>Lib.itoa (b.toNat:Int))
def GI {a:iC} {n:Nat} (h:n≤16):(UR a n).length=n:=by simp[UR,a.h];omega
def SE (a:iC) {n:Nat} {b:UInt8} (h:a.ip[n]? =some b):UR a (n+1)=UR a n++[Lib.itoa (b.toNat:Int)]:=by
 unfold UR;rw[List.take_add_one,h];simp
def OX {a:iC} (h6:a.lV=false):uH ⟨a,32⟩=ly a:=by
 unfold uH;cases h:ly a
 ·simp
 ·have hz:∀j,4≤j->j<16->a.n9 j=0:=by
   intro j h1 h2;unfold ly at h;rw[h6,Bool.false_or,decide_eq_true_eq,te]at h;have:=h (j-4) (by omega);rw[show 4+(j-4)=j by omega]at this;simpa using this
  have:=(Dk ⟨a,32⟩ (show(0:Int)≤32 by decide) (show(32:Int)≤128 by decide)).1 (λi hi=>by
   simp only at hi⊢;unfold ae5;rw[hz _ (by simp;omega) (by simp at hi⊢;omega)];simp)
  have this:a.ip=(ot a 32).ip:=this;simp[h6,←this]
def Lc {a:iC} (h6:a.lV=true):uH ⟨a,128⟩=ly a:=by
 unfold uH;have:=(Dk ⟨a,128⟩ (show(0:Int)≤128 by decide) (show(128:Int)≤128 by decide)).1 (λi hi=>by simp at hi);have this:a.ip=(ot a 128).ip:=this;simp[h6,←this]
theorem XZ (a:iC):aP Pg 286 [cV a] (.bl (ly a)):=by
 refine ab.intro (aA R.oN.2) (by simp[R.oN]) ?_;cases h6:a.lV
 ·have hv:=wV ⟨a,32⟩;rw[OX h6]at hv;have he:(.st 18 [cV a,.int .i64 32]:PV)=gW ⟨a,32⟩:=rfl;simp[R.oN,ah,az,h6];rw[he];refine aj.rA hv ?_;simp;refine bH ?_;simp
 ·have hv:=wV ⟨a,128⟩;rw[Lc h6]at hv;have he:(.st 18 [cV a,.int .i64 128]:PV)=gW ⟨a,128⟩:=rfl;simp[R.oN,ah,az,h6];rw[he];refine aj.rA hv ?_;simp;refine bH ?_;simp
def w16 (a:iC) (i:Nat):Nat:=(a.n9 (2*i)).toNat*256+(a.n9 (2*i+1)).toNat
def ae8 (a:iC) (i:Nat):w16 a i<65536:=by
 have:=(a.n9 (2*i)).toNat_lt;have:=(a.n9 (2*i+1)).toNat_lt;unfold w16;omega
def US (a:iC) (n:Nat):List (Zz):=(List.range n).map λi=>GH (w16 a i)
def GJ (a:iC) (n:Nat):(US a n).length=n:=by simp[US]
def SF (a:iC) (n:Nat):US a (n+1)=US a n++[GH (w16 a n)]:=by simp[US,List.range_succ]
def or8 {x y:Nat} (hx:x<256) (hy:y<256):(x*256)|||y=x*256+y:=by
 have:=Nat.shiftLeft_add_eq_or_of_lt (i:=8) (b:=y) (by omega) x;rw[Nat.shiftLeft_eq]at this;exact this.symm
theorem MZ:∀ {xs:List (Zz)} {m:Nat},(∀x∈xs,x.length≤m)->Lib.lens xs≤m*xs.length
 |[],m,_=>by simp[Lib.lens]
 |
  x::xs,m,h=>by
  have h1:=h x (by simp)
  have h2:=MZ (xs:=xs) (m:=m) (λy hy=>h y (by simp[hy]))
  simp only[Lib.lens,JcQ,List.sum_cons,JbZ,Nat.mul_add]at h2⊢
  omega
def OY (a:iC):Zz:=Lib.join (US a 8) [58]
def OZ (a:iC):Zz:=Lib.join (UR a 4) [46]
theorem SG {xs:List (Zz)} {s:Zz} {m n:Nat} (hn:xs.length=n+2) (hs:s.length=1) (h:∀x∈xs,x.length≤m):1≤(Lib.join xs s).length∧(Lib.join xs s).length≤n+1+m*(n+2):=by
 match xs,hn with
 |
  x::y::r,hn=>
  rw[Lib.join_length]
  have:=MZ h
  rw[hn]at this
  simp at hn
  simp only[JbZ,hs]at*
  constructor<;>omega
def SH (a:iC):1≤(OY a).length∧(OY a).length≤1000:=by
 have:=SG (n:=6) (s:=[58]) (m:=4) (GJ a 8) rfl (λx hx=>by
  obtain⟨i,_,rfl⟩:=JcV.1 hx;rw[SB];have:=BI (w16 a i);omega)
 unfold OY;omega
def SI (a:iC):1≤(OZ a).length∧(OZ a).length≤1000:=by
 have:=SG (n:=2) (s:=[46]) (m:=21) (GI (a:=a) (n:=4) (by omega)) rfl (λx hx=>by
  obtain⟨b,_,rfl⟩:=JcV.1 hx;have:=b.toNat_lt;exact Lib.itoa_length_le (b.toNat:Int) (by omega) (by omega))
 unfold OZ;omega
theorem IT (a:iC):aP Pg 249 [cV a] (.str (if ly a=true then(if a.lV=true then OY a else OZ a)else [])):=by
 refine ab.intro T.iz (by simp[F.iz]) ?_;simp[F.iz,ah,az];refine aj.rA (XZ a) ?_;cases hs:ly a
 ·simp;refine bH ?_;simp
 cases h6:a.lV
 ·simp[h6,↓an];refine fa.fN 4 (λ_=>True) [1,2,3,36] (λi=>[(3,.rs 3 [] 0 i i 1 .tip),(36,.int .i64 i)]) (λi=>[(3,.arr 1 ((UR a i).map PV.str))]) [.keep [1,2,3,36],.vt 3 3 1] ?_;simp[show UR a 0=[] from rfl];refine⟨λi hi K hK=> ?_,λK=> ?_⟩
  ·have jv:i<a.ip.length:=by rw[a.h];omega
   have hx:a.ip[i]? =some a.ip[i]:=gJ jv;have hb:=(a.ip[i]).toNat_lt;have hw:IntKind.i64.wrap ((a.ip[i]).toNat:Int)=((a.ip[i]).toNat:Int):=wrap_i64 (by omega);have hi4:(i:Int)<4:=by omega
   have hl:=GI (a:=a) (n:=i) (by omega);rw[SE a hx]at hK;have agn:(i:Int)<16:=by omega
   simp[↓an,hi4,agn,hx,u8,hw];refine aj.rA (aeW (n:=(a.ip[i].toNat:Int)) (by omega) (by omega)) ?_;simp[cT hi (by omega),hl];refine⟨⟨by omega,by omega⟩,[.keep [1,2,3,36]],?_⟩;simp;exact hK _ (by simp)
  ·have hl:=GI (a:=a) (n:=4) (by omega);have hle:=(SI a).2
   have hj:=abu (rest:=[.str [46]]) (arb (xs:=UR a 4) (sep:=[46]) (λh=>by rw[h]at hl;simp at hl) (by omega) (by unfold OZ at hle;omega) false) (by omega) (λx hx=>by
    obtain⟨y,_,rfl⟩:=JcV.1 hx;rfl) ((MY _).refs _) (by simp[al,ae]) (by simp[pQ,lS]) (by simp)
   simp only[JeW,hl]at hj;simp[↓an];refine aj.gA [3] [] [.arr 1 ((UR a 4).map PV.str)] hj (by simp[af]) (by simp[aG]) (by simp[af,ae]) ?_;simp[aQ,aG,aI];refine bH ?_;simp[OZ]
 ·simp[h6];refine fa.fN 8 (λ_=>True) [1,2,3,11] (λi=>[(3,.rs 3 [] 0 i i 1 .tip),(11,.int .i64 i)]) (λi=>[(3,.arr 1 ((US a i).map PV.str))]) [.keep [1,2,3,11],.vt 3 3 1] ?_;simp[show US a 0=[] from rfl];refine⟨λi hi K hK=> ?_,λK=> ?_⟩
  ·have hx:=a.are (i:=2*i) (by omega);have hy:=a.are (i:=2*i+1) (by omega);have lj:=(a.n9 (2*i)).toNat_lt;have hby:=(a.n9 (2*i+1)).toNat_lt;have hF:=IS (ae8 a i);have aCC:w16 a i=(a.n9 (2*i)).toNat*256+(a.n9 (2*i+1)).toNat:=rfl;have hl:=GJ a i;rw[SF]at hK;generalize GH (w16 a i)=T at*;generalize w16 a i=W at*;generalize a.n9 (2*i)=x at*;generalize a.n9 (2*i+1)=y at*;have U9:=wS (x.toNat*256) y.toNat (by omega) (by omega);rw[or8 lj hby,←aCC]at U9;have w0:IntKind.i64.wrap ((x.toNat:Nat):Int)=x.toNat:=wrap_i64 (by omega);have w1:IntKind.i64.wrap ((y.toNat:Nat):Int)=y.toNat:=wrap_i64 (by omega);have w2:IntKind.i64.wrap (2*(i:Int))=2*(i:Int):=wrap_i64 (by omega);have w3:IntKind.i64.wrap (2*(i:Int)+1)=2*(i:Int)+1:=wrap_i64 (by omega);have t2:(2*(i:Int)).toNat=2*i:=by omega
   have t3:(2*(i:Int)+1).toNat=2*i+1:=by omega
   have hi8:(i:Int)<8:=by omega
   have b2:2*(i:Int)<16:=by omega
   have b3:2*(i:Int)+1<16:=by omega
   have b4:(0:Int)≤2*(i:Int):=by omega
   have b5:(0:Int)≤2*(i:Int)+1:=by omega
   have xd:IntKind.i64.wrap ((x.toNat:Int)*2^min 8 IntKind.i64.bits)=((x.toNat*256:Nat):Int):=by
    rw[show min 8 IntKind.i64.bits=8 from rfl,wrap_i64 (by omega)];omega
   simp[↓an,hi8,w0,w1,w2,w3,t2,t3,b2,b3,b4,b5,hx,hy,u8,-getElem?_pos];rw[xd,U9];refine aK.rA hF ?_;have wi:IntKind.i64.wrap ((i:Int)+1)=(i:Int)+1:=wrap_i64 (by omega);simp[hl,wi];refine⟨⟨by omega,by omega⟩,[.keep [1,2,3,11]],?_⟩;simp;exact hK _ (by simp)
  ·have hl:=GJ a 8;have hle:=(SH a).2
   have hj:=abu (rest:=[.str [58]]) (arb (xs:=US a 8) (sep:=[58]) (λh=>by rw[h]at hl;simp at hl) (by omega) (by unfold OY at hle;omega) false) (by omega) (λx hx=>by
    obtain⟨y,_,rfl⟩:=JcV.1 hx;rfl) ((MY _).refs _) (by simp[al,ae]) (by simp[pQ,lS]) (by simp)
   simp only[JeW,hl]at hj;simp[↓an];refine aj.gA [3] [] [.arr 1 ((US a 8).map PV.str)] hj (by simp[af]) (by simp[aG]) (by simp[af,ae]) ?_;simp[aQ,aG,aI];refine bH ?_;simp[OY]
def gs (u:Nat):Nat->Zz
 |0=>[]
 |i+1=>dg u i::gs u i
def epB (e:Jt):Bool:=ly e.addr&&decide (1≤e.port)&&decide (e.port≤65535)
def X1 {a:iC} {l m:Zz} (hl:1≤l.length∧l.length≤1000) (hm:1≤m.length∧m.length≤1000):(if ly a=true then(if a.lV=true then l else m)else []).length≤1000∧((if ly a=true then(if a.lV=true then l else m)else [])=[]↔ly a=false):=by
 cases ly a
 ·simp
 ·cases a.lV
  ·simp;exact⟨hm.2,by intro e;rw[e]at hm;simp at hm⟩
  ·simp;exact⟨hl.2,by intro e;rw[e]at hl;simp at hl⟩
theorem A5 (e:Jt):∃l,(l=[]↔epB e=false)∧aP Pg 176 [fc e] (.str l):=by
 have hA:=IT e.addr;obtain⟨hl,hz⟩:=X1 (a:=e.addr) (SH e.addr) (SI e.addr);generalize (if ly e.addr=true then _ else _:Zz)=m at*;have hr:epB e=(ly e.addr&&decide (1≤e.port)&&decide (e.port≤65535)):=rfl;by_cases h1:m=[]
 ·have h2:=hz.1 h1;refine⟨[],by simp[hr,h2],?_⟩;refine ab.intro (aA R.bm.2) (by simp[R.bm]) ?_;simp[R.bm,ah,az];refine aj.rA hA ?_;simp[h1];refine bH ?_;simp
 have hs:ly e.addr=true:=by
  cases h:ly e.addr
  ·exact absurd (hz.2 h) h1
  ·rfl
 by_cases h2:e.port<1
 ·refine⟨[],by simp[hr,show¬1≤e.port by omega],?_⟩;refine ab.intro (aA R.bm.2) (by simp[R.bm]) ?_;simp[R.bm,ah,az];refine aj.rA hA ?_;simp[h1,h2];refine bH ?_;simp
 by_cases h3:65535<e.port
 ·refine⟨[],by simp[hr,show¬e.port≤65535 by omega],?_⟩;refine ab.intro (aA R.bm.2) (by simp[R.bm]) ?_;simp[R.bm,ah,az];refine aj.rA hA ?_;simp[h1,h2,h3];refine bH ?_;simp
 have bY:epB e=true:=by simp[hr,hs,show 1≤e.port by omega,show e.port≤65535 by omega]
 have Bc:=Lib.itoa_length_le e.port (by omega) (by omega);generalize Po:Lib.itoa e.port=num at*;cases h6:e.addr.lV
 ·refine⟨m++[58]++num,by simp[bY],?_⟩;refine ab.intro (aA R.bm.2) (by simp[R.bm]) ?_;simp[R.bm,ah,az];refine aj.rA hA ?_;simp[h1,h2,h3,h6];refine⟨by omega,?_⟩;refine aj.rA (aeW (n:=e.port) (by omega) (by omega)) ?_;simp[Po];refine⟨by omega,?_⟩;refine bH ?_;simp
 ·refine⟨[91]++m++[93]++[58]++num,by simp[bY],?_⟩;refine ab.intro (aA R.bm.2) (by simp[R.bm]) ?_;simp[R.bm,ah,az];refine aj.rA hA ?_;simp[h1,h2,h3,h6];refine⟨by omega,by omega,by omega,?_⟩;refine aj.rA (aeW (n:=e.port) (by omega) (by omega)) ?_;simp[Po];refine⟨by omega,?_⟩;refine bH ?_;simp
end Go.Ab
