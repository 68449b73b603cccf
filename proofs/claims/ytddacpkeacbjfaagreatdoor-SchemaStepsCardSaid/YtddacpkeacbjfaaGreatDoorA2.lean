/- Each quiet operation does what its abstract reading says. No condition. -/
import Derived.Test.YtddacpkeacbjfaaGreatDoorA1
set_option linter.all false
namespace Go.Ab
variable [cM]
variable {P:Program} {nt:Nat} {ds:List Deferred} {s:St} {Γ:Cx} {a:Act} {w:World}
def aN.int {k:IntKind} {n:Int} {v:Value} (h:aN Γ (.int k n) v):v= .int k n:=by
 simp only[aN]at h;cases h;rfl
def aN.bl {x:Bool} {v:Value} (h:aN Γ (.bl x) v):v= .bool x:=by
 simp only[aN]at h;cases h;rfl
def aN.str {l:Zz} {v:Value} (h:aN Γ (.str l) v):∃s:ByteArray,v= .string s∧s.data.toList=l:=by
 simp only[aN]at h;cases h with|str l s h _=>exact⟨s,rfl,h⟩
def aN.np {v:Value} (h:aN Γ .np v):v= .pointer none:=by
 simp only[aN]at h;cases h;rfl
def aN.nf {v:Value} (h:aN Γ .nf v):v= .nilFunc:=by
 simp only[aN]at h;cases h;rfl
theorem aN.pt {k aD:Nat} {p:Zy} {v:Value} {blk:aU} (h:aN Γ (.pt k p aD) v) (hg:get Γ.bx k=some blk) (ht:aD=blk.aD):
  ∃b,Γ.ι k=some b∧v= .pointer (some ⟨b,bU p,none⟩):=by
 simp only[aN]at h;cases h with
 |
  pt k p aD v bL kQ h1 hv _=>
  rw[hg]at kQ
  obtain⟨h2,h3⟩:=kQ
  cases h2
  exact hv ht
theorem aN.rs {k off len aD sz:Nat} {c:iO} {p:Zy} {v:Value} {blk:aU} (h:aN Γ (.rs k p off len aD sz c) v) (hg:get Γ.bx k=some blk) (ht:aD=blk.aD):
  ∃a bg,v= .slice a len bg∧iD Γ k p off len sz c a bg:=by
 simp only[aN]at h;cases h with
 |
  rs k p off len aD sz c v bL kQ h1 hv _=>
  rw[hg]at kQ
  obtain⟨h2,h3⟩:=kQ
  cases h2
  exact hv ht
theorem aN.fp {sz:Nat} {l:WG} {p:Zy} {v:Value} (h:aN Γ (.fp sz l p) v):
  ∃b o cs,v= .pointer (some ⟨b,o+bU p,none⟩)∧aC Γ l cs∧(∀x∈l,x.width=sz)∧(b<Γ.heap.size∧¬Γ.own b)∧∀i c,cs[i]? =some c->cell Γ.heap b (o+i)=some c:=by
 simp only[aN]at h;cases h with
 | @fp _ _ cs sz l p b o hl hw hm hc _=>exact⟨b,o,cs,rfl,hl,hw,hm,hc⟩
theorem aN.sl {sz:Nat} {l:WG} {clip:Bool} {v:Value} (h:aN Γ (.sl sz l clip) v):
  ∃
   a bg cs,v= .slice a l.length bg∧aC Γ l cs∧(∀x∈l,x.width=sz)∧l.length≤bg∧(clip=true->bg=l.length)∧
   (l≠[]->∃b o,a=some ⟨b,o,none⟩∧b<Γ.heap.size∧¬Γ.own b∧∀i c,cs[i]? =some c->cell Γ.heap b (o+i)=some c):=by
 simp only[aN]at h;cases h with
 | @sl _ _ cs sz l clip a bg hl hw hc hk hb _=>exact⟨a,bg,cs,rfl,hl,hw,hc,hk,hb⟩
theorem aN.fn {f:Fn} {first cap:WG} {v:Value} (h:aN Γ (.fn f first cap) v):
  ∃fs cs:UE,v= .func f fs.toArray cs.toArray∧aC Γ first fs∧aC Γ cap cs∧(∀x∈first,x.isAgg=false)∧(∀x∈cap,x.isAgg=false):=by
 simp only[aN]at h;cases h with
 | @fn _ _ fs cs f first cap h1 h2 h3 h4 _=>exact⟨fs,cs,rfl,h1,h2,h3,h4⟩
def aN.tS {p:PV} {cs:UE} (h:aC Γ [p] cs) (bY:p.isAgg=true):aN Γ p (.agg cs.toArray):=by
 cases p<;>simp[PV.isAgg]at bY
 ·exact⟨cs,rfl,h⟩
 ·exact⟨cs,rfl,h⟩
def aN.Fy {p:PV} {v:Value} (h:aC Γ [p] [v]) (bY:p.isAgg=false):aN Γ p v:=by
 cases p<;>simp[PV.isAgg]at bY<;>first|exact h|trivial|(cases h;done)
def aN.cells {p:PV} {v:Value} (h:aN Γ p v) (bY:p.isAgg=true):∃cs:UE,v= .agg cs.toArray∧aC Γ [p] cs:=by
 cases p<;>simp[PV.isAgg]at bY
 ·exact h
 ·exact h
def aN.BW {p:PV} {v:Value} (h:aN Γ p v) (hc:p.aV=true):aC Γ [p] v.cells.toList:=by
 cases p<;>simp[PV.aV]at hc
 case st w l=>obtain⟨cs,rfl,h⟩:=h;simpa[Value.cells]using h
 case ar sz n l=>obtain⟨cs,rfl,h⟩:=h;simpa[Value.cells]using h
 all_goals
  simp only[aN]at h
  have h1:=h.one v (by simp)
  have:v.cells= #[v]:=by cases v<;>simp_all [ew,Value.cells]
  rw[this];exact h
def Vb {v:Value} {p:PV} (h:trV v=some p):aN Γ p v:=by
 unfold trV at h;split at h<;>simp only[sJ,reduceCtorEq]at h<;>subst h<;>simp only[aN]
 ·exact .bl _ .nil
 ·exact .int _ _ .nil
 ·exact .str _ _ rfl .nil
 ·exact .np .nil
 ·exact .sl 0 [] true none 0 .nil (by simp) (JaQ _) (λ_=>rfl) (λh=>absurd rfl h) .nil
 ·exact .nf .nil
 ·exact .ni .nil
theorem BX {x:Operand} {y:AX} (h:eH x=some y) (hs:fW nt ds s Γ a):aN Γ (vx s y) (a.eval x):=by
 cases x with
 |
  tmp t=>
  simp only[eH,sJ]at h
  subst h
  simp only[vx,Act.eval]
  cases hg:get s.env t with
  |none=>simp[aN]
  |some p=>simpa using hs.env t p hg
 |
  const v=>
  simp only[eH]at h
  split at h
  ·rename_i p hp
   simp only[sJ]at h;subst h
   exact Vb hp
  ·exact absurd h (by simp)
 |global g=>simp[eH]at h
 |
  func f=>
  simp only[eH,sJ]at h
  subst h
  simp only[vx,Act.eval,aN]
  simpa using aC.fn (Γ:=Γ) (fs:=[]) (cs:=[]) (.func f) [] [] .nil .nil (by simp) (by simp) .nil
def bR {g:Bool} {x:Operand} {y:AX} {K:W7} (h:eH x=some y) (hs:fW nt ds s Γ a) (hg:g=true) (hv:vg g s y K):
  ∃p,K p∧aN Γ p (a.eval x):=by
 have hr:=BX h hs;unfold vg at hv;split at hv
 ·rename_i b p hb;rw[hb]at hr;exact⟨p,hv.2,by rw[aN]at hr;exact hr.1 (hv.1 hg)⟩
 ·exact⟨_,hv,hr⟩
theorem xk {g:Bool} (hs:fW nt ds s Γ a) (hg:g=true):∀ {xs:ZI} {ys:ZP} {K:WG->Prop},sv xs=some ys->wh g s ys K->
  ∃ps,K ps∧ps.length=xs.length∧∀(i:Nat) p x,ps[i]? =some p->xs[i]? =some x->aN Γ p (a.eval x)
 |
  [],ys,K,h,hv=>by
  simp only[sv,sJ]at h;subst h
  exact⟨[],hv,rfl,by simp⟩
 |
  x::xs,ys,K,h,hv=>by
  simp only[sv]at h
  split at h
  ·rename_i y l hy hl
   simp only[sJ]at h;subst h
   obtain⟨p,hp,hr⟩:=bR hy hs hg hv
   obtain⟨ps,xh,hlen,cU⟩:=xk hs hg hl hp
   refine⟨p::ps,xh,by simp[hlen],λi q z h1 h2=> ?_⟩
   cases i with
   |zero=>simp at h1 h2;subst h1 h2;exact hr
   |succ i=>simp at h1 h2;exact cU i q z h1 h2
  ·exact absurd h (by simp)
theorem Bg {g:Bool} (hs:fW nt ds s Γ a) (hg:g=true):∀ {xs:List (Nat×Operand)} {ys:List (Nat×AX)} {K:List (Nat×PV)->Prop},oB xs=some ys->Bf g s ys K->
  ∃ps,K ps∧ps.length=xs.length∧∀(i:Nat) j p k x,ps[i]? =some (j,p)->xs[i]? =some (k,x)->j=k∧aN Γ p (a.eval x)
 |
  [],ys,K,h,hv=>by
  simp only[oB,sJ]at h;subst h
  exact⟨[],hv,rfl,by simp⟩
 |
  (n,x)::xs,ys,K,h,hv=>by
  simp only[oB]at h
  split at h
  ·rename_i y l hy hl
   simp only[sJ]at h;subst h
   obtain⟨p,hp,hr⟩:=bR hy hs hg hv
   obtain⟨ps,xh,hlen,cU⟩:=Bg hs hg hl hp
   refine⟨(n,p)::ps,xh,by simp[hlen],λi j q k z h1 h2=> ?_⟩
   cases i with
   |zero=>simp at h1 h2;obtain⟨rfl,rfl⟩:=h1;obtain⟨rfl,rfl⟩:=h2;exact⟨rfl,hr⟩
   |succ i=>simp at h1 h2;exact cU i j q k z h1 h2
  ·exact absurd h (by simp)
def eN {p:PV} {K:Int->Prop} {v:Value} (h:mS p K) (hr:aN Γ p v):∃k n,v= .int k n∧K n:=by
 unfold mS at h;split at h
 ·exact⟨_,_,hr.int,h⟩
 ·exact h.elim
def gp (P:Program) (Γ:Cx) (w:World) (x:Sem Value) (K:W7):Prop:=
 ∃p v,K p∧x.run P w= .ok v w∧aN Γ p v
def gp.pure {K:W7} {p:PV} {v:Value} (h:K p) (hr:aN Γ p v):gp P Γ w (Pure.pure v) K:=⟨p,v,h,rfl,hr⟩
def jm {x:Bool}:aN Γ (.bl x) (.bool x):=by simp only[aN];exact .bl _ .nil
def cH {k:IntKind} {n:Int}:aN Γ (.int k n) (.int k n):=by simp only[aN];exact .int _ _ .nil
def PK {b:ByteArray}:aN Γ (.str b.data.toList) (.string b):=by simp only[aN];exact .str _ _ rfl .nil
def rD {b:ByteArray} {l:Zz} (h:b.data.toList=l):aN Γ (.str l) (.string b):=by subst h;exact PK
def toList_data (b:ByteArray):b.toList=b.data.toList:=by rw[ByteArray.toList_eq]
def Vc {op:BinOp} {t:TypeId} {k k':IntKind} {m n:Int} {K:W7} (hk:op= .shl∨op= .shr∨k=k') (h:qj op k m n K):
  gp P Γ w (binOp op t (.int k m) (.int k' n)) K:=by
 rcases hk with rfl|rfl|rfl
 ·obtain⟨h1,h2⟩:=h;refine⟨_,_,h2,?_,cH⟩;simp only[binOp,Op.shift];rw[if_neg (by omega)];rfl
 ·obtain⟨h1,h2⟩:=h;refine⟨_,_,h2,?_,cH⟩;simp only[binOp,Op.shift];rw[if_neg (by omega)];rfl
 ·cases op<;>simp only[qj]at h
  case quo=>exact⟨_,_,h.2,by simp[binOp,Op.intDiv,h.1],cH⟩
  case rem=>exact⟨_,_,h.2,by simp[binOp,Op.intDiv,h.1],cH⟩
  case shl=>exact⟨_,_,h.2,by simp only[binOp,Op.shift];rw[if_neg (by omega)];rfl,cH⟩
  case shr=>exact⟨_,_,h.2,by simp only[binOp,Op.shift];rw[if_neg (by omega)];rfl,cH⟩
  case andNot=>exact⟨_,_,h,by rw[binOp_andNot];rfl,cH⟩
  case and=>exact⟨_,_,h,by rw[binOp_and];rfl,cH⟩
  case or=>exact⟨_,_,h,by rw[binOp_or];rfl,cH⟩
  case xor=>exact⟨_,_,h,by rw[binOp_xor];rfl,cH⟩
  case add=>exact⟨_,_,h,by rw[binOp_add];rfl,cH⟩
  case sub=>exact⟨_,_,h,by rw[binOp_sub];rfl,cH⟩
  case mul=>exact⟨_,_,h,by rw[binOp_mul];rfl,cH⟩
  all_goals exact⟨_,_,h,by simp[binOp,Op.intCmp],jm⟩
def Vd {op:BinOp} {t:TypeId} {x y:ByteArray} {K:W7} (h:yE op x.data.toList y.data.toList K):
  gp P Γ w (binOp op t (.string x) (.string y)) K:=by
 cases op<;>simp only[yE]at h<;>first|exact h.elim|skip
 case add=>
  refine⟨_,_,h.2,?_,rD (b:=x++y) (by simp)⟩
  have:¬((x.size+y.size:Nat):Int)>IntKind.i64.max:=by
   have h1:=h.1;have e1:x.data.toList.length=x.size:=JbX;have e2:y.data.toList.length=y.size:=JbX;have e3:IntKind.i64.max=9223372036854775807:=by decide
   omega
  simp only[binOp,Op.stringOp];rw[if_neg this];rfl
 all_goals
  refine⟨_,_,h,?_,jm⟩
  simp[binOp,Op.stringOp,toList_data]
end Go.Ab
namespace Go.Ab
variable [cM]
variable {P:Program} {nt:Nat} {ds:List Deferred} {s:St} {Γ:Cx} {a:Act} {w:World}
theorem BY {l:WG} {sz:Nat} {p:Zy} {u:PV} {cs:UE} (h:aC Γ l cs) (hw:∀x∈l,x.width=sz) (hg:lW (.arr sz l) p=some u):
  bU p+u.width≤cs.length∧aC Γ [u] ((cs.drop (bU p)).take u.width):=by
 cases p with
 |nil=>simp[lW]at hg
 |
  cons x p=>
  cases x with
  |f i o=>simp[lW]at hg
  |
   i j s=>
   simp only[lW]at hg
   split at hg
   ·rename_i hs
    subst hs
    split at hg
    ·rename_i c hc
     have h3:=h.at hc
     obtain⟨h4,h5⟩:=rB p h3 hg
     have h6:=h3.gn
     have:=BR h hc (by omega) rfl h5
     have hj:=(iJ.1 hc).1
     rw[fR hw (by omega)]at this
     simpa[bU]using this
    ·exact absurd hg (by simp)
   ·exact absurd hg (by simp)
  |
   w o n s=>
   simp only[lW]at hg
   split at hg
   ·rename_i hs
    obtain⟨rfl,hs⟩:=hs
    obtain⟨h1,h2⟩:=h.tC hw hs
    have Jg:=h1.Zo (sz:=s) (n:=n) (by rw[lJ,JdX,JdZ (by omega)]) (λx hx=>hw x (JbW (JaW hx)))
    obtain⟨h3,h4⟩:=rB p Jg hg
    rw[lJ,JdX]at h3
    rw[kG _ _ _ _ _ (by omega)]at h4
    refine⟨by simp only[bU];omega,by simpa only[bU]using h4⟩
   ·exact absurd hg (by simp)
def mY {heap:Array Obj} {b o:Nat} {cs:UE} (h:∀i c,cs[i]? =some c->cell heap b (o+i)=some c) (p n:Nat):
  ∀i c,((cs.drop p).take n)[i]? =some c->cell heap b (o+p+i)=some c:=by
 intro i c hc;rw[List.getElem?_take]at hc;split at hc
 ·rw[List.getElem?_drop]at hc;have:=h _ _ hc;rwa [Nat.add_assoc]
 ·exact absurd hc (by simp)
def lE {heap:Array Obj} {b:Nat} {c:Array Value} {e:TypeId} {fr:Nat×Nat} (h:heap[b]? =some (.cells c e fr)) (cs rest:UE) (hc:c.toList=cs++rest):
  ∀i x,cs[i]? =some x->cell heap b (0+i)=some x:=by
 intro i x hx;simp only[cell,h,JhX];have hi:=(iJ.1 hx).1;rw[←Array.getElem?_toList,hc,List.getElem?_append_left hi,hx]
theorem Mem.at (hm:Mem Γ) {k b:Nat} {blk:aU} {p:Zy} {u:PV} (hg:get Γ.bx k=some blk) (hb:Γ.ι k=some b) (hu:lW blk p=some u):
  ∃cs,aC Γ [u] cs∧∀i c,cs[i]? =some c->cell Γ.heap b (bU p+i)=some c:=by
 have h:=hm.blk k blk hg;cases blk with
 |
  box v=>
  obtain⟨b',c,e,h1,h2,h3⟩:=h
  rw[hb]at h1;cases h1
  obtain⟨h4,h5⟩:=rB p h3 (by simpa[lW]using hu)
  refine⟨_,h5,?_⟩
  have:=mY (lE h2 c.toList [] (by simp)) (bU p) u.width
  simpa using this
 |
  arr sz l=>
  obtain⟨h1,h2,h3⟩:=h
  rw[hb]at h3
  obtain⟨c,e,cs,rest,h4,h5,h6,_⟩:=h3
  obtain⟨h7,h8⟩:=BY h6 h1 hu
  refine⟨_,h8,?_⟩
  have:=mY (lE h4 cs rest h5) (bU p) u.width
  simpa using this
 |map b0 ks vs l=>simp[lW]at hu
def cell?_eq (w:World) (b o:Nat):w.cell? ⟨b,o,none⟩=cell w.heap b o:=by
 simp only[World.cell?,cell];split<;>simp_all
def u0 {t:TypeId} {g:Bool} (h:lD P t=some g):(isAgg t).run P w= .ok g w:=by
 unfold lD at h;split at h<;>simp only[sJ,reduceCtorEq]at h
 ·rename_i fs hu;subst h;simp[isAgg,run_underlying hu]
 ·rename_i n e hu;subst h;simp[isAgg,run_underlying hu]
 ·rename_i d h1 h2 hu;subst h;simp only[isAgg,bJ,run_underlying hu,rJ];try split
  all_goals simp_all
def run_sizeOf {t:TypeId} {n:Nat} (h:eK P t=some n):(sizeOf t).run P w= .ok n w:=by
 unfold eK at h;split at h<;>simp only[sJ,reduceCtorEq]at h;rename_i i hi;subst h;simp[sizeOf,typeInfo,hi]
def iR (b o n:Nat):Addr.add ⟨b,o,none⟩ n=⟨b,o+n,none⟩:=by
 simp only[Addr.add];split
 ·subst_vars;rfl
 ·rfl
theorem Ak {t:TypeId} {u:PV} {cs:UE} {b o:Nat} (hr:aC Γ [u] cs) (hc:∀i c,cs[i]? =some c->cell w.heap b (o+i)=some c)
  (hg:lD P t=some u.isAgg) (hn:eK P t=some u.width):∃v,(loadVar t ⟨b,o,none⟩).run P w= .ok v w∧aN Γ u v:=by
 have hl:=hr.gn;cases ha:u.isAgg with
 |
  true=>
  refine⟨.agg cs.toArray,?_,aN.tS hr ha⟩
  rw[ha]at hg
  simp only[loadVar,bJ,u0 hg,rJ,if_true,run_sizeOf hn]
  rw[←hl,run_loadCells_list w ⟨b,o,none⟩ cs (λj v hj=>by rw[iR,cell?_eq];exact hc j v hj)]
  rfl
 |
  false=>
  have h1:u.width=1:=by cases u<;>simp[PV.isAgg]at ha<;>rfl
  rw[h1]at hl
  obtain⟨v,rfl⟩:=JoJ.1 hl
  refine⟨v,?_,aN.Fy hr ha⟩
  rw[ha]at hg
  have:=hc 0 v rfl
  simp only[loadVar,bJ,u0 hg,rJ,fJ,if_false,run_load,cell?_eq]
  rw[JmZ]at this
  rw[this]
def Hj {t:TypeId} {x:Operand} {y:AX} {g:Bool} {G:Bool} {n:Nat} {K:W7} (hx:eH x=some y) (hs:fW nt ds s Γ a) (hw:w.heap=Γ.heap) (hG:G=true)
  (ha:lD P t=some g) (hn:eK P t=some n) (he:ev G s (.load g n y) K):gp P Γ w (Instr.loadAt t (a.eval x)) K:=by
 simp only[ev]at he;obtain⟨p,hp,hr⟩:=bR hx hs hG he;split at hp
 ·rename_i k p aD;split at hp
  ·rename_i blk hb;split at hp
   ·rename_i u hu;obtain⟨⟨h1,h2,h3⟩,hK⟩:=hp;rw[←hs.bx]at hb;obtain⟨b,hι,hv⟩:=hr.pt hb h1;obtain⟨cs,GZ,Eg⟩:=hs.mem.at hb hι hu;obtain⟨v,yB,mQ⟩:=Ak (P:=P) (w:=w) (b:=b) (o:=bU p) GZ (by rw[hw];exact Eg) (by rw[h3];exact ha) (by rw[h2];exact hn);exact⟨u,v,hK,by rw[hv];simpa[Instr.loadAt,Instr.sureAddr]using yB,mQ⟩
   ·exact hp.elim
  ·exact hp.elim
 ·rename_i sz l p;split at hp
  ·rename_i u hu;obtain⟨⟨h2,h3⟩,hK⟩:=hp;obtain⟨b,o,cs,hv,hl,mM,hm,hc⟩:=hr.fp;obtain⟨h4,h5⟩:=BY hl mM hu;obtain⟨v,yB,mQ⟩:=Ak (P:=P) (w:=w) (b:=b) (o:=o+bU p) h5 (by rw[hw];exact mY hc (bU p) u.width) (by rw[h3];exact ha) (by rw[h2];exact hn);exact⟨u,v,hK,by rw[hv];simpa[Instr.loadAt,Instr.sureAddr]using yB,mQ⟩
  ·exact hp.elim
 ·exact hp.elim
def aN.PM {k b aD:Nat} {p:Zy} {blk:aU} (hb:get Γ.bx k=some blk) (ht:aD=blk.aD) (hι:Γ.ι k=some b) {o:Nat} (ho:o=bU p):
  aN Γ (.pt k p aD) (.pointer (some ⟨b,o,none⟩)):=by
 subst ho;simp only[aN];exact .pt k p aD _ blk ⟨hb,by omega⟩ rfl (λ_=>⟨b,hι,rfl⟩) .nil
def aN.Ve {sz b o:Nat} {l:WG} {cs:UE} {p:Zy} (hl:aC Γ l cs) (hw:∀x∈l,x.width=sz) (hm:b<Γ.heap.size∧¬Γ.own b)
  (hc:∀i c,cs[i]? =some c->cell Γ.heap b (o+i)=some c) {q:Nat} (hq:q=o+bU p):aN Γ (.fp sz l p) (.pointer (some ⟨b,q,none⟩)):=by
 subst hq;simp only[aN];exact .fp sz l p b o hl hw hm hc .nil
def JI {t:TypeId} {x:Operand} {y:AX} {G:Bool} {K:W7} {i m:Nat} {fs:Array Field} {f:Field} (hx:eH x=some y) (hs:fW nt ds s Γ a) (hG:G=true)
  (hu:P.underlying t=some (.struct fs)) (hf:fs[i]? =some f) (hn:eK P f.type=some (m+1)) (he:ev G s (.fieldA i f.offset y) K):
  gp P Γ w (Instr.fieldAt t (a.eval x) i) K:=by
 simp only[ev]at he;obtain⟨p,hp,hr⟩:=bR hx hs hG he
 have key:∀b o,(Instr.fieldAt t (.pointer (some ⟨b,o,none⟩)) i).run P w= .ok (.pointer (some ⟨b,o+f.offset,none⟩)) w:=by
  intro b o;simp only[Instr.fieldAt,bJ,run_underlying hu,rJ,hf,Instr.sureAddr,JcZ,fieldPlace,run_sizeOf hn];rw[if_neg (by omega)];simp[iR]
 split at hp
 ·rename_i k p aD;split at hp
  ·rename_i blk hb;rw[←hs.bx]at hb;obtain⟨b,hι,hv⟩:=hr.pt hb hp.1;exact⟨_,_,hp.2,by rw[hv];exact key _ _,.PM hb hp.1 hι (by simp[lC,bU])⟩
  ·exact hp.elim
 ·rename_i sz l p;obtain⟨b,o,cs,hv,hl,mM,hm,hc⟩:=hr.fp;exact⟨_,_,hp,by rw[hv];exact key _ _,.Ve hl mM hm hc (by simp[lC,bU];omega)⟩
 ·exact hp.elim
def DN {t e:TypeId} {x i:Operand} {y j:AX} {G:Bool} {K:W7} {n:Nat} (hx:eH x=some y) (hi:eH i=some j) (hs:fW nt ds s Γ a) (hG:G=true)
  (hu:P.underlying t=some (.slice e)) (hn:eK P e=some n) (he:ev G s (.indexA (.sl n) y j) K):gp P Γ w (Instr.indexAt t (a.eval x) (a.eval i)) K:=by
 simp only[ev]at he;obtain⟨p,hp,hr⟩:=bR hx hs hG he;obtain⟨q,hq,od⟩:=bR hi hs hG hp;obtain⟨k,m,hm,hK⟩:=eN hq od;rw[hm]
 have key:∀b o (len cap:Nat),0≤m->m<len->(Instr.indexAt t (.slice (some ⟨b,o,none⟩) len cap) (.int k m)).run P w= .ok (.pointer (some ⟨b,o+m.toNat*n,none⟩)) w:=by
  intro b o len cap h0 h1;simp only[Instr.indexAt,asIntOf,bJ,JcZ,run_underlying hu,rJ];rw[if_pos ⟨h0,h1⟩];simp[run_sizeOf hn,iR]
 split at hK
 ·rename_i bu l clip;obtain⟨⟨rfl,h0,h1⟩,hK⟩:=hK;obtain⟨ad,bg,cs,hv,hl,mM,hc,hk,hb⟩:=hr.sl;obtain⟨b,o,rfl,dx,YS,mL⟩:=hb (by intro h;subst h;simp at h1;omega);rw[hv];exact⟨_,_,hK,key _ _ _ _ h0 h1,.Ve hl mM ⟨dx,YS⟩ mL (by simp[bU])⟩
 ·rename_i kk p off len aD bu c;split at hK
  ·rename_i blk hb;obtain⟨⟨h1,rfl,h2,h3⟩,hK⟩:=hK;rw[←hs.bx]at hb;obtain⟨ad,bg,hv,cL⟩:=hr.rs hb h1;unfold iD at cL;cases hι:Γ.ι kk with
   |none=>rw[hι]at cL;omega
   |
    some b=>
    rw[hι]at cL
    obtain⟨h4,h5,_⟩:=cL
    rcases h5 with h5|rfl
    ·omega
    rw[hv]
    exact⟨_,_,hK,key _ _ _ _ h2 h3,.PM hb h1 hι (by simp[lC,bU,JgV];omega)⟩
  ·exact hK.elim
 ·exact hK.elim
def Vf {t e:TypeId} {x:Operand} {y:AX} {G:Bool} {K:W7} {n sz:Nat} (hx:eH x=some y) (hs:fW nt ds s Γ a) (hG:G=true)
  (hu:P.underlying t=some (.array n e)) (he:ev G s (.s2a n sz y) K):gp P Γ w (Instr.arrayAt t (a.eval x)) K:=by
 simp only[ev]at he;obtain⟨p,hp,hr⟩:=bR hx hs hG he
 have key:∀(ad:Option Addr) (len cap:Nat),n≤len->(Instr.arrayAt t (.slice ad len cap)).run P w= .ok (.pointer ad) w:=by
  intro ad len cap h;simp only[Instr.arrayAt,bJ,run_underlying hu,rJ];rw[if_neg (by omega)];rfl
 split at hp
 ·rename_i bu l clip;obtain⟨⟨rfl,h0,h1⟩,hK⟩:=hp;obtain⟨ad,bg,cs,hv,hl,mM,hc,hk,hb⟩:=hr.sl;obtain⟨b,o,rfl,dx,YS,mL⟩:=hb (by intro h;subst h;simp at h1;omega);rw[hv];exact⟨_,_,hK,key _ _ _ h1,.Ve hl mM ⟨dx,YS⟩ mL (by simp[bU])⟩
 ·rename_i kk p off len aD bu c;split at hp
  ·rename_i blk hb;obtain⟨⟨h1,rfl,h2,h3⟩,hK⟩:=hp;rw[←hs.bx]at hb;obtain⟨ad,bg,hv,cL⟩:=hr.rs hb h1;unfold iD at cL;cases hι:Γ.ι kk with
   |none=>rw[hι]at cL;omega
   |
    some b=>
    rw[hι]at cL
    obtain⟨h4,h5,_⟩:=cL
    rcases h5 with h5|rfl
    ·omega
    rw[hv]
    exact⟨_,_,hK,key _ _ _ h3,.PM hb h1 hι (by simp[lC,bU])⟩
  ·exact hp.elim
 ·exact hp.elim
def DO {t e:TypeId} {x i:Operand} {y j:AX} {G:Bool} {K:W7} {len n:Nat} (hx:eH x=some y) (hi:eH i=some j) (hs:fW nt ds s Γ a) (hG:G=true)
  (hu:P.underlying t=some (.array len e)) (hn:eK P e=some n) (he:ev G s (.indexA (.ar len n) y j) K):gp P Γ w (Instr.indexAt t (a.eval x) (a.eval i)) K:=by
 simp only[ev]at he;obtain⟨p,hp,hr⟩:=bR hx hs hG he;obtain⟨q,hq,od⟩:=bR hi hs hG hp;obtain⟨k,m,hm,⟨h0,h1⟩,hK⟩:=eN hq od;rw[hm]
 have key:∀b o,(Instr.indexAt t (.pointer (some ⟨b,o,none⟩)) (.int k m)).run P w= .ok (.pointer (some ⟨b,o+m.toNat*n,none⟩)) w:=by
  intro b o;simp only[Instr.indexAt,asIntOf,bJ,JcZ,run_underlying hu,rJ,Instr.sureAddr];rw[if_pos ⟨h0,h1⟩];simp[run_sizeOf hn,iR]
 split at hK
 ·rename_i k p aD;split at hK
  ·rename_i blk hb;rw[←hs.bx]at hb;obtain⟨b,hι,hv⟩:=hr.pt hb hK.1;exact⟨_,_,hK.2,by rw[hv];exact key _ _,.PM hb hK.1 hι (by simp[lC,bU])⟩
  ·exact hK.elim
 ·rename_i sz l p;obtain⟨b,o,cs,hv,hl,mM,hm,hc⟩:=hr.fp;exact⟨_,_,hK,by rw[hv];exact key _ _,.Ve hl mM hm hc (by simp[lC,bU];omega)⟩
 ·exact hK.elim
end Go.Ab
namespace Go.Ab
variable [cM]
variable {P:Program} {nt:Nat} {ds:List Deferred} {s:St} {Γ:Cx} {a:Act} {w:World}
def aN.gd {b:Bool} {p:PV} {v:Value} (h:aN Γ (.gd b p) v) (hb:b=true):aN Γ p v:=by
 rw[aN]at h;exact h.1 hb
def PN {c x y:Operand} {c' x' y':AX} {G:Bool} {K:W7} (hc:eH c=some c') (hx:eH x=some x') (hy:eH y=some y') (hs:fW nt ds s Γ a) (hG:G=true)
  (he:ev G s (.pick c' x' y') K):gp P Γ w (do Pure.pure (if←asBool (a.eval c)then a.eval x else a.eval y)) K:=by
 simp only[ev]at he;obtain⟨p,hp,hr⟩:=bR hc hs hG he;have rx:=BX hx hs;have ry:=BX hy hs;split at hp
 ·rename_i b;have hb:=hr.bl
  have key:((do Pure.pure (if←asBool (a.eval c)then a.eval x else a.eval y):Sem Value)).run P w= .ok (if b then a.eval x else a.eval y) w:=by
   rw[hb];simp[asBool]
  split at hp<;>rename_i e1 e2<;>(try rw[e1]at rx)<;>(try rw[e2]at ry)
  ·refine⟨_,_,hp,key,?_⟩;rw[rx.bl,ry.bl];cases b<;>exact jm
  ·refine⟨_,_,hp.2,key,?_⟩;cases b with
   |true=>rw[rx.bl];exact jm
   |false=>rw[(ry.gd (hp.1 rfl)).bl];exact jm
  ·refine⟨_,_,hp.2,key,?_⟩;cases b with
   |false=>rw[ry.bl];exact jm
   |true=>rw[(rx.gd (hp.1 rfl)).bl];exact jm
  ·refine⟨_,_,hp.2,key,?_⟩;cases b with
   |false=>rw[(ry.gd (hp.1.2 rfl)).bl];exact jm
   |true=>rw[(rx.gd (hp.1.1 rfl)).bl];exact jm
  ·refine⟨_,_,hp.2,key,?_⟩;rw[hp.1,rx.bl];exact jm
  ·refine⟨_,_,hp.2,key,?_⟩;rw[hp.1,ry.bl];exact jm
  ·exact hp.elim
 ·exact hp.elim
def ab8 {op:UnOp} {x:Operand} {y:AX} {G:Bool} {K:W7} (hx:eH x=some y) (hs:fW nt ds s Γ a) (hG:G=true) (he:ev G s (.un op y) K):
  gp P Γ w (Op.unary op (a.eval x)) K:=by
 simp only[ev]at he;obtain⟨p,hp,hr⟩:=bR hx hs hG he;split at hp
 ·exact⟨_,_,hp,by rw[hr.bl];rfl,jm⟩
 ·exact⟨_,_,hp,by rw[hr.int];rfl,cH⟩
 ·exact⟨_,_,hp,by rw[hr.int];rfl,cH⟩
 ·exact hp.elim
def Nv {t d:TypeId} {k k':IntKind} {x:Operand} {y:AX} {G:Bool} {K:W7} (hx:eH x=some y) (hs:fW nt ds s Γ a) (hG:G=true)
  (ht:P.underlying t=some (.int k')) (hd:P.underlying d=some (.int k)) (he:ev G s (.convI k y) K):gp P Γ w (convert t d (a.eval x)) K:=by
 simp only[ev]at he;obtain⟨p,hp,hr⟩:=bR hx hs hG he;obtain⟨k2,n,hv,hK⟩:=eN hp hr;exact⟨_,_,hK,by rw[hv];simp[convert,run_underlying ht,run_underlying hd,Conv.intToInt],cH⟩
def xl {p:PV} {l:WG} {bs:Zz} (h:gH (p::l)=some bs):∃n r,p= .int .u8 n∧0≤n∧n<256∧gH l=some r∧bs=UInt8.ofNat n.toNat::r:=by
 cases p<;>(try(simp only[gH,reduceCtorEq]at h;done))
 rename_i k n;cases k<;>(try(simp only[gH,reduceCtorEq]at h;done))
 simp only[gH]at h;split at h
 ·rename_i hn;split at h
  ·rename_i r hr;simp only[sJ]at h;exact⟨n,r,rfl,hn.1,hn.2,hr,h.symm⟩
  ·exact absurd h (by simp)
 ·exact absurd h (by simp)
theorem tT:∀ {l:WG} {bs:Zz},gH l=some bs->bs.length=l.length
 |[],bs,h=>by simp[gH]at h;subst h;rfl
 |
  p::l,bs,h=>by
  obtain⟨n,r,_,_,_,hr,rfl⟩:=xl h
  simp[tT hr]
theorem Hk {l:WG}:∀ {bs:Zz} {cs:UE},aC Γ l cs->gH l=some bs->cs.length=bs.length∧∀(i:Nat) c,cs[i]? =some c->∃n,c= .int .u8 n∧∃b,bs[i]? =some b∧b=UInt8.ofNat n.toNat:=by
 induction l with
 |nil=>intro bs cs h hb;cases h;simp[gH]at hb;subst hb;simp
 |
  cons p l ih=>
  intro bs cs h hb
  obtain⟨n,r,rfl,h0,h1,hr,rfl⟩:=xl hb
  cases h with
  |
   int k n hl=>
   obtain⟨i1,i2⟩:=ih hl hr
   refine⟨by simp[i1],λi c hc=> ?_⟩
   cases i with
   |zero=>simp at hc;subst hc;exact⟨n,rfl,_,by simp,rfl⟩
   |succ i=>simp at hc;simpa using i2 i c hc
def qn {p:PV} {v:Value} {K:Nat->WG->Prop} (hs:fW nt ds s Γ a) (h:content s p K) (hr:aN Γ p v):
  ∃sz l cs ad bg,K sz l∧v= .slice ad l.length bg∧aC Γ l cs∧(l≠[]->∃b o,ad=some ⟨b,o,none⟩∧∀i c,cs[i]? =some c->cell Γ.heap b (o+i)=some c)∧l.length≤bg∧∀x∈l,x.width=sz:=by
 unfold content at h;split at h
 ·rename_i sz l clip;obtain⟨ad,bg,cs,hv,hl,hw,hc,hk,hb⟩:=hr.sl;exact⟨sz,l,cs,ad,bg,h,hv,hl,λbY=>let⟨b,o,h1,_,_,h4⟩:=hb bY;⟨b,o,h1,h4⟩,hc,hw⟩
 ·rename_i k p off len aD sz c;split at h
  ·rename_i bu l hb;obtain⟨⟨h1,rfl,rfl,h4⟩,hK⟩:=h;rw[←hs.bx]at hb;obtain⟨ad,bg,hv,cL⟩:=hr.rs hb (by simpa[aU.aD]using h1);have kP:=hs.mem.blk k _ hb;obtain⟨hw,fP,kP⟩:=kP;unfold iD at cL;have hlen:((l.drop off).take len).length=len:=by simp;omega
   cases hι:Γ.ι k with
   |
    none=>
    rw[hι]at cL kP
    obtain⟨rfl,rfl,_⟩:=cL
    exact⟨sz,_,[],ad,0,hK,by rw[hlen];exact hv,by simpa using aC.nil,by simp,by simp,by simp⟩
   |
    some b=>
    rw[hι]at cL kP
    obtain⟨c',e,cs,rest,h5,h6,h7,_⟩:=kP
    obtain⟨h8,h9,_⟩:=cL
    have Fj:cs.length=l.length*sz:=by rw[h7.length,bD hw]
    have TW:aC Γ ((l.drop off).take len) ((cs.drop (off*sz)).take (len*sz)):=by
     have e1:l=l.take off++((l.drop off).take len++(l.drop off).drop len):=by rw[JbV,JbV]
     rw[e1]at h7;obtain⟨c1,v1,rfl,r1,r2⟩:=h7.split;obtain⟨c2,v2,rfl,r3,r4⟩:=r2.split;have l1:c1.length=off*sz:=by rw[r1.length,bD (λx hx=>hw x (JaW hx))];simp;rw[JdZ (by omega)]
     have l2:c2.length=len*sz:=by rw[r3.length,bD (λx hx=>hw x (JbW (JaW hx))),hlen]
     rw[←l1,←l2];simpa using r3
    refine⟨sz,_,_,ad,bg,hK,by rw[hlen];exact hv,TW,λbY=> ?_,by rw[hlen];exact h8,λx hx=>hw x (JbW (JaW hx))⟩
    have:0<len:=by
     rcases JnX len with h|h
     ·subst h;simp at bY
     ·exact h
    rcases h9 with h9|rfl
    ·omega
    refine⟨b,_,rfl,?_⟩
    have:=mY (lE h5 cs rest h6) (off*sz) (len*sz)
    simpa[bU]using this
  ·rename_i v' hb;split at h
   ·rename_i bu n l LB;obtain⟨⟨h1,rfl,h4⟩,hK⟩:=h;rw[←hs.bx]at hb;obtain⟨ad,bg,hv,cL⟩:=hr.rs hb (by simpa[aU.aD]using h1);unfold iD at cL;cases hι:Γ.ι k with
    |
     none=>
     have kP:=hs.mem.blk k _ hb
     obtain⟨b,_,_,h5,_⟩:=kP
     rw[hι]at h5;exact absurd h5 (by simp)
    |
     some b=>
     rw[hι]at cL
     obtain⟨h8,h9,_⟩:=cL
     obtain⟨cs,GZ,Eg⟩:=hs.mem.at hb hι (by simpa[lW]using LB)
     obtain⟨hl,hn,hw⟩:=GZ.px
     have hlen:((l.drop off).take len).length=len:=by simp;omega
     have TW:aC Γ ((l.drop off).take len) ((cs.drop (off*sz)).take (len*sz)):=by
      have e1:l=l.take off++((l.drop off).take len++(l.drop off).drop len):=by rw[JbV,JbV]
      rw[e1]at hl;obtain⟨c1,v1,rfl,r1,r2⟩:=hl.split;obtain⟨c2,v2,rfl,r3,r4⟩:=r2.split;have l1:c1.length=off*sz:=by rw[r1.length,bD (λx hx=>hw x (JaW hx))];simp;rw[JdZ (by omega)]
      have l2:c2.length=len*sz:=by rw[r3.length,bD (λx hx=>hw x (JbW (JaW hx))),hlen]
      rw[←l1,←l2];simpa using r3
     refine⟨sz,_,_,ad,bg,hK,by rw[hlen];exact hv,TW,λbY=> ?_,by rw[hlen];exact h8,λx hx=>hw x (JbW (JaW hx))⟩
     have:0<len:=by
      rcases JnX len with h|h
      ·subst h;simp at bY
      ·exact h
     rcases h9 with h9|rfl
     ·omega
     refine⟨b,_,rfl,?_⟩
     exact mY Eg (off*sz) (len*sz)
   ·exact h.elim
  ·exact h.elim
 ·exact h.elim
theorem PO {f:Value->ByteArray->Sem (ForInStep ByteArray)} (hf:∀n s,f (.int .u8 n) s=Pure.pure (ForInStep.yield (s.push (UInt8.ofNat n.toNat)))):∀(cs:UE) (bs:Zz) (acc:ByteArray),cs.length=bs.length->(∀(i:Nat) c,cs[i]? =some c->∃n,c= .int .u8 n∧∃b,bs[i]? =some b∧b=UInt8.ofNat n.toNat)->
  ∃r:ByteArray,(forIn (m:=Sem) cs acc f).run P w= .ok r w∧r.data.toList=acc.data.toList++bs:=by
 intro cs;induction cs with
 |
  nil=>
  intro bs acc hl _
  have:bs=[]:=by simpa using hl.symm
  subst this
  exact⟨acc,by simp,by simp⟩
 |
  cons c cs ih=>
  intro bs acc hl h
  obtain⟨n,rfl,b,hb,rfl⟩:=h 0 c rfl
  cases bs with
  |nil=>simp at hl
  |
   cons b bs=>
   simp at hb;subst hb
   obtain⟨r,vJ,od⟩:=ih bs (acc.push (UInt8.ofNat n.toNat)) (by simpa using hl) (λi c hc=>by simpa using h (i+1) c (by simpa using hc))
   refine⟨r,?_,by rw[od];simp⟩
   simp only[List.forIn_cons,hf,bJ,JcZ,rJ]
   exact vJ
def Nw {t d e:TypeId} {x:Operand} {y:AX} {G:Bool} {K:W7} (hx:eH x=some y) (hs:fW nt ds s Γ a) (hw:w.heap=Γ.heap) (hG:G=true)
  (ht:P.underlying t=some (.slice e)) (hd:P.underlying d=some .string) (hee:P.underlying e=some (.int .u8)) (he:ev G s (.convS y) K):gp P Γ w (convert t d (a.eval x)) K:=by
 simp only[ev]at he;obtain⟨p,hp,hr⟩:=bR hx hs hG he;obtain⟨sz,l,cs,ad,bg,⟨rfl,hK⟩,hv,hl,mL,hle,_⟩:=qn hs hp hr;split at hK
 ·rename_i bs Jh;obtain⟨h1,h2⟩:=Hk hl Jh;have hlen:l.length=cs.length:=by rw[h1,tT Jh]
  have key:∃r:ByteArray,(Conv.bytesToString (a.eval x)).run P w= .ok (.string r) w∧r.data.toList=bs:=by
   rw[hv];cases Jz:l with
   |
    nil=>
    subst Jz
    simp at hlen
    have aBy:bs=[]:=by
     simp[gH]at Jh;exact Jh
    subst aBy
    refine⟨.empty,?_,rfl⟩
    cases ad with
    |none=>rfl
    |
     some ad=>
     simp only[Conv.bytesToString,List.length_nil,loadCells,loadCellsFrom,bJ,JcZ,rJ]
     simp
   |
    cons z zs=>
    obtain⟨b,o,rfl,hc⟩:=mL (by simp[Jz])
    rw[←Jz,hlen]
    simp only[Conv.bytesToString,bJ]
    rw[run_loadCells_list w ⟨b,o,none⟩ cs (λj v hj=>by rw[iR,cell?_eq,hw];exact hc j v hj)]
    simp only[rJ,←Array.forIn_toList]
    generalize hf:(λ(c:Value) (__s:ByteArray)=>(_:Sem (ForInStep ByteArray)))=f
    obtain⟨r,vJ,od⟩:=PO (P:=P) (w:=w) (f:=f) (by intro n s;rw[←hf]) cs bs .empty h1 h2
    exact⟨r,by rw[vJ];rfl,by simpa using od⟩
  obtain⟨r,vJ,od⟩:=key;refine⟨_,_,hK,?_,rD od⟩;rw[hv]at vJ⊢;simp[convert,run_underlying ht,run_underlying hd,run_underlying hee,vJ]
 ·exact hK.elim
end Go.Ab
namespace Go.Ab
variable [cM]
variable {P:Program} {nt:Nat} {ds:List Deferred} {s:St} {Γ:Cx} {a:Act} {w:World}
theorem lY {x:Option Operand} {y:Option AX} (h:DG x=some y):(x=none∧y=none)∨∃o z,x=some o∧y=some z∧eH o=some z:=by
 cases x with
 |none=>simp[DG]at h;exact .inl ⟨rfl,h.symm⟩
 |
  some o=>
  simp only[DG]at h
  split at h
  ·rename_i z hz;simp only[sJ]at h;exact .inr ⟨o,z,rfl,h.symm,hz⟩
  ·exact absurd h (by simp)
def tU {G b:Bool} {lo hi:Option Operand} {Ji je:Option AX} {len cap Ba:Nat} {K:Nat->Nat->Prop} (hl:DG lo=some Ji) (hh:DG hi=some je) (hs:fW nt ds s Γ a) (hG:G=true)
  (Eh:cap≤Ba) (hle:len≤cap) (h:jX G s Ji je len cap K):
  ∃l h,K l h∧l≤h∧h≤cap∧(Instr.sliceBounds b len Ba (lo.map a.eval) (hi.map a.eval) none).run P w= .ok (l,h,Ba) w:=by
 unfold jX at h;rcases lY hh with⟨rfl,rfl⟩|⟨ho,hz,rfl,rfl,hhx⟩<;>rcases lY hl with⟨rfl,rfl⟩|⟨lo1,lz,rfl,rfl,hlx⟩<;>simp only at h
 ·exact⟨0,len,h,Nat.zero_le _,hle,rfl⟩
 ·obtain⟨p,hp,hr⟩:=bR hlx hs hG h;obtain⟨k,n,hv,⟨h0,h1⟩,hK⟩:=eN hp hr;refine⟨n.toNat,len,hK,by omega,hle,?_⟩;simp only[Instr.sliceBounds,JnZ,JkW,hv,Instr.sliceBound,asIntOf,bJ,JcZ,rJ];rw[if_pos ⟨h0,h1⟩];rfl
 ·obtain⟨p,hp,hr⟩:=bR hhx hs hG h;obtain⟨k,n,hv,⟨h0,h1⟩,hK⟩:=eN hp hr;refine⟨0,n.toNat,hK,Nat.zero_le _,by omega,?_⟩;simp only[Instr.sliceBounds,JnZ,JkW,hv,Instr.sliceBound,asIntOf,bJ,JcZ,rJ];rw[if_pos ⟨h0,by omega⟩];rfl
 ·obtain⟨p,hp,hr⟩:=bR hhx hs hG h;obtain⟨k,n,hv,⟨h0,h1⟩,hK⟩:=eN hp hr;obtain⟨p2,vK,od⟩:=bR hlx hs hG hK;obtain⟨k2,n2,mQ,⟨h2,h3⟩,yu⟩:=eN vK od;refine⟨n2.toNat,n.toNat,yu,by omega,by omega,?_⟩;simp only[Instr.sliceBounds,JkW,hv,mQ,Instr.sliceBound,asIntOf,bJ,JcZ,rJ];rw[if_pos ⟨h0,by omega⟩];simp only[JcZ,rJ];rw[if_pos ⟨h2,by omega⟩];rfl
def xm {G:Bool} {lo hi:Option Operand} {Ji je:Option AX} {mo:Operand} {m:Int} {km:IntKind} {len Ba:Nat} {K:Nat->Nat->Prop} (hl:DG lo=some Ji) (hh:DG hi=some je) (hhi:je.isSome=true) (hs:fW nt ds s Γ a) (hG:G=true)
  (hm:a.eval mo= .int km m) (TX:0≤m) (hm1:m≤Ba) (h:jX G s Ji je len m.toNat K):
  ∃l h,K l h∧l≤h∧h≤m.toNat∧(Instr.sliceBounds true len Ba (lo.map a.eval) (hi.map a.eval) (some (a.eval mo))).run P w= .ok (l,h,m.toNat) w:=by
 unfold jX at h;rcases lY hh with⟨rfl,rfl⟩|⟨ho,hz,rfl,rfl,hhx⟩
 ·simp at hhi
 rcases lY hl with⟨rfl,rfl⟩|⟨lo1,lz,rfl,rfl,hlx⟩<;>simp only at h
 ·obtain⟨p,hp,hr⟩:=bR hhx hs hG h;obtain⟨k,n,hv,⟨h0,h1⟩,hK⟩:=eN hp hr;refine⟨0,n.toNat,hK,Nat.zero_le _,by omega,?_⟩;simp only[Instr.sliceBounds,JnZ,JkW,hv,hm,Instr.sliceBound,asIntOf,bJ,JcZ,rJ];rw[if_pos ⟨TX,hm1⟩];simp only[JcZ,rJ];rw[if_pos ⟨h0,by omega⟩];rfl
 ·obtain⟨p,hp,hr⟩:=bR hhx hs hG h;obtain⟨k,n,hv,⟨h0,h1⟩,hK⟩:=eN hp hr;obtain⟨p2,vK,od⟩:=bR hlx hs hG hK;obtain⟨k2,n2,mQ,⟨h2,h3⟩,yu⟩:=eN vK od;refine⟨n2.toNat,n.toNat,yu,by omega,by omega,?_⟩;simp only[Instr.sliceBounds,JkW,hv,mQ,hm,Instr.sliceBound,asIntOf,bJ,JcZ,rJ];rw[if_pos ⟨TX,hm1⟩];simp only[JcZ,rJ];rw[if_pos ⟨h0,by omega⟩];simp only[JcZ,rJ];rw[if_pos ⟨h2,by omega⟩];rfl
def DP {t:TypeId} {x:Operand} {lo hi mx:Option Operand} {x':AX} {Ji je PB:Option AX} {G:Bool} {K:W7} (hx:eH x=some x') (hl:DG lo=some Ji) (hh:DG hi=some je) (hm:DG mx=some PB)
  (hs:fW nt ds s Γ a) (hG:G=true) (hu:P.underlying t=some .string) (he:ev G s (.slice .str x' Ji je PB) K):
  gp P Γ w (Instr.sliceAt t (a.eval x) (lo.map a.eval) (hi.map a.eval) (mx.map a.eval)) K:=by
 simp only[ev]at he;obtain⟨p,hp,hr⟩:=bR hx hs hG he;split at hp
 ·rename_i bs;obtain⟨str,hv,hd⟩:=hr.str;obtain⟨hmx,hp⟩:=hp;rcases lY hm with⟨rfl,rfl⟩|⟨o,z,rfl,rfl,_⟩
  rotate_left
  ·simp at hmx
  have fP:bs.length=str.size:=by rw[←hd];exact JbX
  obtain⟨l,h,hK,h1,h2,h3⟩:=tU (P:=P) (w:=w) (b:=false) hl hh hs hG (JaQ _) (JaQ _) hp;refine⟨_,.string (str.extract l h),hK,?_,rD ?_⟩
  ·rw[hv];rw[fP]at h3;simp only[Instr.sliceAt,Instr.slice,bJ,run_underlying hu,rJ,JnZ,Option.isSome_none,fJ,if_false,h3];rfl
  ·rw[←hd];simp[List.drop_take]
 ·exact hp.elim
def aC.sub {l:WG} {sz:Nat} {cs:UE} (h:aC Γ l cs) (hw:∀x∈l,x.width=sz) (lo hi:Nat) (LC:lo≤hi) (hhi:hi≤l.length):
  aC Γ ((l.take hi).drop lo) ((cs.drop (lo*sz)).take ((hi-lo)*sz)):=by
 have e0:(l.take hi).drop lo=(l.drop lo).take (hi-lo):=by rw[List.drop_take]
 rw[e0];have e1:l=l.take lo++((l.drop lo).take (hi-lo)++(l.drop lo).drop (hi-lo)):=by rw[JbV,JbV]
 rw[e1]at h;obtain⟨c1,v1,rfl,r1,r2⟩:=h.split;obtain⟨c2,v2,rfl,r3,r4⟩:=r2.split;have l1:c1.length=lo*sz:=by rw[r1.length,bD (λx hx=>hw x (JaW hx))];simp;rw[JdZ (by omega)]
 have l2:c2.length=(hi-lo)*sz:=by rw[r3.length,bD (λx hx=>hw x (JbW (JaW hx)))];simp;rw[JdZ (by omega)]
 rw[←l1,←l2];simpa using r3
def PQ {sz:Nat} {l:WG} {cs:UE} {ad:Option Addr} {Dw:Nat} {clip:Bool} (hl:aC Γ l cs) (hw:∀x∈l,x.width=sz) (lo hi:Nat) (LC:lo≤hi) (hhi:hi≤l.length)
  (hb:l≠[]->∃b o,ad=some ⟨b,o,none⟩∧b<Γ.heap.size∧¬Γ.own b∧∀i c,cs[i]? =some c->cell Γ.heap b (o+i)=some c)
  (hc:hi-lo≤Dw) (TY:clip=true->Dw=hi-lo):
  aN Γ (.sl sz ((l.take hi).drop lo) clip) (.slice (if Dw=0 then ad else ad.map (·.add (lo*sz))) (hi-lo) Dw):=by
 have hlen:((l.take hi).drop lo).length=hi-lo:=by simp;omega
 have:=aC.sl (Γ:=Γ) sz ((l.take hi).drop lo) clip (if Dw=0 then ad else ad.map (·.add (lo*sz))) Dw (hl.sub hw lo hi LC hhi) (λx hx=>hw x (JaW (JbW hx)))
  (by rw[hlen];exact hc) (by rw[hlen];exact TY) (λbY=>by
   have jh:0<hi-lo:=by
    rcases JnX (hi-lo)with h|h
    ·exact absurd (JdJ (by omega)) bY
    ·exact h
   obtain⟨b,o,rfl,h1,h2,h3⟩:=hb (by intro h;subst h;simp at hhi;omega);rw[if_neg (by omega)];exact⟨b,o+lo*sz,by simp[iR],h1,h2,mY h3 (lo*sz) ((hi-lo)*sz)⟩) .nil
 rw[hlen]at this;simpa only[aN]using this
def Fz {t e:TypeId} {x:Operand} {lo hi mx:Option Operand} {x':AX} {Ji je PB:Option AX} {G:Bool} {K:W7} {n:Nat} (hx:eH x=some x') (hl:DG lo=some Ji) (hh:DG hi=some je) (hm:DG mx=some PB)
  (hmh:PB.isSome=true->je.isSome=true) (hs:fW nt ds s Γ a) (hG:G=true) (hu:P.underlying t=some (.slice e)) (hn:eK P e=some n) (he:ev G s (.slice (.sl n) x' Ji je PB) K):
  gp P Γ w (Instr.sliceAt t (a.eval x) (lo.map a.eval) (hi.map a.eval) (mx.map a.eval)) K:=by
 simp only[ev]at he;obtain⟨p,hp,hr⟩:=bR hx hs hG he
 have key:∀(ad:Option Addr) (len cap l h m:Nat),(Instr.sliceBounds true len cap (lo.map a.eval) (hi.map a.eval) (mx.map a.eval)).run P w= .ok (l,h,m) w->
   (Instr.sliceAt t (.slice ad len cap) (lo.map a.eval) (hi.map a.eval) (mx.map a.eval)).run P w= .ok (.slice (if m=l then ad else ad.map (·.add (l*n))) (h-l) (m-l)) w:=by
  intro ad len cap l h m hb
  simp only[Instr.sliceAt,Instr.slice,bJ,run_underlying hu,rJ,hb,run_sizeOf hn]
  rfl
 have ifeq:∀(ad:Option Addr) (l m:Nat),l≤m->(if m=l then ad else ad.map (·.add (l*n)))=if m-l=0 then ad else ad.map (·.add (l*n)):=by
  intro ad l m h;by_cases h':m=l
  ·simp[h']
  ·rw[if_neg h',if_neg (by omega)]
 split at hp
 ·rename_i bu l clip;obtain⟨ad,bg,cs,hv,hL,hw,hc,hk,hb⟩:=hr.sl;rcases lY hm with⟨rfl,rfl⟩|⟨mo,mz,rfl,rfl,hmz⟩
  ·obtain⟨lo1,Ei,⟨rfl,hK⟩,h1,h2,h3⟩:=tU (P:=P) (w:=w) (b:=true) (Ba:=bg) hl hh hs hG hc (JaQ _) hp;refine⟨_,_,hK,by rw[hv];exact key _ _ _ _ _ _ h3,?_⟩;rw[ifeq _ _ _ (by omega)];exact PQ hL hw lo1 Ei h1 h2 hb (by omega) (λvL=>by simp at vL;have:=hk vL.1;omega)
  ·simp only at hp;obtain⟨q,hq,od⟩:=bR hmz hs hG hp;obtain⟨km,m,hmv,⟨TX,hm1⟩,hK⟩:=eN hq od;obtain⟨lo1,Ei,⟨rfl,hK⟩,h1,h2,h3⟩:=xm (P:=P) (w:=w) (Ba:=bg) hl hh (hmh rfl) hs hG hmv TX (by omega) hK;refine⟨_,_,hK,by rw[hv];exact key _ _ _ _ _ _ h3,?_⟩;rw[ifeq _ _ _ (by omega)];exact PQ hL hw lo1 Ei h1 (by omega) hb (by omega) (λvL=>by simp at vL;omega)
 ·rename_i k p off len aD bu c;split at hp
  ·rename_i blk hb;obtain⟨⟨h1,rfl⟩,hp⟩:=hp;rw[←hs.bx]at hb;obtain⟨ad,bg,hv,cL⟩:=hr.rs hb h1
   have hlen:len≤bg:=by
    unfold iD at cL;split at cL<;>omega
   have Jq:oy c len bg:=by
    unfold iD at cL;split at cL
    ·exact cL.2.2
    ·exact cL.2.2.1
   have hcx:BU c off len aD≤bg:=by
    cases c<;>simp only[BU]<;>try exact hlen
    simp only[oy]at Jq;split<;>omega
   have vL:len≤BU c off len aD:=by
    cases c<;>simp only[BU]<;>try exact JaQ _
    split<;>omega
   have mk:∀(lo1 Ei m:Nat) (c':iO),lo1≤Ei->Ei≤m->m≤bg->oy c' (Ei-lo1) (m-lo1)->(c'= .tip->c= .tip∧m=bg)->
     aN Γ (.rs k p (off+lo1) (Ei-lo1) aD bu c') (.slice (if m-lo1=0 then ad else ad.map (·.add (lo1*bu))) (Ei-lo1) (m-lo1)):=by
    intro lo1 Ei m c' g1 g3 g4 g5 g6
    simp only[aN]
    refine .rs k p _ _ aD bu c' _ blk ⟨hb,by omega⟩ rfl (λ_=>⟨_,_,rfl,?_⟩) .nil
    unfold iD at cL⊢
    cases hι:Γ.ι k with
    |none=>rw[hι]at cL;exact⟨by omega,by omega,g5⟩
    |
     some b=>
     rw[hι]at cL
     obtain⟨o1,o2,o3,o4⟩:=cL
     refine⟨by omega,?_,g5,λhc=> ?_⟩
     ·by_cases hz:m-lo1=0
      ·exact .inl hz
      ·right
       rw[if_neg hz]
       rcases o2 with o2|rfl
       ·omega
       ·simp[iR,JgV];omega
     ·obtain⟨g7,g8⟩:=g6 hc
      obtain⟨q1,cs,e',q2,q3⟩:=o4 g7
      refine⟨q1,cs,e',q2,?_⟩
      rw[←q3,g8];congr 1;omega
   rcases lY hm with⟨rfl,rfl⟩|⟨mo,mz,rfl,rfl,hmz⟩
   ·obtain⟨lo1,Ei,hK,g1,g2,g3⟩:=tU (P:=P) (w:=w) (b:=true) (Ba:=bg) hl hh hs hG hcx vL hp;refine⟨_,_,hK,by rw[hv];exact key _ _ _ _ _ _ g3,?_⟩;rw[ifeq _ _ _ (by omega)];refine mk lo1 Ei bg _ g1 (by omega) (JaQ _) ?_ (λhc=> ?_)
    ·cases c with
     |tip=>trivial
     |any=>trivial
     |full n=>simp only[Fv,oy]at Jq⊢;omega
     |
      clip=>
      simp only[Fv,oy,BU]at Jq⊢g2
      by_cases e:Ei=len
      ·simp[e];omega
      ·simp[e]
    ·cases c<;>simp only[Fv]at hc
     ·exact⟨rfl,rfl⟩
     ·split at hc<;>cases hc
     ·cases hc
     ·cases hc
   ·simp only at hp;obtain⟨q,hq,od⟩:=bR hmz hs hG hp;obtain⟨km,m,hmv,⟨TX,hm1⟩,hK⟩:=eN hq od;obtain⟨lo1,Ei,hK,g1,g2,g3⟩:=xm (P:=P) (w:=w) (Ba:=bg) hl hh (hmh rfl) hs hG hmv TX (by omega) hK;refine⟨_,_,hK,by rw[hv];exact key _ _ _ _ _ _ g3,?_⟩;rw[ifeq _ _ _ (by omega)];refine mk lo1 Ei m.toNat _ g1 g2 (by omega) ?_ (λhc=> ?_)
    ·split
     ·simp only[oy];omega
     ·trivial
    ·split at hc<;>simp at hc
  ·exact hp.elim
 ·exact hp.elim
def FA {t e:TypeId} {x:Operand} {lo hi mx:Option Operand} {x':AX} {Ji je PB:Option AX} {G:Bool} {K:W7} {len n:Nat} (hx:eH x=some x') (hl:DG lo=some Ji) (hh:DG hi=some je) (hm:DG mx=some PB)
  (hs:fW nt ds s Γ a) (hG:G=true) (hu:P.underlying t=some (.array len e)) (hn:eK P e=some n) (he:ev G s (.slice (.ar len n) x' Ji je PB) K):
  gp P Γ w (Instr.sliceAt t (a.eval x) (lo.map a.eval) (hi.map a.eval) (mx.map a.eval)) K:=by
 simp only[ev]at he;obtain⟨p,hp,hr⟩:=bR hx hs hG he;split at hp
 ·rename_i k p aD;split at hp
  ·rename_i blk hb;obtain⟨h1,hmx,hp⟩:=hp;rw[←hs.bx]at hb;obtain⟨b,hι,hv⟩:=hr.pt hb h1;rcases lY hm with⟨rfl,rfl⟩|⟨mo,mz,rfl,rfl,hmz⟩
   rotate_left
   ·simp at hmx
   obtain⟨lo1,Ei,hK,g1,g2,g3⟩:=tU (P:=P) (w:=w) (b:=false) (Ba:=len) hl hh hs hG (JaQ _) (JaQ _) hp;refine⟨_,.slice (some (if len=lo1 then⟨b,bU p,none⟩else Addr.add ⟨b,bU p,none⟩ (lo1*n))) (Ei-lo1) (len-lo1),hK,?_,?_⟩
   ·rw[hv];simp only[Instr.sliceAt,bJ,run_underlying hu,rJ,Instr.sureAddr,JcZ,JnZ,g3,run_sizeOf hn]
   ·simp only[aN];refine .rs k p _ _ aD n _ _ blk ⟨hb,by omega⟩ rfl (λ_=>⟨_,_,rfl,?_⟩) .nil;unfold iD;rw[hι];refine⟨by omega,?_,?_,λhc=> ?_⟩
    ·by_cases hz:len=lo1
     ·left;omega
     ·right;simp[hz,iR]
    ·split
     ·simp only[oy];omega
     ·trivial
    ·split at hc<;>simp at hc
  ·exact hp.elim
 ·rename_i z l q;split at hp
  ·rename_i z' n' l' hu';obtain⟨⟨rfl,rfl,hmx⟩,hp⟩:=hp;obtain⟨b,o,cs,hv,hL,mM,UZ,hc⟩:=hr.fp;obtain⟨h4,h5⟩:=BY hL mM hu';obtain⟨h6,h7,h8⟩:=aC.px h5;rcases lY hm with⟨rfl,rfl⟩|⟨mo,mz,rfl,rfl,hmz⟩
   rotate_left
   ·simp at hmx
   obtain⟨lo1,Ei,hK,g1,g2,g3⟩:=tU (P:=P) (w:=w) (b:=false) (Ba:=n') hl hh hs hG (JaQ _) (JaQ _) hp;refine⟨_,.slice (some (if n'=lo1 then⟨b,o+bU q,none⟩else Addr.add ⟨b,o+bU q,none⟩ (lo1*z'))) (Ei-lo1) (n'-lo1),hK,?_,?_⟩
   ·rw[hv];simp only[Instr.sliceAt,bJ,run_underlying hu,rJ,Instr.sureAddr,JcZ,JnZ,g3,run_sizeOf hn]
   ·have hm:=PQ (ad:=some ⟨b,o+bU q,none⟩) (Dw:=n'-lo1) (clip:=decide (Ei=n')) h6 h8 lo1 Ei g1 (by omega) (λ_=>⟨b,o+bU q,rfl,UZ.1,UZ.2,mY hc (bU q) _⟩) (by omega) (λh=>by simp at h;omega)
    have e:(if n'-lo1=0 then some (⟨b,o+bU q,none⟩:Addr)else((some (⟨b,o+bU q,none⟩:Addr)).map (·.add (lo1*z'))))=some (if n'=lo1 then⟨b,o+bU q,none⟩else Addr.add ⟨b,o+bU q,none⟩ (lo1*z')):=by
     by_cases hz:n'=lo1
     ·simp[hz]
     ·rw[if_neg (by omega),if_neg hz];rfl
    rw[e]at hm;exact hm
  ·exact hp.elim
 ·exact hp.elim
end Go.Ab
namespace Go.Ab
variable [cM]
variable {P:Program} {nt:Nat} {ds:List Deferred} {s:St} {Γ:Cx} {a:Act} {w:World}
def nQ {x:Sh} {p:PV} (h:fits x p=true):p.isAgg=x.agg:=by
 cases x<;>cases p<;>simp[fits]at h<;>rfl
def sx {x:Sh} {p:PV} (h:fits x p=true):p.width=qi x:=by
 cases x<;>cases p<;>simp only[fits,fJ,aJ,decide_eq_true_eq]at h<;>(try rfl)
 ·simp only[PV.width,qi];exact h.1
 ·simp only[PV.width,qi];rw[h.1.1,h.1.2.1]
theorem rE {t:TypeId} {p:PV} {cs c1 rest pre:UE} {o:Nat} (hr:aC Γ [p] c1) (hc:cs=pre++(c1++rest)) (ho:pre.length=o) (hg:lD P t=some p.isAgg) (hn:eK P t=some p.width):
  ∃v,(part t cs.toArray o).run P w= .ok v w∧aN Γ p v:=by
 have hl:=hr.gn;subst hc;cases ha:p.isAgg with
 |
  true=>
  refine⟨.agg c1.toArray,?_,aN.tS hr ha⟩
  rw[ha]at hg
  simp only[part,bJ,u0 hg,rJ,if_true,run_sizeOf hn,JcZ]
  congr 2
  apply Array.ext'
  simp[←hl,←ho]
 |
  false=>
  have h1:p.width=1:=by cases p<;>simp[PV.isAgg]at ha<;>rfl
  rw[h1]at hl
  obtain⟨v,rfl⟩:=JoJ.1 hl
  refine⟨v,?_,aN.Fy hr ha⟩
  rw[ha]at hg
  simp only[part,bJ,u0 hg,rJ,fJ,if_false]
  have:(pre++([v]++rest)).toArray[o]? =some v:=by
   simp[←ho]
  rw[this];rfl
def EqAt (P:Program) (Γ:Cx) (d:Nat) (t:TypeId) (x:Sh):Prop:=
 ∀(w:World) (p q:PV) (v u:Value),fits x p=true->fits x q=true->aN Γ p v->aN Γ q u->(Op.equalIn d t v u).run P w= .ok (PV.beq p q) w
theorem Ep {d:Nat} {xs ys:UE}:∀(fs:List Field) (l:List Sh) (ps qs:WG) (pre1 pre2 c1 c2:UE) (o:Nat) (w:World),
  xs=pre1++c1->ys=pre2++c2->pre1.length=o->pre2.length=o->aC Γ ps c1->aC Γ qs c2->iL l ps=true->iL l qs=true->
  fs.all (λf=>f.name != "_")=true->fs.map (·.offset)=Fx o l->fs.map (λf=>eK P f.type)=l.map (λx=>some (qi x))->
  fs.map (λf=>lD P f.type)=l.map (λx=>some x.agg)->(∀(i:Nat) f x,fs[i]? =some f->l[i]? =some x->EqAt P Γ d f.type x)->
  (Op.eqFields d xs.toArray ys.toArray fs).run P w= .ok (PV.oe ps qs) w
 |
  [],l,ps,qs,pre1,pre2,c1,c2,o,w,hx,hy,YT,ho2,h1,h2,f1,f2,hn,Jj,fP,hag,cU=>by
  cases l with
  |nil=>cases ps<;>cases qs<;>simp[iL]at f1 f2;simp[Op.eqFields,PV.oe]
  |cons=>simp at fP
 |
  f::fs,l,ps,qs,pre1,pre2,c1,c2,o,w,hx,hy,YT,ho2,h1,h2,f1,f2,hn,Jj,fP,hag,cU=>by
  cases l with
  |nil=>simp at fP
  |
   cons x l=>
   cases ps with
   |nil=>simp[iL]at f1
   |
    cons p ps=>
    cases qs with
    |nil=>simp[iL]at f2
    |
     cons q qs=>
     simp only[iL,aJ]at f1 f2
     simp only[JcQ,List.cons.injEq,Fx]at Jj fP hag
     simp only[JgX,aJ]at hn
     obtain⟨a1,b1,rfl,r1,r2⟩:=h1.pv
     obtain⟨a2,b2,rfl,r3,r4⟩:=h2.pv
     have wp:=sx f1.1
     have wq:=sx f2.1
     have ap:=nQ f1.1
     have aq:=nQ f2.1
     have ar0:lD P f.type=some x.agg:=hag.1
     obtain⟨v,hv,hv'⟩:=rE (P:=P) (w:=w) (t:=f.type) r1 hx (YT.trans Jj.1.symm) (by rw[ap];exact ar0) (by rw[wp];exact fP.1)
     obtain⟨u,hu,hu'⟩:=rE (P:=P) (w:=w) (t:=f.type) r3 hy (ho2.trans Jj.1.symm) (by rw[aq];exact ar0) (by rw[wq];exact fP.1)
     have he:=cU 0 f x rfl rfl w p q v u f1.1 f2.1 hv' hu'
     have ih:=Ep (xs:=xs) (ys:=ys) fs l ps qs (pre1++a1) (pre2++a2) b1 b2 (o+qi x) w (by rw[hx];simp) (by rw[hy];simp) (by simp[YT,r1.gn,wp]) (by simp[ho2,r3.gn,wq]) r2 r4 f1.2 f2.2 hn.2 Jj.2 fP.2 hag.2
      (λi g y hg hy=>cU (i+1) g y (by simpa using hg) (by simpa using hy))
     have bY:f.name≠ "_" :=by simpa using hn.1
     simp only[Op.eqFields,bY,ne_eq,not_false_eq_true,if_true,bJ,hv,hu,he,rJ,PV.oe]
     by_cases hb:PV.beq p q=true
     ·simpa[hb]using ih
     ·simp[hb]
theorem PR {d len n:Nat} {t:TypeId} {e:Sh} {xs ys:UE} (hn:n=qi e) (hg:lD P t=some e.agg) (hz:eK P t=some n) (heq:EqAt P Γ d t e):
  ∀
   (ps qs:WG) (pre1 pre2 c1 c2:UE) (i:Nat) (w:World),xs=pre1++c1->ys=pre2++c2->pre1.length=i*n->pre2.length=i*n->aC Γ ps c1->aC Γ qs c2->kR e ps=true->kR e qs=true->
   ps.length=len->qs.length=len->
   (forIn (m:=Sem) (List.range' i len 1) ((none,()):Option Bool×Unit) λi __s=>do
      let __do_lift←part t xs.toArray (i*n)
      let __do_lift_1←part t ys.toArray (i*n)
      let __do_lift←Op.equalIn d t __do_lift __do_lift_1
      if(!__do_lift)=true then pure (ForInStep.done (some false,()))else pure (ForInStep.yield (none,()))).run P w= .ok (if PV.oe ps qs then none else some false,()) w:=by
 induction len with
 |
  zero=>
  intro ps qs pre1 pre2 c1 c2 i w _ _ _ _ _ _ _ _ l1 l2
  have e1:=JdJ l1
  have e2:=JdJ l2
  subst e1 e2
  simp[PV.oe]
 |
  succ len ih=>
  intro ps qs pre1 pre2 c1 c2 i w hx hy YT ho2 h1 h2 f1 f2 l1 l2
  cases ps with
  |nil=>simp at l1
  |
   cons p ps=>
   cases qs with
   |nil=>simp at l2
   |
    cons q qs=>
    simp only[kR,aJ]at f1 f2
    obtain⟨a1,b1,rfl,r1,r2⟩:=h1.pv
    obtain⟨a2,b2,rfl,r3,r4⟩:=h2.pv
    have wp:=sx f1.1
    have wq:=sx f2.1
    have ap:=nQ f1.1
    have aq:=nQ f2.1
    obtain⟨v,hv,hv'⟩:=rE (P:=P) (w:=w) (t:=t) r1 hx YT (by rw[ap];exact hg) (by rw[wp,←hn];exact hz)
    obtain⟨u,hu,hu'⟩:=rE (P:=P) (w:=w) (t:=t) r3 hy ho2 (by rw[aq];exact hg) (by rw[wq,←hn];exact hz)
    have he:=heq w p q v u f1.1 f2.1 hv' hu'
    have ih':=ih ps qs (pre1++a1) (pre2++a2) b1 b2 (i+1) w (by rw[hx];simp) (by rw[hy];simp) (by simp[YT,r1.gn,wp,JgV];omega) (by simp[ho2,r3.gn,wq,JgV];omega) r2 r4 f1.2 f2.2 (by simpa using l1) (by simpa using l2)
    simp only[List.range'_succ,List.forIn_cons,bJ,hv,hu,he,rJ,PV.oe]
    by_cases hb:PV.beq p q=true
    ·simpa[hb]using ih'
    ·simp[hb]
theorem PT:∀(n:Nat) {t:TypeId} {x:Sh} (d:Nat),n≤d->BV P n t=some x->EqAt P Γ d t x:=by
 intro n;induction n with
 |zero=>intro t x d _ h;simp[BV]at h
 |
  succ n ih=>
  intro t x d hd h w p q v u fp fq hp hq
  obtain⟨d,rfl⟩:∃d',d=d'+1:=⟨d-1,by omega⟩
  simp only[BV]at h
  split at h<;>(try(simp only[sJ,reduceCtorEq]at h;try subst h))
  ·rename_i hu
   cases p<;>simp[fits]at fp
   cases q<;>simp[fits]at fq
   rw[hp.bl,hq.bl,run_equalIn_bool' w d t _ _ hu];rfl
  ·rename_i k hu
   cases p<;>simp[fits]at fp
   cases q<;>simp[fits]at fq
   subst fp fq
   rw[hp.int,hq.int,run_equalIn_int w d t _ _ _ _ hu];rfl
  ·rename_i hu
   cases p<;>simp[fits]at fp
   cases q<;>simp[fits]at fq
   obtain⟨s1,rfl,rfl⟩:=hp.str
   obtain⟨s2,rfl,rfl⟩:=hq.str
   rw[run_equalIn_string w d t _ _ hu,toList_data,toList_data];rfl
  ·rename_i fs hu
   split at h
   ·rename_i l hl
    split at h
    ·rename_i Dx
     obtain⟨c1,c2,c3,c4,c5⟩:=Dx
     simp only[sJ]at h
     subst h
     cases p<;>simp only[fits,fJ,aJ,decide_eq_true_eq]at fp
     cases q<;>simp only[fits,fJ,aJ,decide_eq_true_eq]at fq
     rename_i w1 m1 w2 m2
     obtain⟨cs,rfl,hc⟩:=hp.cells rfl
     obtain⟨ds,rfl,Jk⟩:=hq.cells rfl
     have hf:P.fieldsOf t=fs:=by simp[Program.fieldsOf,hu]
     rw[run_equalIn_struct w d t _ _ (by rw[hf];exact hu) c1,hf]
     rw[Ep (xs:=cs) (ys:=ds) fs.toList l m1 m2 [] [] cs ds 0 w rfl rfl rfl rfl hc.wg.1 Jk.wg.1 fp.2 fq.2 c2 c3 c4 c5]
     ·rfl
     ·intro i f y yv hyi
      refine ih d (by omega) ?_
      have:=allM_get hl yv
      rw[hyi]at this
      exact this
    ·exact absurd h (by simp)
   ·exact absurd h (by simp)
  ·rename_i k e hu
   split at h
   ·rename_i x' hx'
    split at h
    ·rename_i Dx
     simp only[sJ]at h
     subst h
     cases p<;>simp only[fits,fJ,aJ,decide_eq_true_eq]at fp
     cases q<;>simp only[fits,fJ,aJ,decide_eq_true_eq]at fq
     rename_i z1 n1 m1 z2 n2 m2
     obtain⟨cs,rfl,hc⟩:=hp.cells rfl
     obtain⟨ds,rfl,Jk⟩:=hq.cells rfl
     have hg:lD P e=some x'.agg:=Dx.2
     have:=PR (P:=P) (Γ:=Γ) (d:=d) (len:=k) (n:=qi x') (t:=e) (e:=x') (xs:=cs) (ys:=ds) rfl hg Dx.1 (ih d (by omega) hx') m1 m2 [] [] cs ds 0 w rfl rfl (by simp) (by simp) hc.px.1 Jk.px.1 fp.2 fq.2 fp.1.2.2 fq.1.2.2
     simp only[Op.equalIn,bJ,run_underlying hu,rJ,run_sizeOf Dx.1]
     rw[Std.Legacy.Range.forIn_eq_forIn_range']
     simp only[Std.Legacy.Range.size,Nat.sub_zero,Nat.add_sub_cancel,Nat.div_one]
     rw[this]
     simp only[PV.beq]
     cases PV.oe m1 m2<;>rfl
    ·exact absurd h (by simp)
   ·exact absurd h (by simp)
where
 allM_get {α β:Type} {f:α->Option β}:∀ {l:List α} {m:List β},allM f l=some m->∀ {i:Nat} {x:α},l[i]? =some x->f x=m[i]?
  |[],m,h,i,x,hi=>by simp at hi
  |
   y::l,m,h,i,x,hi=>by
   simp only[allM]at h
   split at h
   ·rename_i z k hz hk
    simp only[sJ]at h
    subst h
    cases i with
    |zero=>simp at hi;subst hi;simpa using hz
    |succ i=>simp at hi;simpa using allM_get hk hi
   ·exact absurd h (by simp)
end Go.Ab
namespace Go.Ab
variable [cM]
variable {P:Program} {nt:Nat} {ds:List Deferred} {s:St} {Γ:Cx} {a:Act} {w:World}
theorem Er:∀(vs:UE) (k off:Nat) (cells:Array Value),off+k+vs.length≤cells.size->
  ((vs.zipIdx k).foldl (λ(cs:Array Value) (x:Value×Nat)=>cs.setIfInBounds (off+x.2) x.1) cells).toList=bC cells.toList (off+k) vs
 |[],k,off,cells,_=>by simp[bC]
 |
  v::vs,k,off,cells,h=>by
  simp only[List.zipIdx_cons,List.foldl_cons,JbZ]at h⊢
  rw[Er vs (k+1) off _ (by simp;omega)]
  rw[Array.toList_setIfInBounds]
  have dx:off+k<cells.toList.length:=by simp;omega
  obtain⟨A,c,B,hA,mN⟩:∃A c B,A.length=off+k∧cells.toList=A++c::B:=
   ⟨cells.toList.take (off+k),cells.toList[off+k],cells.toList.drop (off+k+1),by rw[lJ];omega,by rw[JoQ,JbV]⟩
  rw[mN,←hA,JhV (h:=JaQ _)]
  rw[show off+(k+1)=A.length+1 by omega]
  simp only[Nat.sub_self,JjW,bC,JbZ]
  have e1:(A++v::B).take (A.length+1)=A++[v]:=by rw[List.take_append,tJ (by omega)];simp
  have e2:(A++v::B).drop (A.length+1+vs.length)=B.drop vs.length:=by
   rw[List.drop_append,List.drop_eq_nil_of_le (by omega),show A.length+1+vs.length-A.length=vs.length+1 by omega];simp
  have e3:(A++c::B).drop (A.length+(vs.length+1))=B.drop vs.length:=by
   rw[←JlX];simp
  rw[e1,e2,e3]
  simp
def AT {l:WG} {i j:Nat} {q p:PV} (hq:l[i]? =some q) (hw:p.width=q.width):au ((l.set i p).take j)=au (l.take j):=by
 by_cases Nh:i<j
 ·have:(l.set i p).take j=(l.take j).set i p:=by rw[List.take_set]
  rw[this];exact BQ (by rw[List.getElem?_take_of_lt Nh];exact hq) hw
 ·rw[List.take_set_of_le (by omega)]
theorem xn:∀(ps:List (Nat×PV)) (vs:List (Nat×Value)) (place:Nat->Option (Nat×Nat)) (l l':WG) (cells:Array Value),
  aC Γ l cells.toList->cD l ps=some l'->ps.length=vs.length->(∀(i:Nat) j p k v,ps[i]? =some (j,p)->vs[i]? =some (k,v)->j=k∧aN Γ p v)->
  (∀i q,l[i]? =some q->place i=some (au (l.take i),q.width))->∃T0,Instr.fill place cells vs=some T0∧aC Γ l' T0.toList
 |
  [],vs,place,l,l',cells,h,hs,hl,hv,hp=>by
  have:vs=[]:=by simpa using hl.symm
  subst this
  simp[cD]at hs;subst hs
  exact⟨cells,rfl,h⟩
 |
  (i,p)::ps,vs,place,l,l',cells,h,hs,hl,hv,hp=>by
  cases vs with
  |nil=>simp at hl
  |
   cons x vs=>
   obtain⟨k,v⟩:=x
   obtain⟨rfl,hr⟩:=hv 0 i p k v rfl rfl
   simp only[cD]at hs
   split at hs
   ·rename_i q hq
    split at hs
    ·rename_i hw
     have hc:=hr.BW hw.2
     have vL:=hc.gn
     have fP:v.cells.size=q.width:=by rw[←hw.1,←vL];simp
     have Ni:=yD hq
     have hle:=h.length
     have Al:au (l.take i)+q.width≤cells.size:=by rw[←JbX,hle];exact Ni
     have ky:=h.set hq hc hw.1
     have Dy:(v.cells.zipIdx.foldl (λcs (c,j)=>cs.setIfInBounds (au (l.take i)+j) c) cells).toList=bC cells.toList (au (l.take i)) v.cells.toList:=by
      have:=Er v.cells.toList 0 (au (l.take i)) cells (by simp;omega);rw[←Array.foldl_toList,Array.toList_zipIdx];simpa using this
     obtain⟨c',h1,h2⟩:=xn ps vs place (l.set i p) l' (v.cells.zipIdx.foldl (λcs (c,j)=>cs.setIfInBounds (au (l.take i)+j) c) cells) (by rw[Dy];exact ky) hs (by simpa using hl)
      (λj n p' k v' a b=>hv (j+1) n p' k v' (by simpa using a) (by simpa using b)) (λj q' hq'=>by
       rw[AT hq hw.1];rw[List.getElem?_set]at hq';split at hq'
       ·rename_i Nh;subst Nh;split at hq'
        ·simp at hq';subst hq';rw[hw.1];exact hp i q hq
        ·simp at hq'
       ·exact hp j q' hq')
     refine⟨c',?_,h2⟩
     simp only[Instr.fill,hp i q hq]
     rw[if_neg (by simp[fP];omega)]
     exact h1
    ·exact absurd hs (by simp)
   ·exact absurd hs (by simp)
theorem Hl:∀(l:WG) (o:Nat) (fs:List (Nat×Nat)),fs=Nu o l->∀(i:Nat) q,l[i]? =some q->fs[i]? =some (o+au (l.take i),q.width)
 |[],o,fs,h,i,q,hq=>by simp at hq
 |
  p::l,o,fs,h,i,q,hq=>by
  subst h
  cases i with
  |zero=>simp at hq;subst hq;simp[Nu,au]
  |
   succ i=>
   simp only[List.getElem?_cons_succ]at hq
   have:=Hl l (o+p.width) _ rfl i q hq
   simpa[Nu,au,Nat.add_assoc]using this
mutual
theorem LP:∀(p:PV) (vs rest:UE),AR p vs=some rest->∃cs,vs=cs++rest∧aC Γ [p] cs
 |
  .bl x,vs,rest,h=>by
  cases vs with
  |nil=>simp[AR]at h
  |
   cons v r=>
   cases v<;>simp only[AR,reduceCtorEq]at h
   split at h<;>simp at h
   subst_vars;exact⟨[_],rfl,.bl _ .nil⟩
 |
  .int k n,vs,rest,h=>by
  cases vs with
  |nil=>simp[AR]at h
  |
   cons v r=>
   cases v<;>simp only[AR,reduceCtorEq]at h
   split at h
   ·rename_i hc;obtain⟨rfl,rfl⟩:=hc;simp at h;subst h;exact⟨[_],rfl,.int _ _ .nil⟩
   ·simp at h
 |
  .str l,vs,rest,h=>by
  cases vs with
  |nil=>simp[AR]at h
  |
   cons v r=>
   cases v<;>simp only[AR,reduceCtorEq]at h
   split at h
   ·rename_i hc;simp at h;subst h;exact⟨[_],rfl,.str _ _ hc .nil⟩
   ·simp at h
 |
  .np,vs,rest,h=>by
  unfold AR at h
  split at h<;>simp_all
  subst_vars;exact⟨[_],rfl,.np .nil⟩
 |
  .sl sz l c,vs,rest,h=>by
  cases l with
  |cons=>simp[AR]at h
  |
   nil=>
   cases vs with
   |nil=>simp[AR]at h
   |
    cons v r=>
    unfold AR at h
    split at h
    case h_5=>
     simp only[sJ]at h
     subst h
     rename_i heq
     simp only[List.cons.injEq]at heq
     obtain⟨rfl,rfl⟩:=heq
     exact⟨[_],rfl,.sl sz [] c none 0 .nil (by simp) (JaQ _) (λ_=>rfl) (λh=>absurd rfl h) .nil⟩
    all_goals simp_all
 |
  .nf,vs,rest,h=>by
  unfold AR at h
  split at h<;>simp_all
  subst_vars;exact⟨[_],rfl,.nf .nil⟩
 |
  .ni,vs,rest,h=>by
  unfold AR at h
  split at h<;>simp_all
  subst_vars;exact⟨[_],rfl,.ni .nil⟩
 |
  .st w l,vs,rest,h=>by
  simp only[AR]at h
  split at h
  ·rename_i r hr
   split at h
   ·rename_i hw
    simp at h;subst h
    obtain⟨cs,rfl,hc⟩:=BZ l vs r hr
    exact⟨cs,rfl,hc.st1 (by simp at hw;omega)⟩
   ·simp at h
  ·simp at h
 |
  .ar sz n l,vs,rest,h=>by
  simp only[AR]at h
  split at h
  ·rename_i r hr
   split at h
   ·rename_i hw
    simp at h;subst h
    obtain⟨cs,rfl,hc⟩:=BZ l vs r hr
    exact⟨cs,rfl,hc.Zo hw.1 (by simpa using hw.2)⟩
   ·simp at h
  ·simp at h
 | .un,vs,rest,h=>by simp[AR]at h
 | .tup _,vs,rest,h=>by simp[AR]at h
 | .rs ..,vs,rest,h=>by simp[AR]at h
 | .pt ..,vs,rest,h=>by simp[AR]at h
 | .fp ..,vs,rest,h=>by simp[AR]at h
 | .fn ..,vs,rest,h=>by simp[AR]at h
 | .gd ..,vs,rest,h=>by simp[AR]at h
 | .ifc ..,vs,rest,h=>by simp[AR]at h
theorem BZ:∀(l:WG) (vs rest:UE),Ns l vs=some rest->∃cs,vs=cs++rest∧aC Γ l cs
 |[],vs,rest,h=>by simp[Ns]at h;subst h;exact⟨[],rfl,.nil⟩
 |
  p::l,vs,rest,h=>by
  simp only[Ns]at h
  split at h
  ·rename_i ws hws
   obtain⟨c1,rfl,h1⟩:=LP p vs ws hws
   obtain⟨c2,rfl,h2⟩:=BZ l ws rest h
   exact⟨c1++c2,by simp,h1.cons h2⟩
  ·simp at h
end
def lp {t:TypeId} {z:PV} (h:zeroOf P t=some z):∃v,(∀w,(zeroValue t).run P w= .ok v w)∧aC Γ [z] v.cells.toList∧eK P t=some z.width∧aN Γ z v∧v.cells.size=z.width:=by
 replace h:=Nt h;unfold kq at h;split at h
 ·rename_i z' i hz hi;split at h
  ·rename_i v hv;split at h
   ·rename_i hc;split at h
    ·rename_i hw;obtain⟨cs,e,hr⟩:=LP (Γ:=Γ) z' _ _ hc;rw[JdW]at e;rw[←e]at hr
     have hz':z'=z∧aN Γ z' v:=by
      cases ha:z'.isAgg<;>rw[ha]at h
      ·cases v<;>simp only[sJ,reduceCtorEq]at h<;>exact⟨h,aN.Fy (by simpa[Value.cells]using hr) ha⟩
      ·cases v<;>simp only[sJ,reduceCtorEq]at h;exact⟨h,aN.tS (by simpa[Value.cells]using hr) ha⟩
     obtain⟨rfl,Dz⟩:=hz';exact⟨v,λw=>by simp[zeroValue,typeInfo,hi,hv],hr,by simp[eK,hi,hw],Dz,by rw[←hr.gn];simp⟩
    ·simp at h
   ·simp at h
  ·simp at h
 ·simp at h
def yF {t:TypeId} {parts:Array (Nat×Operand)} {k:AK} {G:Bool} {K:W7} (hk:kr P false (.build t parts)=some k) (hs:fW nt ds s Γ a) (hG:G=true) (he:ev G s k K):
  gp P Γ w (Instr.build t (parts.map λp=>(p.1,a.eval p.2))) K:=by
 simp only[kr]at hk;split at hk
 ·rename_i sw l ps fs hz xh hu;split at hk
  ·rename_i hc;simp only[sJ]at hk;subst hk;simp only[ev]at he;obtain⟨qs,hq,hlen,cU⟩:=Bg hs hG xh he;obtain⟨v,hv,hr,_,_,_⟩:=lp (Γ:=Γ) hz;split at hq
   ·rename_i l' AP
    have mV:∀i q,l[i]? =some q->((fs.map λf=>(f.offset,P.cellsOf f.type))[i]? :Option (Nat×Nat))=some (au (l.take i),q.width):=by
     intro i q hi;have:=Hl l 0 _ hc.1 i q hi;rw[JhX]at this;rw[←Array.getElem?_toList,JlZ];exact this
    obtain⟨cells,h1,h2⟩:=xn (Γ:=Γ) qs (parts.toList.map λp=>(p.1,a.eval p.2)) (λi=>(fs.map λf=>(f.offset,P.cellsOf f.type))[i]?) l l' v.cells hr.wg.1 AP (by simp[hlen])
     (λi j p k u h3 h4=>by
      rw[List.getElem?_map,mJ]at h4;obtain⟨⟨k',x⟩,h5,h6⟩:=h4;simp only[Prod.mk.injEq]at h6;obtain⟨rfl,rfl⟩:=h6;exact cU i j p k' x h3 h5) mV
    have hlc:cells.toList.length=sw:=by
     have e1:=h2.length;have e2:=hr.wg;rw[e1,setParts_widths AP,←e2.1.length,e2.2]
    refine⟨_,.agg cells,hq,?_,⟨cells.toList,by simp,h2.st1 hlc⟩⟩;have afD:(fs.mapM λf=>do Pure.pure (f.offset,←sizeOf f.type):Sem (Array (Nat×Nat))).run P w= .ok (fs.map λf=>(f.offset,P.cellsOf f.type)) w:=run_mapM fs hc.2;simp only[Instr.build,bJ,hv,rJ,run_underlying hu,afD];rw[JlZ,h1];rfl
   ·exact hq.elim
  ·simp at hk
 ·rename_i sz n l ps len e hz xh hu;split at hk
  ·rename_i hc;simp only[sJ]at hk;subst hk;simp only[ev]at he;obtain⟨qs,hq,hlen,cU⟩:=Bg hs hG xh he;obtain⟨v,hv,hr,_,_,_⟩:=lp (Γ:=Γ) hz;split at hq
   ·rename_i l' AP;obtain⟨vJ,od,hr3⟩:=hr.px
    obtain⟨cells,h1,h2⟩:=xn (Γ:=Γ) qs (parts.toList.map λp=>(p.1,a.eval p.2)) (λi=>some (i*sz,sz)) l l' v.cells vJ AP (by simp[hlen])
     (λi j p k u h3 h4=>by
      rw[List.getElem?_map,mJ]at h4;obtain⟨⟨k',x⟩,h5,h6⟩:=h4;simp only[Prod.mk.injEq]at h6;obtain⟨rfl,rfl⟩:=h6;exact cU i j p k' x h3 h5)
     (λi q hi=>by
      have hil:=(iJ.1 hi).1;rw[fR hr3 (by omega),hr3 q (JcX hi)])
    refine⟨_,.agg cells,hq,?_,⟨cells.toList,by simp,h2.Zo (by rw[setParts_length AP,od]) (setParts_width AP hr3)⟩⟩;simp only[Instr.build,bJ,hv,rJ,run_underlying hu,run_sizeOf hc];rw[JlZ,h1];rfl
   ·exact hq.elim
  ·simp at hk
 ·simp at hk
where
 setParts_length:∀ {ps:List (Nat×PV)} {l l':WG},cD l ps=some l'->l'.length=l.length
  |[],l,l',h=>by simp[cD]at h;rw[h]
  |
   (i,p)::ps,l,l',h=>by
   simp only[cD]at h
   split at h
   ·split at h
    ·rw[setParts_length h];simp
    ·simp at h
   ·simp at h
 setParts_widths:∀ {ps:List (Nat×PV)} {l l':WG},cD l ps=some l'->au l'=au l
  |[],l,l',h=>by simp[cD]at h;rw[h]
  |
   (i,p)::ps,l,l',h=>by
   simp only[cD]at h
   split at h
   ·rename_i q hq
    split at h
    ·rename_i hw
     rw[setParts_widths h,BQ hq hw.1]
    ·simp at h
   ·simp at h
 setParts_width {sz:Nat}:∀ {ps:List (Nat×PV)} {l l':WG},cD l ps=some l'->(∀x∈l,x.width=sz)->∀x∈l',x.width=sz
  |[],l,l',h,hw=>by simp[cD]at h;rw[←h];exact hw
  |
   (i,p)::ps,l,l',h,hw=>by
   simp only[cD]at h
   split at h
   ·rename_i q hq
    split at h
    ·rename_i hw'
     exact setParts_width h (qM hw (by rw[hw'.1];exact hw q (JcX hq)))
    ·simp at h
   ·simp at h
 run_mapM (fs:Array Field) (h:fs.toList.all (λf=>(P.info? f.type).isSome)=true):(fs.mapM λf=>do Pure.pure (f.offset,←sizeOf f.type):Sem (Array (Nat×Nat))).run P w= .ok (fs.map λf=>(f.offset,P.cellsOf f.type)) w:=by
  have key:∀(l:List Field),l.all (λf=>(P.info? f.type).isSome)=true->(l.mapM λf=>do Pure.pure (f.offset,←sizeOf f.type):Sem (List (Nat×Nat))).run P w= .ok (l.map λf=>(f.offset,P.cellsOf f.type)) w:=by
   intro l;induction l with
   |nil=>intro _;rfl
   |
    cons f l ih=>
    intro hl
    simp only[JgX,aJ]at hl
    obtain⟨i,hi⟩:=JaZ.1 hl.1
    have fP:eK P f.type=some i.size:=by simp[eK,hi]
    simp only[List.mapM_cons,bJ,run_sizeOf fP,rJ,JcZ,ih hl.2,JcQ]
    simp[Program.cellsOf,hi]
  rw[Array.mapM_eq_mapM_toList];simp only[Sem.run_map,key fs.toList h,rJ];congr 1;apply Array.ext';simp
end Go.Ab
namespace Go.Ab
variable [cM]
variable {P:Program} {nt:Nat} {ds:List Deferred} {s:St} {Γ:Cx} {a:Act} {w:World}
def Vg {args:ZI} {tys:List TypeId} {k:AK} {ty:TypeId} {G:Bool} {K:W7} (hk:b8 P .cap args tys=some k) (hs:fW nt ds s Γ a) (hG:G=true) (he:ev G s k K):
  gp P Γ w (Builtin.cap_ tys.toArray ty (args.map a.eval).toArray) K:=by
 unfold b8 at hk;split at hk<;>(try contradiction)
 rename_i x t _;split at hk<;>simp only[sJ,reduceCtorEq]at hk;rename_i e y hu hx;subst hk;simp only[ev]at he;obtain⟨p,hp,hr⟩:=bR hx hs hG he;split at hp
 ·rename_i k p off len aD sz n;split at hp
  ·rename_i blk hb;rw[←hs.bx]at hb;obtain⟨ad,bg,hv,cL⟩:=hr.rs hb hp.1
   have Jq:bg=n:=by
    unfold iD at cL;split at cL
    ·exact cL.2.2
    ·exact cL.2.2.1
   subst Jq;exact⟨_,goInt bg,hp.2,by simp[Builtin.cap_,run_underlying hu,hv],cH⟩
  ·exact hp.elim
 ·exact hp.elim
def Vh {args:ZI} {tys:List TypeId} {k:AK} {ty:TypeId} {G:Bool} {K:W7} (hk:b8 P .len args tys=some k) (hs:fW nt ds s Γ a) (hG:G=true) (he:ev G s k K):
  gp P Γ w (Builtin.len_ tys.toArray ty (args.map a.eval).toArray) K:=by
 unfold b8 at hk;split at hk<;>(try contradiction)
 ·rename_i x t _;split at hk
  ·rename_i y hu hx;simp only[sJ]at hk;subst hk;simp only[ev]at he;obtain⟨p,hp,hr⟩:=bR hx hs hG he;split at hp
   ·rename_i bs;obtain⟨str,hv,hd⟩:=hr.str;refine⟨_,goInt bs.length,hp,?_,cH⟩;have:bs.length=str.size:=by rw[←hd];exact JbX
    simp[Builtin.len_,run_underlying hu,hv,this]
   ·exact hp.elim
  ·rename_i e y hu hx;simp only[sJ]at hk;subst hk;simp only[ev]at he;obtain⟨p,hp,hr⟩:=bR hx hs hG he;split at hp
   ·rename_i sz l c;obtain⟨ad,bg,cs,hv,_⟩:=hr.sl;exact⟨_,goInt l.length,hp,by simp[Builtin.len_,run_underlying hu,hv],cH⟩
   ·rename_i k p off len aD sz c;split at hp
    ·rename_i blk hb;rw[←hs.bx]at hb;obtain⟨ad,bg,hv,_⟩:=hr.rs hb hp.1;exact⟨_,goInt len,hp.2,by simp[Builtin.len_,run_underlying hu,hv],cH⟩
    ·exact hp.elim
   ·exact hp.elim
  ·rename_i n e y hu hx;simp only[sJ]at hk;subst hk;simp only[ev]at he;exact⟨_,goInt n,he,by simp[Builtin.len_,run_underlying hu],cH⟩
  ·rename_i arr y hu hx;split at hk
   ·rename_i n e hu2;simp only[sJ]at hk;subst hk;simp only[ev]at he;exact⟨_,goInt n,he,by simp[Builtin.len_,run_underlying hu,run_underlying hu2],cH⟩
   ·simp at hk
  ·simp at hk
def PW {mx:Bool} {args:ZI} {tys:List TypeId} {l:ZP} {ty:TypeId} {G:Bool} {K:W7} (hx:sv args=some l) (hs:fW nt ds s Γ a) (hG:G=true) (he:ev G s (.mm mx l) K):
  gp P Γ w (if mx then Builtin.max_ tys.toArray ty (args.map a.eval).toArray else Builtin.min_ tys.toArray ty (args.map a.eval).toArray) K:=by
 simp only[ev]at he;obtain⟨ps,hp,hlen,cU⟩:=xk hs hG hx he
 have key:∀(ps:WG) (vs:UE) (k:IntKind) (m:Int) (K:Int->Prop),lX mx m ps K->ps.length=vs.length->(∀(i:Nat) p v,ps[i]? =some p->vs[i]? =some v->aN Γ p v)->
   ∃n,K n∧(vs.foldlM (if mx then Builtin.max2 else Builtin.min2) (.int k m)).run P w= .ok (.int k n) w:=by
  intro ps
  induction ps with
  |
   nil=>
   intro vs k m K h hl _
   have:vs=[]:=by simpa using hl.symm
   subst this
   exact⟨m,h,rfl⟩
  |
   cons p ps ih=>
   intro vs k m K h hl hv
   cases vs with
   |nil=>simp at hl
   |
    cons v vs=>
    simp only[lX]at h
    obtain⟨k2,n,mQ,h⟩:=eN h (hv 0 p v rfl rfl)
    obtain⟨r,h1,h2⟩:=ih vs k _ K h (by simpa using hl) (λi p v a b=>hv (i+1) p v (by simpa using a) (by simpa using b))
    refine⟨r,h1,?_⟩
    subst mQ
    simp only[List.foldlM_cons,bJ]
    cases mx
    ·have:(Builtin.min2 (.int k m) (.int k2 n)).run P w= .ok (.int k (min m n)) w:=by
      simp only[Builtin.min2,JcZ];congr 2;split<;>omega
     simp only[fJ,if_false]at h2⊢;rw[this];exact h2
    ·have:(Builtin.max2 (.int k m) (.int k2 n)).run P w= .ok (.int k (max m n)) w:=by
      simp only[Builtin.max2,JcZ];congr 2;split<;>omega
     simp only[if_true]at h2⊢;rw[this];exact h2
 split at hp
 ·rename_i k m ps;cases args with
  |nil=>simp at hlen
  |
   cons x args=>
   have T1:=(cU 0 _ x rfl rfl).int
   obtain⟨n,hn,ia⟩:=key ps (args.map a.eval) k m _ hp (by simpa using hlen) (λi p v h1 h2=>by
    rw[List.getElem?_map,mJ]at h2;obtain⟨o,h2,rfl⟩:=h2;exact cU (i+1) p o (by simpa using h1) (by simpa using h2))
   refine⟨_,_,hn,?_,cH⟩
   cases mx
   ·simpa[Builtin.min_,T1]using ia
   ·simpa[Builtin.max_,T1]using ia
 ·exact hp.elim
def PX {p:PV} {v:Value} (h:aN Γ p v) (ha:p.isAgg=false) (hc:p.aV=true):aC Γ [p] [v]:=by
 cases p<;>simp[PV.isAgg,PV.aV]at ha hc<;>exact h
theorem Hm {ps:WG} {vs:UE} (hl:ps.length=vs.length) (h:∀(i:Nat) p v,ps[i]? =some p->vs[i]? =some v->aN Γ p v)
  (ha:ps.all (λp=> !p.isAgg&&p.aV)=true):aC Γ ps vs:=by
 induction ps generalizing vs with
 |nil=>
      have:vs=[]:=by simpa using hl.symm
      subst this;exact .nil
 |
  cons p ps ih=>
  cases vs with
  |nil=>simp at hl
  |
   cons v vs=>
   simp only[JgX,aJ,JfW]at ha
   exact(PX (h 0 p v rfl rfl) ha.1.1 ha.1.2).cons (ih (by simpa using hl) (λi p v h1 h2=>h (i+1) p v (by simpa using h1) (by simpa using h2)) ha.2)
def sy {t:TypeId} {x y:Value} {b:Bool} (h:(Op.equalIn 10000 t x y).run P w= .ok b w)
  (h1:binOp .eql t x y=(do Pure.pure (.bool (←Op.equal t x y)))) (h2:binOp .neq t x y=(do Pure.pure (.bool (!(←Op.equal t x y))))):
  ∀o,(o= .eql∨o= .neq)->(binOp o t x y).run P w= .ok (.bool (if o= .eql then b else !b)) w:=by
 intro o ho;have h':(Op.equal t x y).run P w= .ok b w:=h;rcases ho with rfl|rfl
 ·rw[h1];simp only[bJ,h',rJ];rfl
 ·rw[h2];simp only[bJ,h',rJ];rfl
def Nx {t:TypeId} {x y:Bool} (h:P.underlying t=some .bool):(Op.equalIn 10000 t (.bool x) (.bool y)).run P w= .ok (x==y) w:=run_equalIn_bool' w 9999 t x y h
def FB {d:Nat} {t e:TypeId} (h:P.underlying t=some (.pointer e)):(Op.equalIn (d+1) t (.pointer none) (.pointer none)).run P w= .ok true w:=by
 simp only[Op.equalIn,bJ,run_underlying h,rJ];rfl
def FC {d:Nat} {t e:TypeId} {ad:Addr} (h:P.underlying t=some (.pointer e)):(Op.equalIn (d+1) t (.pointer (some ad)) (.pointer none)).run P w= .ok false w:=by
 simp only[Op.equalIn,bJ,run_underlying h,rJ];rfl
def Ny {d:Nat} {t:TypeId} {a b:Array TypeId} {c:Bool} (h:P.underlying t=some (.func a b c)):(Op.equalIn (d+1) t .nilFunc .nilFunc).run P w= .ok true w:=by
 simp only[Op.equalIn,bJ,run_underlying h,rJ];rfl
def NA {d:Nat} {t:TypeId} {a b:Array TypeId} {c:Bool} {f:Fn} {x y:Array Value} (h:P.underlying t=some (.func a b c)):(Op.equalIn (d+1) t (.func f x y) .nilFunc).run P w= .ok false w:=by
 simp only[Op.equalIn,bJ,run_underlying h,rJ];rfl
def PY {t:TypeId} {a b:Array TypeId} {c:Bool} (h:P.underlying t=some (.func a b c)):(Op.equalIn 10000 t .nilFunc .nilFunc).run P w= .ok true w:=Ny (d:=9999) h
def PZ {t:TypeId} {a b:Array TypeId} {c:Bool} {f:Fn} {x y:Array Value} (h:P.underlying t=some (.func a b c)):(Op.equalIn 10000 t (.func f x y) .nilFunc).run P w= .ok false w:=NA (d:=9999) h
def Hn {t e:TypeId} (h:P.underlying t=some (.pointer e)):(Op.equalIn 10000 t (.pointer none) (.pointer none)).run P w= .ok true w:=FB (d:=9999) h
def Am {t e:TypeId} {ad:Addr} (h:P.underlying t=some (.pointer e)):(Op.equalIn 10000 t (.pointer (some ad)) (.pointer none)).run P w= .ok false w:=FC (d:=9999) h
theorem Ho {n:Nat} {t:TypeId} {sh:Sh} (h:BV P n t=some sh) (hu:(∃fs,P.underlying t=some (.struct fs))∨∃k e,P.underlying t=some (.array k e)):sh.agg=true:=by
 cases n with
 |zero=>simp[BV]at h
 |
  succ n=>
  rcases hu with⟨fs,hu⟩|⟨k,e,hu⟩
  ·simp only[BV,hu]at h
   split at h
   ·split at h
    ·simp only[sJ]at h;subst h;rfl
    ·simp at h
   ·simp at h
  ·simp only[BV,hu]at h
   split at h
   ·split at h
    ·simp only[sJ]at h;subst h;rfl
    ·simp at h
   ·simp at h
def NB {op:BinOp} {t:TypeId} {x y:Operand} {yt:TypeId} {k:AK} {own:Bool} {G:Bool} {K:W7} (hk:kr P own (.binOp op t x y yt)=some k) (hs:fW nt ds s Γ a) (hG:G=true) (he:ev G s k K):
  gp P Γ w (do eqGuard op t x y (a.eval x) (a.eval y);binOp op t (a.eval x) (a.eval y)) K:=by
 simp only[kr]at hk;split at hk
 ·rename_i p q hx hy
  have fin:∀ {et:ET} {K:W7},ev G s (.bin op et p q) K->∃u v,qN s op et u v K∧aN Γ u (a.eval x)∧aN Γ v (a.eval y):=by
   intro et K he;simp only[ev]at he;obtain⟨u,hu,xb⟩:=bR hx hs hG he;obtain⟨v,hv,Dz⟩:=bR hy hs hG hu;exact⟨u,v,hv,xb,Dz⟩
  have plain:∀ {K:W7},ev G s (.bin op .no p q) K->gp P Γ w (do eqGuard op t x y (a.eval x) (a.eval y);binOp op t (a.eval x) (a.eval y)) K:=by
   intro K he;obtain⟨u,v,hb,xb,Dz⟩:=fin he;simp only[qN]at hb;split at hb
   ·rw[xb.int,Dz.int];rw[eqGuard_at_int];exact Vc hb.1 hb.2
   ·obtain⟨b1,yB,G0⟩:=xb.str;obtain⟨b2,mQ,JA⟩:=Dz.str;rw[yB,mQ,eqGuard_at_string];rw[←G0,←JA]at hb;exact Vd hb
   ·exact hb.elim
  have eqrun:∀ {b:Bool} {K:W7},(op= .eql∨op= .neq)->su op b K->
    (∀o,(o= .eql∨o= .neq)->(binOp o t (a.eval x) (a.eval y)).run P w= .ok (.bool (if o= .eql then b else !b)) w)->(eqGuard op t x y (a.eval x) (a.eval y)).run P w= .ok () w->
    gp P Γ w (do eqGuard op t x y (a.eval x) (a.eval y);binOp op t (a.eval x) (a.eval y)) K:=by
   intro b K ho hb ia hg
   rcases ho with rfl|rfl
   ·exact⟨_,_,hb,by simp only[bJ,hg,rJ,ia .eql (.inl rfl)];rfl,jm⟩
   ·exact⟨_,_,hb,by simp only[bJ,hg,rJ,ia .neq (.inr rfl)];rfl,jm⟩
  split at hk
  ·rename_i ho;split at hk
   ·simp only[sJ]at hk;subst hk;exact plain he
   ·simp only[sJ]at hk;subst hk;exact plain he
   ·rename_i hu;simp only[sJ]at hk;subst hk;obtain⟨u,v,hb,xb,Dz⟩:=fin he;simp only[qN]at hb;split at hb
    ·rw[xb.bl,Dz.bl]at eqrun⊢;refine eqrun ho hb (sy (Nx hu) rfl rfl) (by rw[eqGuard_at_bool];rfl)
    ·exact hb.elim
   ·rename_i e hu;simp only[sJ]at hk;subst hk;obtain⟨u,v,hb,xb,Dz⟩:=fin he;simp only[qN]at hb;split at hb
    ·rw[xb.np,Dz.np]at eqrun⊢;refine eqrun ho hb (sy (Hn hu) rfl rfl) (by rw[eqGuard_at_pointer];rfl)
    ·split at hb
     ·rename_i blk hg;rw[←hs.bx]at hg;obtain⟨b,hι,hv⟩:=xb.pt hg hb.1;rw[hv,Dz.np]at eqrun⊢;refine eqrun ho hb.2 (sy (Am hu) rfl rfl) (by rw[eqGuard_at_pointer];rfl)
     ·exact hb.elim
    ·obtain⟨b,o,cs,hv,_⟩:=xb.fp;rw[hv,Dz.np]at eqrun⊢;refine eqrun ho hb (sy (Am hu) rfl rfl) (by rw[eqGuard_at_pointer];rfl)
    ·exact hb.elim
   ·rename_i e1 e2 e3 hu;simp only[sJ]at hk;subst hk;obtain⟨u,v,hb,xb,Dz⟩:=fin he;simp only[qN]at hb;split at hb
    ·rw[xb.nf,Dz.nf]at eqrun⊢;refine eqrun ho hb (sy (PY hu) rfl rfl) (by rw[eqGuard_at_nilFunc];rfl)
    ·obtain⟨fs,cs,hv,_⟩:=xb.fn;rw[hv,Dz.nf]at eqrun⊢;refine eqrun ho hb (sy (PZ hu) rfl rfl) (by rw[eqGuard_at_func];rfl)
    ·exact hb.elim
   ·split at hk
    ·simp only[sJ]at hk;subst hk;simp[ev]at he
    ·simp at hk
   ·rename_i fs hu;split at hk
    ·rename_i Pl;split at hk
     ·rename_i sh Ej;simp only[sJ]at hk;subst hk;obtain⟨u,v,hb,xb,Dz⟩:=fin he;simp only[qN]at hb;have T2:sh.agg=true:=Ho Ej (.inl ⟨_,hu⟩);obtain⟨c1,yB,_⟩:=xb.cells (by rw[nQ hb.1.1];exact T2);obtain⟨c2,mQ,_⟩:=Dz.cells (by rw[nQ hb.1.2];exact T2);have YU:=PT (P:=P) (Γ:=Γ) 20 10000 (by omega) Ej w u v _ _ hb.1.1 hb.1.2 xb Dz;rw[yB,mQ]at eqrun YU⊢;refine eqrun ho hb.2 (λo ho=> ?_) (run_eqGuard_agg w op t x y _ _ Pl);rcases ho with rfl|rfl
      ·rw[run_eql_struct,YU];rfl
      ·rw[run_neq_struct,YU];rfl
     ·simp at hk
    ·simp at hk
   ·rename_i n e hu;split at hk
    ·rename_i Pl;split at hk
     ·rename_i sh Ej;simp only[sJ]at hk;subst hk;obtain⟨u,v,hb,xb,Dz⟩:=fin he;simp only[qN]at hb;have T2:sh.agg=true:=Ho Ej (.inr ⟨_,_,hu⟩);obtain⟨c1,yB,_⟩:=xb.cells (by rw[nQ hb.1.1];exact T2);obtain⟨c2,mQ,_⟩:=Dz.cells (by rw[nQ hb.1.2];exact T2);have YU:=PT (P:=P) (Γ:=Γ) 20 10000 (by omega) Ej w u v _ _ hb.1.1 hb.1.2 xb Dz;rw[yB,mQ]at eqrun YU⊢;refine eqrun ho hb.2 (λo ho=> ?_) (run_eqGuard_agg w op t x y _ _ Pl);rcases ho with rfl|rfl
      ·rw[run_eql_struct,YU];rfl
      ·rw[run_neq_struct,YU];rfl
     ·simp at hk
    ·simp at hk
   ·simp at hk
  ·simp only[sJ]at hk;subst hk;exact plain he
 ·simp at hk
end Go.Ab
namespace Go.Ab
variable [cM]
variable {P:Program} {nt:Nat} {ds:List Deferred} {s:St} {Γ:Cx} {a:Act} {w:World}
def iK.rep {p:PV} {v:Value} (h:iK Γ p v):aN Γ p v:=by
 cases p<;>first|exact h|(simp only[iK]at h;cases h)
theorem jU.get:∀ {l:WG} {vs:UE},jU Γ l vs->∀ {i:Nat} {p:PV},l[i]? =some p->∃v,vs[i]? =some v∧iK Γ p v
 |[],vs,h,i,p,hp=>by simp at hp
 |q::l,[],h,i,p,hp=>by simp[jU]at h
 |
  q::l,v::vs,h,i,p,hp=>by
  simp only[jU]at h
  cases i with
  |zero=>simp at hp;subst hp;exact⟨v,by simp,h.1⟩
  |succ i=>simp at hp;simpa using jU.get h.2 hp
def NC {t e:TypeId} {x i:Operand} {y j:AX} {G g:Bool} {K:W7} {len n:Nat} (hx:eH x=some y) (hi:eH i=some j) (hs:fW nt ds s Γ a) (hG:G=true)
  (hu:P.underlying t=some (.array len e)) (hg:lD P e=some g) (hn:eK P e=some n) (he:ev G s (.index g len n y j) K):gp P Γ w (Instr.index t (a.eval x) (a.eval i)) K:=by
 simp only[ev]at he;obtain⟨p,hp,hr⟩:=bR hx hs hG he;obtain⟨q,hq,od⟩:=bR hi hs hG hp;obtain⟨k,m,hm,hK⟩:=eN hq od;split at hK
 ·rename_i sz n' l;split at hK
  ·rename_i c hc;obtain⟨⟨h0,h1,rfl,rfl,h4⟩,hK⟩:=hK;obtain⟨cs,hv,Eg⟩:=hr.cells rfl;obtain⟨hl,hlen,hw⟩:=Eg.px;have vL:=hw c (JcX hc);have Bb:=(iJ.1 hc).1
   obtain⟨c1,v1,c2,rfl,l1,r3⟩:∃c1 v1 c2,cs=c1++(c2++v1)∧c1.length=m.toNat*sz∧aC Γ [c] c2:=by
    have e1:l=l.take m.toNat++l[m.toNat]::l.drop (m.toNat+1):=by rw[JoQ,JbV]
    rw[e1]at hl;obtain⟨c1,u1,rfl,r1,r2⟩:=hl.split;obtain⟨c2,v2,rfl,r3,r4⟩:=r2.pv;refine⟨c1,v2,c2,rfl,?_,?_⟩
    ·rw[r1.length,fR hw (by omega)]
    ·rw[gJ Bb]at hc;simp only[sJ]at hc;rw[hc]at r3;exact r3
   obtain⟨v,yB,mQ⟩:=rE (P:=P) (w:=w) (t:=e) (o:=m.toNat*sz) r3 rfl l1 (by rw[h4];exact hg) (by rw[vL];exact hn);refine⟨c,v,hK,?_,mQ⟩;rw[hv,hm];simp only[Instr.index,asIntOf,bJ,JcZ,run_underlying hu,rJ];rw[if_pos ⟨h0,h1⟩];simp only[bJ,run_sizeOf hn,rJ];exact yB
  ·exact hK.elim
 ·exact hK.elim
def JJ {t:TypeId} {x i:Operand} {y j:AX} {G:Bool} {K:W7} (hx:eH x=some y) (hi:eH i=some j) (hs:fW nt ds s Γ a) (hG:G=true)
  (hu:P.underlying t=some .string) (he:ev G s (.indexS y j) K):gp P Γ w (Instr.index t (a.eval x) (a.eval i)) K:=by
 simp only[ev]at he;obtain⟨p,hp,hr⟩:=bR hx hs hG he;obtain⟨q,hq,od⟩:=bR hi hs hG hp;obtain⟨k,m,hm,hK⟩:=eN hq od;split at hK
 ·rename_i bs;split at hK
  ·rename_i c hc;obtain⟨str,hv,hd⟩:=hr.str;refine⟨_,_,hK.2,?_,cH⟩;rw[hv,hm]
   have:str[m.toNat]? =some c:=by
    rw[←hd]at hc;rw[Array.getElem?_toList]at hc;obtain⟨dx,he⟩:=Array.getElem?_eq_some_iff.1 hc;rw[getElem?_pos str m.toNat dx];exact congrArg some he
   simp only[Instr.index,asIntOf,bJ,JcZ,run_underlying hu,rJ];rw[if_pos hK.1,this];rfl
  ·exact hK.elim
 ·exact hK.elim
def ND {t:TypeId} {x:Operand} {y:AX} {G g:Bool} {K:W7} {i n:Nat} {fs:Array Field} {f:Field} (hx:eH x=some y) (hs:fW nt ds s Γ a) (hG:G=true)
  (hu:P.underlying t=some (.struct fs)) (hf:fs[i]? =some f) (hg:lD P f.type=some g) (hn:eK P f.type=some n) (he:ev G s (.field i f.offset g n y) K):
  gp P Γ w (Instr.field t (a.eval x) i) K:=by
 simp only[ev]at he;obtain⟨p,hp,hr⟩:=bR hx hs hG he;split at hp
 ·rename_i sw l;split at hp
  ·rename_i c hc;obtain⟨⟨h1,h2,h3⟩,hK⟩:=hp;obtain⟨cs,hv,Eg⟩:=hr.cells rfl;obtain⟨hl,hlen⟩:=Eg.wg;have Bb:=(iJ.1 hc).1
   obtain⟨c1,v1,c2,rfl,l1,r3⟩:∃c1 v1 c2,cs=c1++(c2++v1)∧c1.length=f.offset∧aC Γ [c] c2:=by
    have e1:l=l.take i++l[i]::l.drop (i+1):=by rw[JoQ,JbV]
    rw[e1]at hl;obtain⟨c1,u1,rfl,r1,r2⟩:=hl.split;obtain⟨c2,v2,rfl,r3,r4⟩:=r2.pv;refine⟨c1,v2,c2,rfl,?_,?_⟩
    ·rw[r1.length,h1]
    ·rw[gJ Bb]at hc;simp only[sJ]at hc;rw[hc]at r3;exact r3
   obtain⟨v,yB,mQ⟩:=rE (P:=P) (w:=w) (t:=f.type) (o:=f.offset) r3 rfl l1 (by rw[h3];exact hg) (by rw[h2];exact hn);refine⟨c,v,hK,?_,mQ⟩;rw[hv];simp only[Instr.field,bJ,run_underlying hu,rJ,hf,asAgg,JcZ];exact yB
  ·exact hp.elim
 ·exact hp.elim
def Hp {x:Operand} {y:AX} {G:Bool} {K:W7} {i:Nat} (hx:eH x=some y) (hs:fW nt ds s Γ a) (he:ev G s (.extract i y) K):
  gp P Γ w (Instr.extract (a.eval x) i) K:=by
 simp only[ev]at he;have hr:=BX hx hs;split at he
 ·rename_i l hl;rw[hl]at hr;simp only[aN]at hr;obtain⟨vs,hv,cU⟩:=hr;split at he
  ·rename_i p hp;obtain⟨v,yB,mQ⟩:=cU.get hp;exact⟨p,v,he,by rw[hv];simp[Instr.extract,yB],mQ.rep⟩
  ·exact he.elim
 ·exact he.elim
def JK {f:Fn} {x z:Array Operand} {y u:ZP} {G:Bool} {K:W7} (hx:sv x.toList=some y) (hz:sv z.toList=some u) (hs:fW nt ds s Γ a) (hG:G=true) (he:ev G s (.mkFunc f y u) K):
  gp P Γ w (Instr.makeFunc f (x.map a.eval) (z.map a.eval)) K:=by
 simp only[ev]at he;obtain⟨ps,hp,hlen,cU⟩:=xk hs hG hx he;obtain⟨qs,hq,Nj,ar2⟩:=xk hs hG hz hp;obtain⟨⟨h1,h2⟩,hK⟩:=hq
 have r1:aC Γ ps (x.toList.map a.eval):=Hm (by simpa using hlen) (λi p v h3 h4=>by
  rw[List.getElem?_map,mJ]at h4;obtain⟨o,h4,rfl⟩:=h4;exact cU i p o h3 h4) h1
 have r2:aC Γ qs (z.toList.map a.eval):=Hm (by simpa using Nj) (λi p v h3 h4=>by
  rw[List.getElem?_map,mJ]at h4;obtain⟨o,h4,rfl⟩:=h4;exact ar2 i p o h3 h4) h2
 refine⟨_,.func f (x.map a.eval) (z.map a.eval),hK,rfl,?_⟩;simp only[aN];have:=aC.fn (Γ:=Γ) f ps qs r1 r2 (λp hp=>by have:=JbJ.1 h1 p hp;simp at this;exact this.1) (λp hp=>by have:=JbJ.1 h2 p hp;simp at this;exact this.1) .nil;have e1:(x.toList.map a.eval).toArray=x.map a.eval:=by apply Array.ext';simp
 have e2:(z.toList.map a.eval).toArray=z.map a.eval:=by apply Array.ext';simp
 rw[e1,e2]at this;exact this
def FD {o:Oper} {x:Operand} {y:AX} {G:Bool} {K:W7} (ho:o.op= .nilCheck x) (hx:eH x=some y) (hs:fW nt ds s Γ a) (hG:G=true) (he:ev G s (.nilCheck y) K):
  ∃p v,K p∧(execOp a.eval o).run P w= .ok (.value v) w∧aN Γ p v:=by
 simp only[ev]at he;obtain⟨p,hp,hr⟩:=bR hx hs hG he;split at hp
 ·split at hp
  ·rename_i blk hb;have hr':=hr;rw[←hs.bx]at hb;obtain⟨b,hι,hv⟩:=hr'.pt hb hp.1;exact⟨_,_,hp.2,by simp only[execOp,ho];rw[hv];rfl,by rw[←hv];exact hr⟩
  ·exact hp.elim
 ·obtain⟨b,o',cs,hv,_⟩:=aN.fp hr;exact⟨_,_,hp,by simp only[execOp,ho];rw[hv];rfl,by rw[←hv];exact hr⟩
 ·obtain⟨fs,cs,hv,_⟩:=aN.fn hr;exact⟨_,_,hp,by simp only[execOp,ho];rw[hv];rfl,by rw[←hv];exact hr⟩
 ·exact hp.elim
def gp.exec {o:Oper} {x:Sem Value} {K:W7} (h:gp P Γ w x K) (he:execOp a.eval o=(do Pure.pure (.value (←x)))):
  ∃p v,K p∧(execOp a.eval o).run P w= .ok (.value v) w∧aN Γ p v:=by
 obtain⟨p,v,hK,hr,hv⟩:=h;exact⟨p,v,hK,by rw[he];simp[hr],hv⟩
def yG {t:TypeId} {i:TypeInfo} (h:P.info? t=some i):eK P t=some i.size:=by simp[eK,h]
def P0 {G:Bool} {K:W7} {s:St} (h:ev G s (.len (.c (.bl true))) K):False:=by simp[ev,vg,vx]at h
theorem B0 {o:Oper} {k:AK} {own G:Bool} {K:W7} (hk:kr P own o.op=some k) (hs:fW nt ds s Γ a) (hw:w.heap=Γ.heap) (hG:G=true) (he:ev G s k K):
  ∃p v,K p∧(execOp a.eval o).run P w= .ok (.value v) w∧aN Γ p v:=by
 obtain⟨dst,op,ty,pos,after,guard⟩:=o;cases op with
 |
  move x=>
  simp only[kr]at hk
  split at hk<;>simp only[sJ,reduceCtorEq]at hk
  rename_i y hx;subst hk
  simp only[ev]at he
  obtain⟨p,hp,hr⟩:=bR hx hs hG he
  exact⟨p,_,hp,rfl,hr⟩
 |
  assign x=>
  simp only[kr]at hk
  split at hk<;>simp only[sJ,reduceCtorEq]at hk
  rename_i y hx;subst hk
  simp only[ev]at he
  obtain⟨p,hp,hr⟩:=bR hx hs hG he
  exact⟨p,_,hp,rfl,hr⟩
 |
  pick c x y=>
  simp only[kr]at hk
  split at hk<;>simp only[sJ,reduceCtorEq]at hk
  rename_i c' x' y' hc hx hy;subst hk
  obtain⟨p,v,h1,h2,h3⟩:=PN (P:=P) (w:=w) hc hx hy hs hG he
  refine⟨p,v,h1,?_,h3⟩
  simp only[execOp]
  simp only[bJ]at h2⊢
  cases hb:(asBool (a.eval c)).run P w with
  |
   ok b w'=>
   rw[hb]at h2
   simp only[rJ,JcZ,Result.ok.injEq]at h2⊢
   exact⟨by rw[h2.1],h2.2⟩
  |halt h w'=>rw[hb]at h2;simp at h2
 |
  build t parts=>
  have Fk:kr P false (.build t parts)=some k:=hk
  exact(yF (P:=P) (w:=w) Fk hs hG he).exec rfl
 |
  load t x=>
  simp only[kr]at hk
  split at hk
  ·rename_i g n y hg hn hx
   split at hk<;>simp only[sJ,reduceCtorEq]at hk
   subst hk
   exact(Hj hx hs hw hG hg hn he).exec rfl
  ·simp at hk
 |
  nilCheck x=>
  simp only[kr]at hk
  split at hk<;>simp only[sJ,reduceCtorEq]at hk
  rename_i y hx;subst hk
  exact FD rfl hx hs hG he
 |
  binOp op t x y yt=>
  exact(NB (P:=P) (w:=w) hk hs hG he).exec rfl
 |
  unOp op t x=>
  simp only[kr]at hk
  split at hk<;>simp only[sJ,reduceCtorEq]at hk
  rename_i y hx;subst hk
  exact(ab8 hx hs hG he).exec rfl
 |
  convert t d x=>
  simp only[kr]at hk
  split at hk
  ·rename_i k1 k2 y h1 h2 hx
   simp only[sJ]at hk;subst hk
   exact(Nv hx hs hG h1 h2 he).exec rfl
  ·rename_i e y h1 h2 hx
   split at hk<;>simp only[sJ,reduceCtorEq]at hk
   rename_i h3;subst hk
   exact(Nw hx hs hw hG h1 h2 h3 he).exec rfl
  ·split at hk<;>simp only[sJ,reduceCtorEq]at hk
   subst hk;simp[ev]at he
  ·split at hk
   ·split at hk<;>simp only[sJ,reduceCtorEq]at hk
    subst hk;simp[ev]at he
   ·simp at hk
  ·simp at hk
 |
  makeFunc f x z=>
  simp only[kr]at hk
  split at hk<;>simp only[sJ,reduceCtorEq]at hk
  rename_i p q hx hz;subst hk
  exact(JK hx hz hs hG he).exec rfl
 |
  slice t x lo hi mx=>
  simp only[kr]at hk
  split at hk
  ·rename_i y Ji je PB hu hx hl hh hm
   simp only[sJ]at hk;subst hk
   exact(DP hx hl hh hm hs hG hu he).exec rfl
  ·rename_i e y Ji je PB hu hx hl hh hm
   split at hk
   ·rename_i n hn
    split at hk<;>simp only[sJ,reduceCtorEq]at hk
    rename_i hmh;subst hk
    exact(Fz hx hl hh hm hmh hs hG hu hn he).exec rfl
   ·simp at hk
  ·rename_i n e y Ji je PB hu hx hl hh hm
   split at hk<;>simp only[sJ,reduceCtorEq]at hk
   rename_i sz hn;subst hk
   exact(FA hx hl hh hm hs hG hu hn he).exec rfl
  ·simp at hk
 |makeMap t r=>simp[kr]at hk
 |lookup t m x ok=>simp[kr]at hk
 |mapUpdate t m x y=>simp[kr]at hk
 |
  sliceToArrayPointer t x=>
  simp only[kr]at hk
  split at hk
  ·rename_i n e y hu hx
   split at hk<;>simp only[sJ,reduceCtorEq]at hk
   subst hk
   exact(Vf hx hs hG hu he).exec rfl
  ·simp at hk
 |
  fieldAddr t x i=>
  simp only[kr]at hk
  split at hk
  ·rename_i fs y hu hx
   split at hk
   ·rename_i f hf
    split at hk<;>simp only[sJ,reduceCtorEq]at hk
    rename_i m hn;subst hk
    exact(JI hx hs hG hu hf hn he).exec rfl
   ·simp at hk
  ·simp at hk
 |
  field t x i=>
  simp only[kr]at hk
  split at hk
  ·rename_i fs y hu hx
   split at hk
   ·rename_i f hf
    split at hk
    ·rename_i g n hg hn
     split at hk<;>simp only[sJ,reduceCtorEq]at hk
     subst hk
     exact(ND hx hs hG hu hf hg hn he).exec rfl
    ·simp at hk
   ·simp at hk
  ·simp at hk
 |
  indexAddr t x i=>
  simp only[kr]at hk
  split at hk
  ·rename_i e y j hu hx hi
   split at hk<;>simp only[sJ,reduceCtorEq]at hk
   rename_i n hn;subst hk
   exact(DN hx hi hs hG hu hn he).exec rfl
  ·rename_i len e y j hu hx hi
   split at hk<;>simp only[sJ,reduceCtorEq]at hk
   rename_i n hn;subst hk
   exact(DO hx hi hs hG hu hn he).exec rfl
  ·simp at hk
 |
  index t x i=>
  simp only[kr]at hk
  split at hk
  ·rename_i len e y j hu hx hi
   split at hk
   ·rename_i g n hg hn
    split at hk<;>simp only[sJ,reduceCtorEq]at hk
    subst hk
    exact(NC hx hi hs hG hu hg hn he).exec rfl
   ·simp at hk
  ·rename_i y j hu hx hi
   simp only[sJ]at hk;subst hk
   exact(JJ hx hi hs hG hu he).exec rfl
  ·simp at hk
 |
  extract x i=>
  simp only[kr]at hk
  split at hk<;>simp only[sJ,reduceCtorEq]at hk
  rename_i y hx;subst hk
  exact(Hp hx hs he).exec rfl
 |
  call c=>
  obtain⟨callee,args,tys⟩:=c
  obtain⟨args⟩:=args
  obtain⟨tys⟩:=tys
  cases callee with
  |
   value f=>
   simp only[kr]at hk
   split at hk<;>simp only[sJ,reduceCtorEq]at hk
   subst hk
   simp[ev]at he
  |invoke r m=>simp[kr]at hk
  |
   builtin b=>
   simp only[kr]at hk
   have hex:∀(x:Sem Value) (c:Array Bool),builtin b tys.toArray ty c ((args.map a.eval).toArray)=(do Pure.pure (.value (←x)))->gp P Γ w x K->
     c=(args.toArray.map λ| .const _=>true|_=>false)->
     ∃p v,K p∧(execOp a.eval {dst:=dst,op:= .call {callee:= .builtin b,args:=args.toArray,argTypes:=tys.toArray},type:=ty,pos:=pos,after:=after,guard:=guard}).run P w= .ok (.value v) w∧aN Γ p v:=by
    intro x c hx hy hc
    refine hy.exec ?_
    have e:Array.map a.eval args.toArray=(args.map a.eval).toArray:=by simp
    simp only[execOp,resolve,e]
    rw[←hx,hc]
    rfl
   cases b with
   |len=>exact hex _ _ rfl (Vh (P:=P) (w:=w) (ty:=ty) hk hs hG he) rfl
   |cap=>exact hex _ _ rfl (Vg (P:=P) (w:=w) (ty:=ty) hk hs hG he) rfl
   |
    min=>
    unfold b8 at hk
    simp only at hk
    split at hk<;>simp only[sJ,reduceCtorEq]at hk
    rename_i l hl;subst hk
    exact hex _ _ rfl (by simpa using PW (P:=P) (w:=w) (ty:=ty) (tys:=tys) hl hs hG he) rfl
   |
    max=>
    unfold b8 at hk
    simp only at hk
    split at hk<;>simp only[sJ,reduceCtorEq]at hk
    rename_i l hl;subst hk
    exact hex _ _ rfl (by simpa using PW (P:=P) (w:=w) (ty:=ty) (tys:=tys) hl hs hG he) rfl
   |
    append=>
    unfold b8 at hk
    split at hk<;>(try contradiction)
    repeat (split at hk<;>(try contradiction))
    all_goals first|(simp only[sJ]at hk;subst hk;simp[ev]at he;done)|(simp at hk;done)|(split at hk<;>first|(simp only[sJ]at hk;subst hk;simp[ev]at he;done)|(simp at hk;done))
   |
    copy=>
    unfold b8 at hk
    split at hk<;>(try contradiction)
    repeat (split at hk<;>(try contradiction))
    all_goals (simp only[sJ]at hk;subst hk;simp[ev]at he)
   |
    clear=>
    unfold b8 at hk
    split at hk<;>(try contradiction)
    repeat (split at hk<;>(try contradiction))
    all_goals (simp only[sJ]at hk;subst hk;simp[ev]at he)
   |_=>unfold b8 at hk;split at hk<;>contradiction
 |
  alloc t=>
  simp only[kr]at hk
  split at hk<;>simp only[sJ,reduceCtorEq]at hk
  subst hk;simp[ev]at he
 |
  box t x=>
  simp only[kr]at hk
  split at hk<;>simp only[sJ,reduceCtorEq]at hk
  subst hk;simp[ev]at he
 |
  buildSlice t n parts=>
  simp only[kr]at hk
  repeat (split at hk<;>(try contradiction))
  all_goals (simp only[sJ]at hk;subst hk;simp[ev]at he)
 |
  makeSlice t l c=>
  simp only[kr]at hk
  repeat (split at hk<;>(try contradiction))
  all_goals (simp only[sJ]at hk;subst hk;simp[ev]at he)
 |
  store t x y=>
  simp only[kr]at hk
  split at hk<;>simp only[sJ,reduceCtorEq]at hk
  subst hk;simp[ev]at he
 |makeInterface=>simp only[kr,sJ]at hk;subst hk;exact(P0 he).elim
 |panic=>simp only[kr,sJ]at hk;subst hk;exact(P0 he).elim
 |_=>simp[kr]at hk
end Go.Ab
