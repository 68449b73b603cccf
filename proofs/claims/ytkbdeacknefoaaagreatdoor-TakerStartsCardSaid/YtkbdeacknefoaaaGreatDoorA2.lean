/- Each quiet operation does what its abstract reading says. No condition. -/
import Derived.Test.YtkbdeacknefoaaaGreatDoorA1
set_option linter.all false
namespace Go.Ab
variable [eo]
variable {P:Program} {nt:Nat} {ds:List Deferred} {s:St} {Γ:Cx} {a:Act} {w:World}
theorem aN.int {k:IntKind} {n:Int} {v:Value} (h:aN Γ (.int k n) v):v= .int k n:=by
 simp only[aN]at h;cases h;rfl
theorem aN.bl {x:Bool} {v:Value} (h:aN Γ (.bl x) v):v= .bool x:=by
 simp only[aN]at h;cases h;rfl
theorem aN.str {l:List UInt8} {v:Value} (h:aN Γ (.str l) v):∃s:ByteArray,v= .string s∧s.data.toList=l:=by
 simp only[aN]at h;cases h with|str l s h _=>exact⟨s,rfl,h⟩
theorem aN.np {v:Value} (h:aN Γ .np v):v= .pointer none:=by
 simp only[aN]at h;cases h;rfl
theorem aN.nf {v:Value} (h:aN Γ .nf v):v= .nilFunc:=by
 simp only[aN]at h;cases h;rfl
theorem aN.pt {k aK:Nat} {p:List Step} {v:Value} {blk:br} (h:aN Γ (.pt k p aK) v) (hg:get Γ.bx k=some blk) (ht:aK=blk.aK):
  ∃b,Γ.ι k=some b∧v= .pointer (some ⟨b,cG p,none⟩):=by
 simp only[aN]at h
 cases h with
 |
  pt k p aK v b8 lI h1 hv _=>
  rw[hg]at lI
  obtain⟨h2,h3⟩:=lI
  cases h2
  exact hv ht
theorem aN.rs {k off len aK sz:Nat} {c:iC} {p:List Step} {v:Value} {blk:br} (h:aN Γ (.rs k p off len aK sz c) v) (hg:get Γ.bx k=some blk) (ht:aK=blk.aK):
  ∃a bt,v= .slice a len bt∧jo Γ k p off len sz c a bt:=by
 simp only[aN]at h
 cases h with
 |
  rs k p off len aK sz c v b8 lI h1 hv _=>
  rw[hg]at lI
  obtain⟨h2,h3⟩:=lI
  cases h2
  exact hv ht
theorem aN.fp {sz:Nat} {l:List PV} {p:List Step} {v:Value} (h:aN Γ (.fp sz l p) v):
  ∃b o cs,v= .pointer (some ⟨b,o+cG p,none⟩)∧aD Γ l cs∧(∀x∈l,x.width=sz)∧(b<Γ.heap.size∧¬Γ.own b)∧∀i c,cs[i]? =some c->cell Γ.heap b (o+i)=some c:=by
 simp only[aN]at h
 cases h with
 | @fp _ _ cs sz l p b o hl hw hm hc _=>exact⟨b,o,cs,rfl,hl,hw,hm,hc⟩
theorem aN.sl {sz:Nat} {l:List PV} {clip:Bool} {v:Value} (h:aN Γ (.sl sz l clip) v):
  ∃
   a bt cs,v= .slice a l.length bt∧aD Γ l cs∧(∀x∈l,x.width=sz)∧l.length≤bt∧(clip=true->bt=l.length)∧
   (l≠[]->∃b o,a=some ⟨b,o,none⟩∧b<Γ.heap.size∧¬Γ.own b∧∀i c,cs[i]? =some c->cell Γ.heap b (o+i)=some c):=by
 simp only[aN]at h
 cases h with
 | @sl _ _ cs sz l clip a bt hl hw hc hk hb _=>exact⟨a,bt,cs,rfl,hl,hw,hc,hk,hb⟩
theorem aN.fn {f:Fn} {first cap:List PV} {v:Value} (h:aN Γ (.fn f first cap) v):
  ∃fs cs:List Value,v= .func f fs.toArray cs.toArray∧aD Γ first fs∧aD Γ cap cs∧(∀x∈first,x.isAgg=false)∧(∀x∈cap,x.isAgg=false):=by
 simp only[aN]at h
 cases h with
 | @fn _ _ fs cs f first cap h1 h2 h3 h4 _=>exact⟨fs,cs,rfl,h1,h2,h3,h4⟩
theorem aN.sd {p:PV} {cs:List Value} (h:aD Γ [p] cs) (dF:p.isAgg=true):aN Γ p (.agg cs.toArray):=by
 cases p<;>simp[PV.isAgg]at dF
 ·exact⟨cs,rfl,h⟩
 ·exact⟨cs,rfl,h⟩
theorem aN.Cz {p:PV} {v:Value} (h:aD Γ [p] [v]) (dF:p.isAgg=false):aN Γ p v:=by
 cases p<;>simp[PV.isAgg]at dF<;>first|exact h|trivial|(cases h;done)
theorem aN.cells {p:PV} {v:Value} (h:aN Γ p v) (dF:p.isAgg=true):∃cs:List Value,v= .agg cs.toArray∧aD Γ [p] cs:=by
 cases p<;>simp[PV.isAgg]at dF
 ·exact h
 ·exact h
theorem aN.y6 {p:PV} {v:Value} (h:aN Γ p v) (hc:p.bG=true):aD Γ [p] v.cells.toList:=by
 cases p<;>simp[PV.bG]at hc
 case st w l=>obtain⟨cs,rfl,h⟩:=h;simpa[Value.cells]using h
 case ar sz n l=>obtain⟨cs,rfl,h⟩:=h;simpa[Value.cells]using h
 all_goals
  simp only[aN]at h
  have h1:=h.one v (by simp)
  have:v.cells= #[v]:=by cases v<;>simp_all [gq,Value.cells]
  rw[this];exact h
theorem OA {v:Value} {p:PV} (h:trV v=some p):aN Γ p v:=by
 unfold trV at h
 split at h<;>simp only[sJ,reduceCtorEq]at h<;>subst h<;>simp only[aN]
 ·exact .bl _ .nil
 ·exact .int _ _ .nil
 ·exact .str _ _ rfl .nil
 ·exact .np .nil
 ·exact .sl 0 [] true none 0 .nil (by simp) (Nat.le_refl _) (λ_=>rfl) (λh=>absurd rfl h) .nil
 ·exact .nf .nil
 ·exact .ni .nil
theorem wg {x:Operand} {y:AX} (h:jG x=some y) (hs:iz nt ds s Γ a):aN Γ (vx s y) (a.eval x):=by
 cases x with
 |
  tmp t=>
  simp only[jG,sJ]at h
  subst h
  simp only[vx,Act.eval]
  cases hg:get s.env t with
  |none=>simp[aN]
  |some p=>simpa using hs.env t p hg
 |
  const v=>
  simp only[jG]at h
  split at h
  ·rename_i p hp
   simp only[sJ]at h;subst h
   exact OA hp
  ·exact absurd h (by simp)
 |global g=>simp[jG]at h
 |
  func f=>
  simp only[jG,sJ]at h
  subst h
  simp only[vx,Act.eval,aN]
  simpa using aD.fn (Γ:=Γ) (fs:=[]) (cs:=[]) (.func f) [] [] .nil .nil (by simp) (by simp) .nil
theorem cy {g:Bool} {x:Operand} {y:AX} {K:PV->Prop} (h:jG x=some y) (hs:iz nt ds s Γ a) (hg:g=true) (hv:vg g s y K):
  ∃p,K p∧aN Γ p (a.eval x):=by
 have hr:=wg h hs
 unfold vg at hv
 split at hv
 ·rename_i b p hb
  rw[hb]at hr
  exact⟨p,hv.2,by rw[aN]at hr;exact hr.1 (hv.1 hg)⟩
 ·exact⟨_,hv,hr⟩
theorem uL {g:Bool} (hs:iz nt ds s Γ a) (hg:g=true):∀ {xs:List Operand} {ys:List AX} {K:List PV->Prop},uK xs=some ys->uD g s ys K->
  ∃ps,K ps∧ps.length=xs.length∧∀(i:Nat) p x,ps[i]? =some p->xs[i]? =some x->aN Γ p (a.eval x)
 |
  [],ys,K,h,hv=>by
  simp only[uK,sJ]at h;subst h
  exact⟨[],hv,rfl,by simp⟩
 |
  x::xs,ys,K,h,hv=>by
  simp only[uK]at h
  split at h
  ·rename_i y l hy hl
   simp only[sJ]at h;subst h
   obtain⟨p,hp,hr⟩:=cy hy hs hg hv
   obtain⟨ps,BA,hlen,eO⟩:=uL hs hg hl hp
   refine⟨p::ps,BA,by simp[hlen],λi q z h1 h2=> ?_⟩
   cases i with
   |zero=>simp at h1 h2;subst h1 h2;exact hr
   |succ i=>simp at h1 h2;exact eO i q z h1 h2
  ·exact absurd h (by simp)
theorem yz {g:Bool} (hs:iz nt ds s Γ a) (hg:g=true):∀ {xs:List (Nat×Operand)} {ys:List (Nat×AX)} {K:List (Nat×PV)->Prop},qX xs=some ys->y5 g s ys K->
  ∃ps,K ps∧ps.length=xs.length∧∀(i:Nat) j p k x,ps[i]? =some (j,p)->xs[i]? =some (k,x)->j=k∧aN Γ p (a.eval x)
 |
  [],ys,K,h,hv=>by
  simp only[qX,sJ]at h;subst h
  exact⟨[],hv,rfl,by simp⟩
 |
  (n,x)::xs,ys,K,h,hv=>by
  simp only[qX]at h
  split at h
  ·rename_i y l hy hl
   simp only[sJ]at h;subst h
   obtain⟨p,hp,hr⟩:=cy hy hs hg hv
   obtain⟨ps,BA,hlen,eO⟩:=yz hs hg hl hp
   refine⟨(n,p)::ps,BA,by simp[hlen],λi j q k z h1 h2=> ?_⟩
   cases i with
   |zero=>simp at h1 h2;obtain⟨rfl,rfl⟩:=h1;obtain⟨rfl,rfl⟩:=h2;exact⟨rfl,hr⟩
   |succ i=>simp at h1 h2;exact eO i j q k z h1 h2
  ·exact absurd h (by simp)
theorem gO {p:PV} {K:Int->Prop} {v:Value} (h:ot p K) (hr:aN Γ p v):∃k n,v= .int k n∧K n:=by
 unfold ot at h
 split at h
 ·exact⟨_,_,hr.int,h⟩
 ·exact h.elim
def iS (P:Program) (Γ:Cx) (w:World) (x:Sem Value) (K:PV->Prop):Prop:=
 ∃p v,K p∧x.run P w= .ok v w∧aN Γ p v
theorem iS.pure {K:PV->Prop} {p:PV} {v:Value} (h:K p) (hr:aN Γ p v):iS P Γ w (Pure.pure v) K:=⟨p,v,h,rfl,hr⟩
theorem jH {x:Bool}:aN Γ (.bl x) (.bool x):=by simp only[aN];exact .bl _ .nil
theorem dC {k:IntKind} {n:Int}:aN Γ (.int k n) (.int k n):=by simp only[aN];exact .int _ _ .nil
theorem KC {b:ByteArray}:aN Γ (.str b.data.toList) (.string b):=by simp only[aN];exact .str _ _ rfl .nil
theorem qv {b:ByteArray} {l:List UInt8} (h:b.data.toList=l):aN Γ (.str l) (.string b):=by subst h;exact KC
theorem toList_data (b:ByteArray):b.toList=b.data.toList:=by rw[ByteArray.toList_eq]
theorem OB {op:BinOp} {t:TypeId} {k k':IntKind} {m n:Int} {K:PV->Prop} (hk:op= .shl∨op= .shr∨k=k') (h:pC op k m n K):
  iS P Γ w (binOp op t (.int k m) (.int k' n)) K:=by
 rcases hk with rfl|rfl|rfl
 ·obtain⟨h1,h2⟩:=h
  refine⟨_,_,h2,?_,dC⟩
  simp only[binOp,Op.shift]
  rw[if_neg (by omega)];rfl
 ·obtain⟨h1,h2⟩:=h
  refine⟨_,_,h2,?_,dC⟩
  simp only[binOp,Op.shift]
  rw[if_neg (by omega)];rfl
 ·cases op<;>simp only[pC]at h
  case quo=>exact⟨_,_,h.2,by simp[binOp,Op.intDiv,h.1],dC⟩
  case rem=>exact⟨_,_,h.2,by simp[binOp,Op.intDiv,h.1],dC⟩
  case shl=>exact⟨_,_,h.2,by simp only[binOp,Op.shift];rw[if_neg (by omega)];rfl,dC⟩
  case shr=>exact⟨_,_,h.2,by simp only[binOp,Op.shift];rw[if_neg (by omega)];rfl,dC⟩
  case andNot=>exact⟨_,_,h,by rw[binOp_andNot];rfl,dC⟩
  case and=>exact⟨_,_,h,by rw[binOp_and];rfl,dC⟩
  case or=>exact⟨_,_,h,by rw[binOp_or];rfl,dC⟩
  case xor=>exact⟨_,_,h,by rw[binOp_xor];rfl,dC⟩
  case add=>exact⟨_,_,h,by rw[binOp_add];rfl,dC⟩
  case sub=>exact⟨_,_,h,by rw[binOp_sub];rfl,dC⟩
  case mul=>exact⟨_,_,h,by rw[binOp_mul];rfl,dC⟩
  all_goals exact⟨_,_,h,by simp[binOp,Op.intCmp],jH⟩
theorem OC {op:BinOp} {t:TypeId} {x y:ByteArray} {K:PV->Prop} (h:xZ op x.data.toList y.data.toList K):
  iS P Γ w (binOp op t (.string x) (.string y)) K:=by
 cases op<;>simp only[xZ]at h<;>first|exact h.elim|skip
 case add=>
  refine⟨_,_,h.2,?_,qv (b:=x++y) (by simp)⟩
  have:¬((x.size+y.size:Nat):Int)>IntKind.i64.max:=by
   have h1:=h.1
   have e1:x.data.toList.length=x.size:=Array.length_toList
   have e2:y.data.toList.length=y.size:=Array.length_toList
   have e3:IntKind.i64.max=9223372036854775807:=by decide
   omega
  simp only[binOp,Op.stringOp]
  rw[if_neg this];rfl
 all_goals
  refine⟨_,_,h,?_,jH⟩
  simp[binOp,Op.stringOp,toList_data]
end Go.Ab
namespace Go.Ab
variable [eo]
variable {P:Program} {nt:Nat} {ds:List Deferred} {s:St} {Γ:Cx} {a:Act} {w:World}
theorem y7 {l:List PV} {sz:Nat} {p:List Step} {u:PV} {cs:List Value} (h:aD Γ l cs) (hw:∀x∈l,x.width=sz) (hg:ku (.arr sz l) p=some u):
  cG p+u.width≤cs.length∧aD Γ [u] ((cs.drop (cG p)).take u.width):=by
 cases p with
 |nil=>simp[ku]at hg
 |
  cons x p=>
  cases x with
  |f i o=>simp[ku]at hg
  |
   i j s=>
   simp only[ku]at hg
   split at hg
   ·rename_i hs
    subst hs
    split at hg
    ·rename_i c hc
     have h3:=h.at hc
     obtain⟨h4,h5⟩:=qu p h3 hg
     have h6:=h3.iR
     have:=yY h hc (by omega) rfl h5
     have hj:=(List.getElem?_eq_some_iff.1 hc).1
     rw[iH hw (by omega)]at this
     simpa[cG]using this
    ·exact absurd hg (by simp)
   ·exact absurd hg (by simp)
  |
   w o n s=>
   simp only[ku]at hg
   split at hg
   ·rename_i hs
    obtain⟨rfl,hs⟩:=hs
    obtain⟨h1,h2⟩:=h.Uo hw hs
    have h1':=h1.Sa (sz:=s) (n:=n) (by rw[lJ,List.length_drop,Nat.min_eq_left (by omega)]) (λx hx=>hw x (List.mem_of_mem_drop (List.mem_of_mem_take hx)))
    obtain⟨h3,h4⟩:=qu p h1' hg
    rw[lJ,List.length_drop]at h3
    rw[ly _ _ _ _ _ (by omega)]at h4
    refine⟨by simp only[cG];omega,by simpa only[cG]using h4⟩
   ·exact absurd hg (by simp)
theorem nr {heap:Array Obj} {b o:Nat} {cs:List Value} (h:∀i c,cs[i]? =some c->cell heap b (o+i)=some c) (p n:Nat):
  ∀i c,((cs.drop p).take n)[i]? =some c->cell heap b (o+p+i)=some c:=by
 intro i c hc
 rw[List.getElem?_take]at hc
 split at hc
 ·rw[List.getElem?_drop]at hc
  have:=h _ _ hc
  rwa [Nat.add_assoc]
 ·exact absurd hc (by simp)
theorem mf {heap:Array Obj} {b:Nat} {c:Array Value} {e:TypeId} {fr:Nat×Nat} (h:heap[b]? =some (.cells c e fr)) (cs rest:List Value) (hc:c.toList=cs++rest):
  ∀i x,cs[i]? =some x->cell heap b (0+i)=some x:=by
 intro i x hx
 simp only[cell,h,Nat.zero_add]
 have hi:=(List.getElem?_eq_some_iff.1 hx).1
 rw[←Array.getElem?_toList,hc,List.getElem?_append_left hi,hx]
theorem Mem.at (hm:Mem Γ) {k b:Nat} {blk:br} {p:List Step} {u:PV} (hg:get Γ.bx k=some blk) (hb:Γ.ι k=some b) (hu:ku blk p=some u):
  ∃cs,aD Γ [u] cs∧∀i c,cs[i]? =some c->cell Γ.heap b (cG p+i)=some c:=by
 have h:=hm.blk k blk hg
 cases blk with
 |
  box v=>
  obtain⟨b',c,e,h1,h2,h3⟩:=h
  rw[hb]at h1;cases h1
  obtain⟨h4,h5⟩:=qu p h3 (by simpa[ku]using hu)
  refine⟨_,h5,?_⟩
  have:=nr (mf h2 c.toList [] (by simp)) (cG p) u.width
  simpa using this
 |
  arr sz l=>
  obtain⟨h1,h2,h3⟩:=h
  rw[hb]at h3
  obtain⟨c,e,cs,rest,h4,h5,h6,_⟩:=h3
  obtain⟨h7,h8⟩:=y7 h6 h1 hu
  refine⟨_,h8,?_⟩
  have:=nr (mf h4 cs rest h5) (cG p) u.width
  simpa using this
 |map b0 ks vs l=>simp[ku]at hu
theorem cell?_eq (w:World) (b o:Nat):w.cell? ⟨b,o,none⟩=cell w.heap b o:=by
 simp only[World.cell?,cell]
 split<;>simp_all
theorem sO {t:TypeId} {g:Bool} (h:nM P t=some g):(isAgg t).run P w= .ok g w:=by
 unfold nM at h
 split at h<;>simp only[sJ,reduceCtorEq]at h
 ·rename_i fs hu;subst h;simp[isAgg,run_underlying hu]
 ·rename_i n e hu;subst h;simp[isAgg,run_underlying hu]
 ·rename_i d h1 h2 hu;subst h
  simp only[isAgg,bJ,run_underlying hu,rJ]
  try split
  all_goals simp_all
theorem run_sizeOf {t:TypeId} {n:Nat} (h:jz P t=some n):(sizeOf t).run P w= .ok n w:=by
 unfold jz at h
 split at h<;>simp only[sJ,reduceCtorEq]at h
 rename_i i hi;subst h
 simp[sizeOf,typeInfo,hi]
theorem jL (b o n:Nat):Addr.add ⟨b,o,none⟩ n=⟨b,o+n,none⟩:=by
 simp only[Addr.add];split
 ·subst_vars;rfl
 ·rfl
theorem xw {t:TypeId} {u:PV} {cs:List Value} {b o:Nat} (hr:aD Γ [u] cs) (hc:∀i c,cs[i]? =some c->cell w.heap b (o+i)=some c)
  (hg:nM P t=some u.isAgg) (hn:jz P t=some u.width):∃v,(loadVar t ⟨b,o,none⟩).run P w= .ok v w∧aN Γ u v:=by
 have hl:=hr.iR
 cases ha:u.isAgg with
 |
  true=>
  refine⟨.agg cs.toArray,?_,aN.sd hr ha⟩
  rw[ha]at hg
  simp only[loadVar,bJ,sO hg,rJ,if_true,run_sizeOf hn]
  rw[←hl,run_loadCells_list w ⟨b,o,none⟩ cs (λj v hj=>by rw[jL,cell?_eq];exact hc j v hj)]
  rfl
 |
  false=>
  have h1:u.width=1:=by cases u<;>simp[PV.isAgg]at ha<;>rfl
  rw[h1]at hl
  obtain⟨v,rfl⟩:=List.length_eq_one_iff.1 hl
  refine⟨v,?_,aN.Cz hr ha⟩
  rw[ha]at hg
  have:=hc 0 v rfl
  simp only[loadVar,bJ,sO hg,rJ,fJ,if_false,run_load,cell?_eq]
  rw[Nat.add_zero]at this
  rw[this]
theorem DT {t:TypeId} {x:Operand} {y:AX} {g:Bool} {G:Bool} {n:Nat} {K:PV->Prop} (hx:jG x=some y) (hs:iz nt ds s Γ a) (hw:w.heap=Γ.heap) (hG:G=true)
  (ha:nM P t=some g) (hn:jz P t=some n) (he:ev G s (.load g n y) K):iS P Γ w (Instr.loadAt t (a.eval x)) K:=by
 simp only[ev]at he
 obtain⟨p,hp,hr⟩:=cy hx hs hG he
 split at hp
 ·rename_i k p aK
  split at hp
  ·rename_i blk hb
   split at hp
   ·rename_i u hu
    obtain⟨⟨h1,h2,h3⟩,hK⟩:=hp
    rw[←hs.bx]at hb
    obtain⟨b,hι,hv⟩:=hr.pt hb h1
    obtain⟨cs,v8,xr⟩:=hs.mem.at hb hι hu
    obtain⟨v,v7,mD⟩:=xw (P:=P) (w:=w) (b:=b) (o:=cG p) v8 (by rw[hw];exact xr) (by rw[h3];exact ha) (by rw[h2];exact hn)
    exact⟨u,v,hK,by rw[hv];simpa[Instr.loadAt,Instr.sureAddr]using v7,mD⟩
   ·exact hp.elim
  ·exact hp.elim
 ·rename_i sz l p
  split at hp
  ·rename_i u hu
   obtain⟨⟨h2,h3⟩,hK⟩:=hp
   obtain⟨b,o,cs,hv,hl,mY,hm,hc⟩:=hr.fp
   obtain⟨h4,h5⟩:=y7 hl mY hu
   obtain⟨v,v7,mD⟩:=xw (P:=P) (w:=w) (b:=b) (o:=o+cG p) h5 (by rw[hw];exact nr hc (cG p) u.width) (by rw[h3];exact ha) (by rw[h2];exact hn)
   exact⟨u,v,hK,by rw[hv];simpa[Instr.loadAt,Instr.sureAddr]using v7,mD⟩
  ·exact hp.elim
 ·exact hp.elim
theorem aN.KD {k b aK:Nat} {p:List Step} {blk:br} (hb:get Γ.bx k=some blk) (ht:aK=blk.aK) (hι:Γ.ι k=some b) {o:Nat} (ho:o=cG p):
  aN Γ (.pt k p aK) (.pointer (some ⟨b,o,none⟩)):=by
 subst ho
 simp only[aN]
 exact .pt k p aK _ blk ⟨hb,by omega⟩ rfl (λ_=>⟨b,hι,rfl⟩) .nil
theorem aN.OD {sz b o:Nat} {l:List PV} {cs:List Value} {p:List Step} (hl:aD Γ l cs) (hw:∀x∈l,x.width=sz) (hm:b<Γ.heap.size∧¬Γ.own b)
  (hc:∀i c,cs[i]? =some c->cell Γ.heap b (o+i)=some c) {q:Nat} (hq:q=o+cG p):aN Γ (.fp sz l p) (.pointer (some ⟨b,q,none⟩)):=by
 subst hq
 simp only[aN]
 exact .fp sz l p b o hl hw hm hc .nil
theorem FZ {t:TypeId} {x:Operand} {y:AX} {G:Bool} {K:PV->Prop} {i m:Nat} {fs:Array Field} {f:Field} (hx:jG x=some y) (hs:iz nt ds s Γ a) (hG:G=true)
  (hu:P.underlying t=some (.struct fs)) (hf:fs[i]? =some f) (hn:jz P f.type=some (m+1)) (he:ev G s (.fieldA i f.offset y) K):
  iS P Γ w (Instr.fieldAt t (a.eval x) i) K:=by
 simp only[ev]at he
 obtain⟨p,hp,hr⟩:=cy hx hs hG he
 have key:∀b o,(Instr.fieldAt t (.pointer (some ⟨b,o,none⟩)) i).run P w= .ok (.pointer (some ⟨b,o+f.offset,none⟩)) w:=by
  intro b o
  simp only[Instr.fieldAt,bJ,run_underlying hu,rJ,hf,Instr.sureAddr,Sem.run_pure,fieldPlace,run_sizeOf hn]
  rw[if_neg (by omega)]
  simp[jL]
 split at hp
 ·rename_i k p aK
  split at hp
  ·rename_i blk hb
   rw[←hs.bx]at hb
   obtain⟨b,hι,hv⟩:=hr.pt hb hp.1
   exact⟨_,_,hp.2,by rw[hv];exact key _ _,.KD hb hp.1 hι (by simp[me,cG])⟩
  ·exact hp.elim
 ·rename_i sz l p
  obtain⟨b,o,cs,hv,hl,mY,hm,hc⟩:=hr.fp
  exact⟨_,_,hp,by rw[hv];exact key _ _,.OD hl mY hm hc (by simp[me,cG];omega)⟩
 ·exact hp.elim
theorem Be {t e:TypeId} {x i:Operand} {y j:AX} {G:Bool} {K:PV->Prop} {n:Nat} (hx:jG x=some y) (hi:jG i=some j) (hs:iz nt ds s Γ a) (hG:G=true)
  (hu:P.underlying t=some (.slice e)) (hn:jz P e=some n) (he:ev G s (.indexA (.sl n) y j) K):iS P Γ w (Instr.indexAt t (a.eval x) (a.eval i)) K:=by
 simp only[ev]at he
 obtain⟨p,hp,hr⟩:=cy hx hs hG he
 obtain⟨q,hq,pG⟩:=cy hi hs hG hp
 obtain⟨k,m,hm,hK⟩:=gO hq pG
 rw[hm]
 have key:∀b o (len cap:Nat),0≤m->m<len->(Instr.indexAt t (.slice (some ⟨b,o,none⟩) len cap) (.int k m)).run P w= .ok (.pointer (some ⟨b,o+m.toNat*n,none⟩)) w:=by
  intro b o len cap h0 h1
  simp only[Instr.indexAt,asIntOf,bJ,Sem.run_pure,run_underlying hu,rJ]
  rw[if_pos ⟨h0,h1⟩]
  simp[run_sizeOf hn,jL]
 split at hK
 ·rename_i cR l clip
  obtain⟨⟨rfl,h0,h1⟩,hK⟩:=hK
  obtain⟨ad,bt,cs,hv,hl,mY,hc,hk,hb⟩:=hr.sl
  obtain⟨b,o,rfl,eu,RL,mX⟩:=hb (by intro h;subst h;simp at h1;omega)
  rw[hv]
  exact⟨_,_,hK,key _ _ _ _ h0 h1,.OD hl mY ⟨eu,RL⟩ mX (by simp[cG])⟩
 ·rename_i kk p off len aK cR c
  split at hK
  ·rename_i blk hb
   obtain⟨⟨h1,rfl,h2,h3⟩,hK⟩:=hK
   rw[←hs.bx]at hb
   obtain⟨ad,bt,hv,cY⟩:=hr.rs hb h1
   unfold jo at cY
   cases hι:Γ.ι kk with
   |none=>rw[hι]at cY;omega
   |
    some b=>
    rw[hι]at cY
    obtain⟨h4,h5,_⟩:=cY
    rcases h5 with h5|rfl
    ·omega
    rw[hv]
    exact⟨_,_,hK,key _ _ _ _ h2 h3,.KD hb h1 hι (by simp[me,cG,Nat.add_mul];omega)⟩
  ·exact hK.elim
 ·exact hK.elim
theorem OE {t e:TypeId} {x:Operand} {y:AX} {G:Bool} {K:PV->Prop} {n sz:Nat} (hx:jG x=some y) (hs:iz nt ds s Γ a) (hG:G=true)
  (hu:P.underlying t=some (.array n e)) (he:ev G s (.s2a n sz y) K):iS P Γ w (Instr.arrayAt t (a.eval x)) K:=by
 simp only[ev]at he
 obtain⟨p,hp,hr⟩:=cy hx hs hG he
 have key:∀(ad:Option Addr) (len cap:Nat),n≤len->(Instr.arrayAt t (.slice ad len cap)).run P w= .ok (.pointer ad) w:=by
  intro ad len cap h
  simp only[Instr.arrayAt,bJ,run_underlying hu,rJ]
  rw[if_neg (by omega)];rfl
 split at hp
 ·rename_i cR l clip
  obtain⟨⟨rfl,h0,h1⟩,hK⟩:=hp
  obtain⟨ad,bt,cs,hv,hl,mY,hc,hk,hb⟩:=hr.sl
  obtain⟨b,o,rfl,eu,RL,mX⟩:=hb (by intro h;subst h;simp at h1;omega)
  rw[hv]
  exact⟨_,_,hK,key _ _ _ h1,.OD hl mY ⟨eu,RL⟩ mX (by simp[cG])⟩
 ·rename_i kk p off len aK cR c
  split at hp
  ·rename_i blk hb
   obtain⟨⟨h1,rfl,h2,h3⟩,hK⟩:=hp
   rw[←hs.bx]at hb
   obtain⟨ad,bt,hv,cY⟩:=hr.rs hb h1
   unfold jo at cY
   cases hι:Γ.ι kk with
   |none=>rw[hι]at cY;omega
   |
    some b=>
    rw[hι]at cY
    obtain⟨h4,h5,_⟩:=cY
    rcases h5 with h5|rfl
    ·omega
    rw[hv]
    exact⟨_,_,hK,key _ _ _ h3,.KD hb h1 hι (by simp[me,cG])⟩
  ·exact hp.elim
 ·exact hp.elim
theorem Bf {t e:TypeId} {x i:Operand} {y j:AX} {G:Bool} {K:PV->Prop} {len n:Nat} (hx:jG x=some y) (hi:jG i=some j) (hs:iz nt ds s Γ a) (hG:G=true)
  (hu:P.underlying t=some (.array len e)) (hn:jz P e=some n) (he:ev G s (.indexA (.ar len n) y j) K):iS P Γ w (Instr.indexAt t (a.eval x) (a.eval i)) K:=by
 simp only[ev]at he
 obtain⟨p,hp,hr⟩:=cy hx hs hG he
 obtain⟨q,hq,pG⟩:=cy hi hs hG hp
 obtain⟨k,m,hm,⟨h0,h1⟩,hK⟩:=gO hq pG
 rw[hm]
 have key:∀b o,(Instr.indexAt t (.pointer (some ⟨b,o,none⟩)) (.int k m)).run P w= .ok (.pointer (some ⟨b,o+m.toNat*n,none⟩)) w:=by
  intro b o
  simp only[Instr.indexAt,asIntOf,bJ,Sem.run_pure,run_underlying hu,rJ,Instr.sureAddr]
  rw[if_pos ⟨h0,h1⟩]
  simp[run_sizeOf hn,jL]
 split at hK
 ·rename_i k p aK
  split at hK
  ·rename_i blk hb
   rw[←hs.bx]at hb
   obtain⟨b,hι,hv⟩:=hr.pt hb hK.1
   exact⟨_,_,hK.2,by rw[hv];exact key _ _,.KD hb hK.1 hι (by simp[me,cG])⟩
  ·exact hK.elim
 ·rename_i sz l p
  obtain⟨b,o,cs,hv,hl,mY,hm,hc⟩:=hr.fp
  exact⟨_,_,hK,by rw[hv];exact key _ _,.OD hl mY hm hc (by simp[me,cG];omega)⟩
 ·exact hK.elim
end Go.Ab
namespace Go.Ab
variable [eo]
variable {P:Program} {nt:Nat} {ds:List Deferred} {s:St} {Γ:Cx} {a:Act} {w:World}
theorem aN.gd {b:Bool} {p:PV} {v:Value} (h:aN Γ (.gd b p) v) (hb:b=true):aN Γ p v:=by
 rw[aN]at h;exact h.1 hb
theorem KE {c x y:Operand} {c' x' y':AX} {G:Bool} {K:PV->Prop} (hc:jG c=some c') (hx:jG x=some x') (hy:jG y=some y') (hs:iz nt ds s Γ a) (hG:G=true)
  (he:ev G s (.pick c' x' y') K):iS P Γ w (do Pure.pure (if←asBool (a.eval c)then a.eval x else a.eval y)) K:=by
 simp only[ev]at he
 obtain⟨p,hp,hr⟩:=cy hc hs hG he
 have rx:=wg hx hs
 have ry:=wg hy hs
 split at hp
 ·rename_i b
  have hb:=hr.bl
  have key:((do Pure.pure (if←asBool (a.eval c)then a.eval x else a.eval y):Sem Value)).run P w= .ok (if b then a.eval x else a.eval y) w:=by
   rw[hb];simp[asBool]
  split at hp<;>rename_i e1 e2<;>(try rw[e1]at rx)<;>(try rw[e2]at ry)
  ·refine⟨_,_,hp,key,?_⟩
   rw[rx.bl,ry.bl];cases b<;>exact jH
  ·refine⟨_,_,hp.2,key,?_⟩
   cases b with
   |true=>rw[rx.bl];exact jH
   |false=>rw[(ry.gd (hp.1 rfl)).bl];exact jH
  ·refine⟨_,_,hp.2,key,?_⟩
   cases b with
   |false=>rw[ry.bl];exact jH
   |true=>rw[(rx.gd (hp.1 rfl)).bl];exact jH
  ·refine⟨_,_,hp.2,key,?_⟩
   cases b with
   |false=>rw[(ry.gd (hp.1.2 rfl)).bl];exact jH
   |true=>rw[(rx.gd (hp.1.1 rfl)).bl];exact jH
  ·refine⟨_,_,hp.2,key,?_⟩
   rw[hp.1,rx.bl];exact jH
  ·refine⟨_,_,hp.2,key,?_⟩
   rw[hp.1,ry.bl];exact jH
  ·exact hp.elim
 ·exact hp.elim
theorem Ur {op:UnOp} {x:Operand} {y:AX} {G:Bool} {K:PV->Prop} (hx:jG x=some y) (hs:iz nt ds s Γ a) (hG:G=true) (he:ev G s (.un op y) K):
  iS P Γ w (Op.unary op (a.eval x)) K:=by
 simp only[ev]at he
 obtain⟨p,hp,hr⟩:=cy hx hs hG he
 split at hp
 ·exact⟨_,_,hp,by rw[hr.bl];rfl,jH⟩
 ·exact⟨_,_,hp,by rw[hr.int];rfl,dC⟩
 ·exact⟨_,_,hp,by rw[hr.int];rfl,dC⟩
 ·exact hp.elim
theorem IW {t d:TypeId} {k k':IntKind} {x:Operand} {y:AX} {G:Bool} {K:PV->Prop} (hx:jG x=some y) (hs:iz nt ds s Γ a) (hG:G=true)
  (ht:P.underlying t=some (.int k')) (hd:P.underlying d=some (.int k)) (he:ev G s (.convI k y) K):iS P Γ w (convert t d (a.eval x)) K:=by
 simp only[ev]at he
 obtain⟨p,hp,hr⟩:=cy hx hs hG he
 obtain⟨k2,n,hv,hK⟩:=gO hp hr
 exact⟨_,_,hK,by rw[hv];simp[convert,run_underlying ht,run_underlying hd,Conv.intToInt],dC⟩
theorem uM {p:PV} {l:List PV} {bs:List UInt8} (h:ir (p::l)=some bs):∃n r,p= .int .u8 n∧0≤n∧n<256∧ir l=some r∧bs=UInt8.ofNat n.toNat::r:=by
 cases p<;>(try(simp only[ir,reduceCtorEq]at h;done))
 rename_i k n
 cases k<;>(try(simp only[ir,reduceCtorEq]at h;done))
 simp only[ir]at h
 split at h
 ·rename_i hn
  split at h
  ·rename_i r hr
   simp only[sJ]at h
   exact⟨n,r,rfl,hn.1,hn.2,hr,h.symm⟩
  ·exact absurd h (by simp)
 ·exact absurd h (by simp)
theorem se:∀ {l:List PV} {bs:List UInt8},ir l=some bs->bs.length=l.length
 |[],bs,h=>by simp[ir]at h;subst h;rfl
 |
  p::l,bs,h=>by
  obtain⟨n,r,_,_,_,hr,rfl⟩:=uM h
  simp[se hr]
theorem DU {l:List PV}:∀ {bs:List UInt8} {cs:List Value},aD Γ l cs->ir l=some bs->cs.length=bs.length∧∀(i:Nat) c,cs[i]? =some c->∃n,c= .int .u8 n∧∃b,bs[i]? =some b∧b=UInt8.ofNat n.toNat:=by
 induction l with
 |nil=>intro bs cs h hb;cases h;simp[ir]at hb;subst hb;simp
 |
  cons p l ih=>
  intro bs cs h hb
  obtain⟨n,r,rfl,h0,h1,hr,rfl⟩:=uM hb
  cases h with
  |
   int k n hl=>
   obtain⟨i1,i2⟩:=ih hl hr
   refine⟨by simp[i1],λi c hc=> ?_⟩
   cases i with
   |zero=>simp at hc;subst hc;exact⟨n,rfl,_,by simp,rfl⟩
   |succ i=>simp at hc;simpa using i2 i c hc
theorem pI {p:PV} {v:Value} {K:Nat->List PV->Prop} (hs:iz nt ds s Γ a) (h:content s p K) (hr:aN Γ p v):
  ∃sz l cs ad bt,K sz l∧v= .slice ad l.length bt∧aD Γ l cs∧(l≠[]->∃b o,ad=some ⟨b,o,none⟩∧∀i c,cs[i]? =some c->cell Γ.heap b (o+i)=some c)∧l.length≤bt∧∀x∈l,x.width=sz:=by
 unfold content at h
 split at h
 ·rename_i sz l clip
  obtain⟨ad,bt,cs,hv,hl,hw,hc,hk,hb⟩:=hr.sl
  exact⟨sz,l,cs,ad,bt,h,hv,hl,λdF=>let⟨b,o,h1,_,_,h4⟩:=hb dF;⟨b,o,h1,h4⟩,hc,hw⟩
 ·rename_i k p off len aK sz c
  split at h
  ·rename_i cR l hb
   obtain⟨⟨h1,rfl,rfl,h4⟩,hK⟩:=h
   rw[←hs.bx]at hb
   obtain⟨ad,bt,hv,cY⟩:=hr.rs hb (by simpa[br.aK]using h1)
   have lH:=hs.mem.blk k _ hb
   obtain⟨hw,iA,lH⟩:=lH
   unfold jo at cY
   have hlen:((l.drop off).take len).length=len:=by simp;omega
   cases hι:Γ.ι k with
   |
    none=>
    rw[hι]at cY lH
    obtain⟨rfl,rfl,_⟩:=cY
    exact⟨sz,_,[],ad,0,hK,by rw[hlen];exact hv,by simpa using aD.nil,by simp,by simp,by simp⟩
   |
    some b=>
    rw[hι]at cY lH
    obtain⟨c',e,cs,rest,h5,h6,h7,_⟩:=lH
    obtain⟨h8,h9,_⟩:=cY
    have AS:cs.length=l.length*sz:=by rw[h7.length,bF hw]
    have RM:aD Γ ((l.drop off).take len) ((cs.drop (off*sz)).take (len*sz)):=by
     have e1:l=l.take off++((l.drop off).take len++(l.drop off).drop len):=by rw[List.take_append_drop,List.take_append_drop]
     rw[e1]at h7
     obtain⟨c1,v1,rfl,r1,r2⟩:=h7.split
     obtain⟨c2,v2,rfl,r3,r4⟩:=r2.split
     have l1:c1.length=off*sz:=by rw[r1.length,bF (λx hx=>hw x (List.mem_of_mem_take hx))];simp;rw[Nat.min_eq_left (by omega)]
     have l2:c2.length=len*sz:=by rw[r3.length,bF (λx hx=>hw x (List.mem_of_mem_drop (List.mem_of_mem_take hx))),hlen]
     rw[←l1,←l2];simpa using r3
    refine⟨sz,_,_,ad,bt,hK,by rw[hlen];exact hv,RM,λdF=> ?_,by rw[hlen];exact h8,λx hx=>hw x (List.mem_of_mem_drop (List.mem_of_mem_take hx))⟩
    have:0<len:=by
     rcases Nat.eq_zero_or_pos len with h|h
     ·subst h;simp at dF
     ·exact h
    rcases h9 with h9|rfl
    ·omega
    refine⟨b,_,rfl,?_⟩
    have:=nr (mf h5 cs rest h6) (off*sz) (len*sz)
    simpa[cG]using this
  ·rename_i v' hb
   split at h
   ·rename_i cR n l G8
    obtain⟨⟨h1,rfl,h4⟩,hK⟩:=h
    rw[←hs.bx]at hb
    obtain⟨ad,bt,hv,cY⟩:=hr.rs hb (by simpa[br.aK]using h1)
    unfold jo at cY
    cases hι:Γ.ι k with
    |
     none=>
     have lH:=hs.mem.blk k _ hb
     obtain⟨b,_,_,h5,_⟩:=lH
     rw[hι]at h5;exact absurd h5 (by simp)
    |
     some b=>
     rw[hι]at cY
     obtain⟨h8,h9,_⟩:=cY
     obtain⟨cs,v8,xr⟩:=hs.mem.at hb hι (by simpa[ku]using G8)
     obtain⟨hl,hn,hw⟩:=v8.oM
     have hlen:((l.drop off).take len).length=len:=by simp;omega
     have RM:aD Γ ((l.drop off).take len) ((cs.drop (off*sz)).take (len*sz)):=by
      have e1:l=l.take off++((l.drop off).take len++(l.drop off).drop len):=by rw[List.take_append_drop,List.take_append_drop]
      rw[e1]at hl
      obtain⟨c1,v1,rfl,r1,r2⟩:=hl.split
      obtain⟨c2,v2,rfl,r3,r4⟩:=r2.split
      have l1:c1.length=off*sz:=by rw[r1.length,bF (λx hx=>hw x (List.mem_of_mem_take hx))];simp;rw[Nat.min_eq_left (by omega)]
      have l2:c2.length=len*sz:=by rw[r3.length,bF (λx hx=>hw x (List.mem_of_mem_drop (List.mem_of_mem_take hx))),hlen]
      rw[←l1,←l2];simpa using r3
     refine⟨sz,_,_,ad,bt,hK,by rw[hlen];exact hv,RM,λdF=> ?_,by rw[hlen];exact h8,λx hx=>hw x (List.mem_of_mem_drop (List.mem_of_mem_take hx))⟩
     have:0<len:=by
      rcases Nat.eq_zero_or_pos len with h|h
      ·subst h;simp at dF
      ·exact h
     rcases h9 with h9|rfl
     ·omega
     refine⟨b,_,rfl,?_⟩
     exact nr xr (off*sz) (len*sz)
   ·exact h.elim
  ·exact h.elim
 ·exact h.elim
theorem KF {f:Value->ByteArray->Sem (ForInStep ByteArray)} (hf:∀n s,f (.int .u8 n) s=Pure.pure (ForInStep.yield (s.push (UInt8.ofNat n.toNat)))):∀(cs:List Value) (bs:List UInt8) (acc:ByteArray),cs.length=bs.length->(∀(i:Nat) c,cs[i]? =some c->∃n,c= .int .u8 n∧∃b,bs[i]? =some b∧b=UInt8.ofNat n.toNat)->
  ∃r:ByteArray,(forIn (m:=Sem) cs acc f).run P w= .ok r w∧r.data.toList=acc.data.toList++bs:=by
 intro cs
 induction cs with
 |
  nil=>
  intro bs acc hl _
  have:bs=[]:=by simpa using hl.symm
  subst this
  exact⟨acc,by simp,by simp⟩
 |
  cons c cs ih=>
  intro bs acc hl h
  obtain⟨n,rfl,b,hb,rfl⟩:=h 0 c rfl
  cases bs with
  |nil=>simp at hl
  |
   cons b bs=>
   simp at hb;subst hb
   obtain⟨r,tt,pG⟩:=ih bs (acc.push (UInt8.ofNat n.toNat)) (by simpa using hl) (λi c hc=>by simpa using h (i+1) c (by simpa using hc))
   refine⟨r,?_,by rw[pG];simp⟩
   simp only[List.forIn_cons,hf,bJ,Sem.run_pure,rJ]
   exact tt
theorem IX {t d e:TypeId} {x:Operand} {y:AX} {G:Bool} {K:PV->Prop} (hx:jG x=some y) (hs:iz nt ds s Γ a) (hw:w.heap=Γ.heap) (hG:G=true)
  (ht:P.underlying t=some (.slice e)) (hd:P.underlying d=some .string) (hee:P.underlying e=some (.int .u8)) (he:ev G s (.convS y) K):iS P Γ w (convert t d (a.eval x)) K:=by
 simp only[ev]at he
 obtain⟨p,hp,hr⟩:=cy hx hs hG he
 obtain⟨sz,l,cs,ad,bt,⟨rfl,hK⟩,hv,hl,mX,hle,_⟩:=pI hs hp hr
 split at hK
 ·rename_i bs hbs
  obtain⟨h1,h2⟩:=DU hl hbs
  have hlen:l.length=cs.length:=by rw[h1,se hbs]
  have key:∃r:ByteArray,(Conv.bytesToString (a.eval x)).run P w= .ok (.string r) w∧r.data.toList=bs:=by
   rw[hv]
   cases IF:l with
   |
    nil=>
    subst IF
    simp at hlen
    have akD:bs=[]:=by
     simp[ir]at hbs;exact hbs
    subst akD
    refine⟨.empty,?_,rfl⟩
    cases ad with
    |none=>rfl
    |
     some ad=>
     simp only[Conv.bytesToString,List.length_nil,loadCells,loadCellsFrom,bJ,Sem.run_pure,rJ]
     simp
   |
    cons z zs=>
    obtain⟨b,o,rfl,hc⟩:=mX (by simp[IF])
    rw[←IF,hlen]
    simp only[Conv.bytesToString,bJ]
    rw[run_loadCells_list w ⟨b,o,none⟩ cs (λj v hj=>by rw[jL,cell?_eq,hw];exact hc j v hj)]
    simp only[rJ,←Array.forIn_toList]
    generalize hf:(λ(c:Value) (__s:ByteArray)=>(_:Sem (ForInStep ByteArray)))=f
    obtain⟨r,tt,pG⟩:=KF (P:=P) (w:=w) (f:=f) (by intro n s;rw[←hf]) cs bs .empty h1 h2
    exact⟨r,by rw[tt];rfl,by simpa using pG⟩
  obtain⟨r,tt,pG⟩:=key
  refine⟨_,_,hK,?_,qv pG⟩
  rw[hv]at tt⊢
  simp[convert,run_underlying ht,run_underlying hd,run_underlying hee,tt]
 ·exact hK.elim
end Go.Ab
namespace Go.Ab
variable [eo]
variable {P:Program} {nt:Nat} {ds:List Deferred} {s:St} {Γ:Cx} {a:Act} {w:World}
theorem mF {x:Option Operand} {y:Option AX} (h:Cv x=some y):(x=none∧y=none)∨∃o z,x=some o∧y=some z∧jG o=some z:=by
 cases x with
 |none=>simp[Cv]at h;exact .inl ⟨rfl,h.symm⟩
 |
  some o=>
  simp only[Cv]at h
  split at h
  ·rename_i z hz;simp only[sJ]at h;exact .inr ⟨o,z,rfl,h.symm,hz⟩
  ·exact absurd h (by simp)
theorem sf {G b:Bool} {lo hi:Option Operand} {Fz jf:Option AX} {len cap uv:Nat} {K:Nat->Nat->Prop} (hl:Cv lo=some Fz) (hh:Cv hi=some jf) (hs:iz nt ds s Γ a) (hG:G=true)
  (uw:cap≤uv) (hle:len≤cap) (h:kU G s Fz jf len cap K):
  ∃l h,K l h∧l≤h∧h≤cap∧(Instr.sliceBounds b len uv (lo.map a.eval) (hi.map a.eval) none).run P w= .ok (l,h,uv) w:=by
 unfold kU at h
 rcases mF hh with⟨rfl,rfl⟩|⟨ho,hz,rfl,rfl,hhx⟩<;>rcases mF hl with⟨rfl,rfl⟩|⟨lo1,lz,rfl,rfl,hlx⟩<;>simp only at h
 ·exact⟨0,len,h,Nat.zero_le _,hle,rfl⟩
 ·obtain⟨p,hp,hr⟩:=cy hlx hs hG h
  obtain⟨k,n,hv,⟨h0,h1⟩,hK⟩:=gO hp hr
  refine⟨n.toNat,len,hK,by omega,hle,?_⟩
  simp only[Instr.sliceBounds,Option.map_none,Option.map_some,hv,Instr.sliceBound,asIntOf,bJ,Sem.run_pure,rJ]
  rw[if_pos ⟨h0,h1⟩];rfl
 ·obtain⟨p,hp,hr⟩:=cy hhx hs hG h
  obtain⟨k,n,hv,⟨h0,h1⟩,hK⟩:=gO hp hr
  refine⟨0,n.toNat,hK,Nat.zero_le _,by omega,?_⟩
  simp only[Instr.sliceBounds,Option.map_none,Option.map_some,hv,Instr.sliceBound,asIntOf,bJ,Sem.run_pure,rJ]
  rw[if_pos ⟨h0,by omega⟩];rfl
 ·obtain⟨p,hp,hr⟩:=cy hhx hs hG h
  obtain⟨k,n,hv,⟨h0,h1⟩,hK⟩:=gO hp hr
  obtain⟨p2,qo,pG⟩:=cy hlx hs hG hK
  obtain⟨k2,n2,mD,⟨h2,h3⟩,nn⟩:=gO qo pG
  refine⟨n2.toNat,n.toNat,nn,by omega,by omega,?_⟩
  simp only[Instr.sliceBounds,Option.map_some,hv,mD,Instr.sliceBound,asIntOf,bJ,Sem.run_pure,rJ]
  rw[if_pos ⟨h0,by omega⟩]
  simp only[Sem.run_pure,rJ]
  rw[if_pos ⟨h2,by omega⟩];rfl
theorem uN {G:Bool} {lo hi:Option Operand} {Fz jf:Option AX} {mo:Operand} {m:Int} {km:IntKind} {len uv:Nat} {K:Nat->Nat->Prop} (hl:Cv lo=some Fz) (hh:Cv hi=some jf) (hhi:jf.isSome=true) (hs:iz nt ds s Γ a) (hG:G=true)
  (hm:a.eval mo= .int km m) (Ns:0≤m) (DP:m≤uv) (h:kU G s Fz jf len m.toNat K):
  ∃l h,K l h∧l≤h∧h≤m.toNat∧(Instr.sliceBounds true len uv (lo.map a.eval) (hi.map a.eval) (some (a.eval mo))).run P w= .ok (l,h,m.toNat) w:=by
 unfold kU at h
 rcases mF hh with⟨rfl,rfl⟩|⟨ho,hz,rfl,rfl,hhx⟩
 ·simp at hhi
 rcases mF hl with⟨rfl,rfl⟩|⟨lo1,lz,rfl,rfl,hlx⟩<;>simp only at h
 ·obtain⟨p,hp,hr⟩:=cy hhx hs hG h
  obtain⟨k,n,hv,⟨h0,h1⟩,hK⟩:=gO hp hr
  refine⟨0,n.toNat,hK,Nat.zero_le _,by omega,?_⟩
  simp only[Instr.sliceBounds,Option.map_none,Option.map_some,hv,hm,Instr.sliceBound,asIntOf,bJ,Sem.run_pure,rJ]
  rw[if_pos ⟨Ns,DP⟩]
  simp only[Sem.run_pure,rJ]
  rw[if_pos ⟨h0,by omega⟩];rfl
 ·obtain⟨p,hp,hr⟩:=cy hhx hs hG h
  obtain⟨k,n,hv,⟨h0,h1⟩,hK⟩:=gO hp hr
  obtain⟨p2,qo,pG⟩:=cy hlx hs hG hK
  obtain⟨k2,n2,mD,⟨h2,h3⟩,nn⟩:=gO qo pG
  refine⟨n2.toNat,n.toNat,nn,by omega,by omega,?_⟩
  simp only[Instr.sliceBounds,Option.map_some,hv,mD,hm,Instr.sliceBound,asIntOf,bJ,Sem.run_pure,rJ]
  rw[if_pos ⟨Ns,DP⟩]
  simp only[Sem.run_pure,rJ]
  rw[if_pos ⟨h0,by omega⟩]
  simp only[Sem.run_pure,rJ]
  rw[if_pos ⟨h2,by omega⟩];rfl
theorem Bg {t:TypeId} {x:Operand} {lo hi mx:Option Operand} {x':AX} {Fz jf Kn:Option AX} {G:Bool} {K:PV->Prop} (hx:jG x=some x') (hl:Cv lo=some Fz) (hh:Cv hi=some jf) (hm:Cv mx=some Kn)
  (hs:iz nt ds s Γ a) (hG:G=true) (hu:P.underlying t=some .string) (he:ev G s (.slice .str x' Fz jf Kn) K):
  iS P Γ w (Instr.sliceAt t (a.eval x) (lo.map a.eval) (hi.map a.eval) (mx.map a.eval)) K:=by
 simp only[ev]at he
 obtain⟨p,hp,hr⟩:=cy hx hs hG he
 split at hp
 ·rename_i bs
  obtain⟨str,hv,hd⟩:=hr.str
  obtain⟨hmx,hp⟩:=hp
  rcases mF hm with⟨rfl,rfl⟩|⟨o,z,rfl,rfl,_⟩
  rotate_left
  ·simp at hmx
  have iA:bs.length=str.size:=by rw[←hd];exact Array.length_toList
  obtain⟨l,h,hK,h1,h2,h3⟩:=sf (P:=P) (w:=w) (b:=false) hl hh hs hG (Nat.le_refl _) (Nat.le_refl _) hp
  refine⟨_,.string (str.extract l h),hK,?_,qv ?_⟩
  ·rw[hv]
   rw[iA]at h3
   simp only[Instr.sliceAt,Instr.slice,bJ,run_underlying hu,rJ,Option.map_none,Option.isSome_none,fJ,if_false,h3]
   rfl
  ·rw[←hd]
   simp[List.drop_take]
 ·exact hp.elim
theorem aD.sub {l:List PV} {sz:Nat} {cs:List Value} (h:aD Γ l cs) (hw:∀x∈l,x.width=sz) (lo hi:Nat) (Ko:lo≤hi) (hhi:hi≤l.length):
  aD Γ ((l.take hi).drop lo) ((cs.drop (lo*sz)).take ((hi-lo)*sz)):=by
 have e0:(l.take hi).drop lo=(l.drop lo).take (hi-lo):=by rw[List.drop_take]
 rw[e0]
 have e1:l=l.take lo++((l.drop lo).take (hi-lo)++(l.drop lo).drop (hi-lo)):=by rw[List.take_append_drop,List.take_append_drop]
 rw[e1]at h
 obtain⟨c1,v1,rfl,r1,r2⟩:=h.split
 obtain⟨c2,v2,rfl,r3,r4⟩:=r2.split
 have l1:c1.length=lo*sz:=by rw[r1.length,bF (λx hx=>hw x (List.mem_of_mem_take hx))];simp;rw[Nat.min_eq_left (by omega)]
 have l2:c2.length=(hi-lo)*sz:=by rw[r3.length,bF (λx hx=>hw x (List.mem_of_mem_drop (List.mem_of_mem_take hx)))];simp;rw[Nat.min_eq_left (by omega)]
 rw[←l1,←l2];simpa using r3
theorem KG {sz:Nat} {l:List PV} {cs:List Value} {ad:Option Addr} {AT:Nat} {clip:Bool} (hl:aD Γ l cs) (hw:∀x∈l,x.width=sz) (lo hi:Nat) (Ko:lo≤hi) (hhi:hi≤l.length)
  (hb:l≠[]->∃b o,ad=some ⟨b,o,none⟩∧b<Γ.heap.size∧¬Γ.own b∧∀i c,cs[i]? =some c->cell Γ.heap b (o+i)=some c)
  (hc:hi-lo≤AT) (Nt:clip=true->AT=hi-lo):
  aN Γ (.sl sz ((l.take hi).drop lo) clip) (.slice (if AT=0 then ad else ad.map (·.add (lo*sz))) (hi-lo) AT):=by
 have hlen:((l.take hi).drop lo).length=hi-lo:=by simp;omega
 have:=aD.sl (Γ:=Γ) sz ((l.take hi).drop lo) clip (if AT=0 then ad else ad.map (·.add (lo*sz))) AT (hl.sub hw lo hi Ko hhi) (λx hx=>hw x (List.mem_of_mem_take (List.mem_of_mem_drop hx)))
  (by rw[hlen];exact hc) (by rw[hlen];exact Nt) (λdF=>by
   have kz:0<hi-lo:=by
    rcases Nat.eq_zero_or_pos (hi-lo)with h|h
    ·exact absurd (List.eq_nil_of_length_eq_zero (by omega)) dF
    ·exact h
   obtain⟨b,o,rfl,h1,h2,h3⟩:=hb (by intro h;subst h;simp at hhi;omega)
   rw[if_neg (by omega)]
   exact⟨b,o+lo*sz,by simp[jL],h1,h2,nr h3 (lo*sz) ((hi-lo)*sz)⟩) .nil
 rw[hlen]at this
 simpa only[aN]using this
theorem CA {t e:TypeId} {x:Operand} {lo hi mx:Option Operand} {x':AX} {Fz jf Kn:Option AX} {G:Bool} {K:PV->Prop} {n:Nat} (hx:jG x=some x') (hl:Cv lo=some Fz) (hh:Cv hi=some jf) (hm:Cv mx=some Kn)
  (hmh:Kn.isSome=true->jf.isSome=true) (hs:iz nt ds s Γ a) (hG:G=true) (hu:P.underlying t=some (.slice e)) (hn:jz P e=some n) (he:ev G s (.slice (.sl n) x' Fz jf Kn) K):
  iS P Γ w (Instr.sliceAt t (a.eval x) (lo.map a.eval) (hi.map a.eval) (mx.map a.eval)) K:=by
 simp only[ev]at he
 obtain⟨p,hp,hr⟩:=cy hx hs hG he
 have key:∀(ad:Option Addr) (len cap l h m:Nat),(Instr.sliceBounds true len cap (lo.map a.eval) (hi.map a.eval) (mx.map a.eval)).run P w= .ok (l,h,m) w->
   (Instr.sliceAt t (.slice ad len cap) (lo.map a.eval) (hi.map a.eval) (mx.map a.eval)).run P w= .ok (.slice (if m=l then ad else ad.map (·.add (l*n))) (h-l) (m-l)) w:=by
  intro ad len cap l h m hb
  simp only[Instr.sliceAt,Instr.slice,bJ,run_underlying hu,rJ,hb,run_sizeOf hn]
  rfl
 have ifeq:∀(ad:Option Addr) (l m:Nat),l≤m->(if m=l then ad else ad.map (·.add (l*n)))=if m-l=0 then ad else ad.map (·.add (l*n)):=by
  intro ad l m h;by_cases h':m=l
  ·simp[h']
  ·rw[if_neg h',if_neg (by omega)]
 split at hp
 ·rename_i cR l clip
  obtain⟨ad,bt,cs,hv,hL,hw,hc,hk,hb⟩:=hr.sl
  rcases mF hm with⟨rfl,rfl⟩|⟨mo,mz,rfl,rfl,T5⟩
  ·obtain⟨lo1,uG,⟨rfl,hK⟩,h1,h2,h3⟩:=sf (P:=P) (w:=w) (b:=true) (uv:=bt) hl hh hs hG hc (Nat.le_refl _) hp
   refine⟨_,_,hK,by rw[hv];exact key _ _ _ _ _ _ h3,?_⟩
   rw[ifeq _ _ _ (by omega)]
   exact KG hL hw lo1 uG h1 h2 hb (by omega) (λqV=>by simp at qV;have:=hk qV.1;omega)
  ·simp only at hp
   obtain⟨q,hq,pG⟩:=cy T5 hs hG hp
   obtain⟨km,m,hmv,⟨Ns,DP⟩,hK⟩:=gO hq pG
   obtain⟨lo1,uG,⟨rfl,hK⟩,h1,h2,h3⟩:=uN (P:=P) (w:=w) (uv:=bt) hl hh (hmh rfl) hs hG hmv Ns (by omega) hK
   refine⟨_,_,hK,by rw[hv];exact key _ _ _ _ _ _ h3,?_⟩
   rw[ifeq _ _ _ (by omega)]
   exact KG hL hw lo1 uG h1 (by omega) hb (by omega) (λqV=>by simp at qV;omega)
 ·rename_i k p off len aK cR c
  split at hp
  ·rename_i blk hb
   obtain⟨⟨h1,rfl⟩,hp⟩:=hp
   rw[←hs.bx]at hb
   obtain⟨ad,bt,hv,cY⟩:=hr.rs hb h1
   have hlen:len≤bt:=by
    unfold jo at cY
    split at cY<;>omega
   have Hq:og c len bt:=by
    unfold jo at cY
    split at cY
    ·exact cY.2.2
    ·exact cY.2.2.1
   have hcx:Bc c off len aK≤bt:=by
    cases c<;>simp only[Bc]<;>try exact hlen
    simp only[og]at Hq
    split<;>omega
   have qV:len≤Bc c off len aK:=by
    cases c<;>simp only[Bc]<;>try exact Nat.le_refl _
    split<;>omega
   have mk:∀(lo1 uG m:Nat) (c':iC),lo1≤uG->uG≤m->m≤bt->og c' (uG-lo1) (m-lo1)->(c'= .tip->c= .tip∧m=bt)->
     aN Γ (.rs k p (off+lo1) (uG-lo1) aK cR c') (.slice (if m-lo1=0 then ad else ad.map (·.add (lo1*cR))) (uG-lo1) (m-lo1)):=by
    intro lo1 uG m c' g1 g3 g4 g5 g6
    simp only[aN]
    refine .rs k p _ _ aK cR c' _ blk ⟨hb,by omega⟩ rfl (λ_=>⟨_,_,rfl,?_⟩) .nil
    unfold jo at cY⊢
    cases hι:Γ.ι k with
    |none=>rw[hι]at cY;exact⟨by omega,by omega,g5⟩
    |
     some b=>
     rw[hι]at cY
     obtain⟨o1,o2,o3,o4⟩:=cY
     refine⟨by omega,?_,g5,λhc=> ?_⟩
     ·by_cases hz:m-lo1=0
      ·exact .inl hz
      ·right
       rw[if_neg hz]
       rcases o2 with o2|rfl
       ·omega
       ·simp[jL,Nat.add_mul];omega
     ·obtain⟨g7,g8⟩:=g6 hc
      obtain⟨q1,cs,e',q2,q3⟩:=o4 g7
      refine⟨q1,cs,e',q2,?_⟩
      rw[←q3,g8];congr 1;omega
   rcases mF hm with⟨rfl,rfl⟩|⟨mo,mz,rfl,rfl,T5⟩
   ·obtain⟨lo1,uG,hK,g1,g2,g3⟩:=sf (P:=P) (w:=w) (b:=true) (uv:=bt) hl hh hs hG hcx qV hp
    refine⟨_,_,hK,by rw[hv];exact key _ _ _ _ _ _ g3,?_⟩
    rw[ifeq _ _ _ (by omega)]
    refine mk lo1 uG bt _ g1 (by omega) (Nat.le_refl _) ?_ (λhc=> ?_)
    ·cases c with
     |tip=>trivial
     |any=>trivial
     |full n=>simp only[Cu,og]at Hq⊢;omega
     |
      clip=>
      simp only[Cu,og,Bc]at Hq⊢g2
      by_cases e:uG=len
      ·simp[e];omega
      ·simp[e]
    ·cases c<;>simp only[Cu]at hc
     ·exact⟨rfl,rfl⟩
     ·split at hc<;>cases hc
     ·cases hc
     ·cases hc
   ·simp only at hp
    obtain⟨q,hq,pG⟩:=cy T5 hs hG hp
    obtain⟨km,m,hmv,⟨Ns,DP⟩,hK⟩:=gO hq pG
    obtain⟨lo1,uG,hK,g1,g2,g3⟩:=uN (P:=P) (w:=w) (uv:=bt) hl hh (hmh rfl) hs hG hmv Ns (by omega) hK
    refine⟨_,_,hK,by rw[hv];exact key _ _ _ _ _ _ g3,?_⟩
    rw[ifeq _ _ _ (by omega)]
    refine mk lo1 uG m.toNat _ g1 g2 (by omega) ?_ (λhc=> ?_)
    ·split
     ·simp only[og];omega
     ·trivial
    ·split at hc<;>simp at hc
  ·exact hp.elim
 ·exact hp.elim
theorem CC {t e:TypeId} {x:Operand} {lo hi mx:Option Operand} {x':AX} {Fz jf Kn:Option AX} {G:Bool} {K:PV->Prop} {len n:Nat} (hx:jG x=some x') (hl:Cv lo=some Fz) (hh:Cv hi=some jf) (hm:Cv mx=some Kn)
  (hs:iz nt ds s Γ a) (hG:G=true) (hu:P.underlying t=some (.array len e)) (hn:jz P e=some n) (he:ev G s (.slice (.ar len n) x' Fz jf Kn) K):
  iS P Γ w (Instr.sliceAt t (a.eval x) (lo.map a.eval) (hi.map a.eval) (mx.map a.eval)) K:=by
 simp only[ev]at he
 obtain⟨p,hp,hr⟩:=cy hx hs hG he
 split at hp
 ·rename_i k p aK
  split at hp
  ·rename_i blk hb
   obtain⟨h1,hmx,hp⟩:=hp
   rw[←hs.bx]at hb
   obtain⟨b,hι,hv⟩:=hr.pt hb h1
   rcases mF hm with⟨rfl,rfl⟩|⟨mo,mz,rfl,rfl,T5⟩
   rotate_left
   ·simp at hmx
   obtain⟨lo1,uG,hK,g1,g2,g3⟩:=sf (P:=P) (w:=w) (b:=false) (uv:=len) hl hh hs hG (Nat.le_refl _) (Nat.le_refl _) hp
   refine⟨_,.slice (some (if len=lo1 then⟨b,cG p,none⟩else Addr.add ⟨b,cG p,none⟩ (lo1*n))) (uG-lo1) (len-lo1),hK,?_,?_⟩
   ·rw[hv]
    simp only[Instr.sliceAt,bJ,run_underlying hu,rJ,Instr.sureAddr,Sem.run_pure,Option.map_none,g3,run_sizeOf hn]
   ·simp only[aN]
    refine .rs k p _ _ aK n _ _ blk ⟨hb,by omega⟩ rfl (λ_=>⟨_,_,rfl,?_⟩) .nil
    unfold jo
    rw[hι]
    refine⟨by omega,?_,?_,λhc=> ?_⟩
    ·by_cases hz:len=lo1
     ·left;omega
     ·right;simp[hz,jL]
    ·split
     ·simp only[og];omega
     ·trivial
    ·split at hc<;>simp at hc
  ·exact hp.elim
 ·rename_i z l q
  split at hp
  ·rename_i z' n' l' hu'
   obtain⟨⟨rfl,rfl,hmx⟩,hp⟩:=hp
   obtain⟨b,o,cs,hv,hL,mY,hmm,hc⟩:=hr.fp
   obtain⟨h4,h5⟩:=y7 hL mY hu'
   obtain⟨h6,h7,h8⟩:=aD.oM h5
   rcases mF hm with⟨rfl,rfl⟩|⟨mo,mz,rfl,rfl,T5⟩
   rotate_left
   ·simp at hmx
   obtain⟨lo1,uG,hK,g1,g2,g3⟩:=sf (P:=P) (w:=w) (b:=false) (uv:=n') hl hh hs hG (Nat.le_refl _) (Nat.le_refl _) hp
   refine⟨_,.slice (some (if n'=lo1 then⟨b,o+cG q,none⟩else Addr.add ⟨b,o+cG q,none⟩ (lo1*z'))) (uG-lo1) (n'-lo1),hK,?_,?_⟩
   ·rw[hv]
    simp only[Instr.sliceAt,bJ,run_underlying hu,rJ,Instr.sureAddr,Sem.run_pure,Option.map_none,g3,run_sizeOf hn]
   ·have hm:=KG (ad:=some ⟨b,o+cG q,none⟩) (AT:=n'-lo1) (clip:=decide (uG=n')) h6 h8 lo1 uG g1 (by omega) (λ_=>⟨b,o+cG q,rfl,hmm.1,hmm.2,nr hc (cG q) _⟩) (by omega) (λh=>by simp at h;omega)
    have e:(if n'-lo1=0 then some (⟨b,o+cG q,none⟩:Addr)else((some (⟨b,o+cG q,none⟩:Addr)).map (·.add (lo1*z'))))=some (if n'=lo1 then⟨b,o+cG q,none⟩else Addr.add ⟨b,o+cG q,none⟩ (lo1*z')):=by
     by_cases hz:n'=lo1
     ·simp[hz]
     ·rw[if_neg (by omega),if_neg hz];rfl
    rw[e]at hm
    exact hm
  ·exact hp.elim
 ·exact hp.elim
end Go.Ab
namespace Go.Ab
variable [eo]
variable {P:Program} {nt:Nat} {ds:List Deferred} {s:St} {Γ:Cx} {a:Act} {w:World}
theorem nN {x:Sh} {p:PV} (h:fits x p=true):p.isAgg=x.agg:=by
 cases x<;>cases p<;>simp[fits]at h<;>rfl
theorem qY {x:Sh} {p:PV} (h:fits x p=true):p.width=rZ x:=by
 cases x<;>cases p<;>simp only[fits,fJ,aJ,decide_eq_true_eq]at h<;>(try rfl)
 ·simp only[PV.width,rZ];exact h.1
 ·simp only[PV.width,rZ];rw[h.1.1,h.1.2.1]
theorem qw {t:TypeId} {p:PV} {cs c1 rest pre:List Value} {o:Nat} (hr:aD Γ [p] c1) (hc:cs=pre++(c1++rest)) (ho:pre.length=o) (hg:nM P t=some p.isAgg) (hn:jz P t=some p.width):
  ∃v,(part t cs.toArray o).run P w= .ok v w∧aN Γ p v:=by
 have hl:=hr.iR
 subst hc
 cases ha:p.isAgg with
 |
  true=>
  refine⟨.agg c1.toArray,?_,aN.sd hr ha⟩
  rw[ha]at hg
  simp only[part,bJ,sO hg,rJ,if_true,run_sizeOf hn,Sem.run_pure]
  congr 2
  apply Array.ext'
  simp[←hl,←ho]
 |
  false=>
  have h1:p.width=1:=by cases p<;>simp[PV.isAgg]at ha<;>rfl
  rw[h1]at hl
  obtain⟨v,rfl⟩:=List.length_eq_one_iff.1 hl
  refine⟨v,?_,aN.Cz hr ha⟩
  rw[ha]at hg
  simp only[part,bJ,sO hg,rJ,fJ,if_false]
  have:(pre++([v]++rest)).toArray[o]? =some v:=by
   simp[←ho]
  rw[this];rfl
def EqAt (P:Program) (Γ:Cx) (d:Nat) (t:TypeId) (x:Sh):Prop:=
 ∀(w:World) (p q:PV) (v u:Value),fits x p=true->fits x q=true->aN Γ p v->aN Γ q u->(Op.equalIn d t v u).run P w= .ok (PV.beq p q) w
theorem BF {d:Nat} {xs ys:List Value}:∀(fs:List Field) (l:List Sh) (ps qs:List PV) (pre1 pre2 c1 c2:List Value) (o:Nat) (w:World),
  xs=pre1++c1->ys=pre2++c2->pre1.length=o->pre2.length=o->aD Γ ps c1->aD Γ qs c2->kd l ps=true->kd l qs=true->
  fs.all (λf=>f.name != "_")=true->fs.map (·.offset)=Cy o l->fs.map (λf=>jz P f.type)=l.map (λx=>some (rZ x))->
  fs.map (λf=>nM P f.type)=l.map (λx=>some x.agg)->(∀(i:Nat) f x,fs[i]? =some f->l[i]? =some x->EqAt P Γ d f.type x)->
  (Op.eqFields d xs.toArray ys.toArray fs).run P w= .ok (PV.oN ps qs) w
 |
  [],l,ps,qs,pre1,pre2,c1,c2,o,w,hx,hy,ho1,ho2,h1,h2,f1,f2,hn,FA,iA,hag,eO=>by
  cases l with
  |nil=>cases ps<;>cases qs<;>simp[kd]at f1 f2;simp[Op.eqFields,PV.oN]
  |cons=>simp at iA
 |
  f::fs,l,ps,qs,pre1,pre2,c1,c2,o,w,hx,hy,ho1,ho2,h1,h2,f1,f2,hn,FA,iA,hag,eO=>by
  cases l with
  |nil=>simp at iA
  |
   cons x l=>
   cases ps with
   |nil=>simp[kd]at f1
   |
    cons p ps=>
    cases qs with
    |nil=>simp[kd]at f2
    |
     cons q qs=>
     simp only[kd,aJ]at f1 f2
     simp only[List.map_cons,List.cons.injEq,Cy]at FA iA hag
     simp only[List.all_cons,aJ]at hn
     obtain⟨a1,b1,rfl,r1,r2⟩:=h1.qb
     obtain⟨a2,b2,rfl,r3,r4⟩:=h2.qb
     have wp:=qY f1.1
     have wq:=qY f2.1
     have ap:=nN f1.1
     have aq:=nN f2.1
     have aeN:nM P f.type=some x.agg:=hag.1
     obtain⟨v,hv,hv'⟩:=qw (P:=P) (w:=w) (t:=f.type) r1 hx (ho1.trans FA.1.symm) (by rw[ap];exact aeN) (by rw[wp];exact iA.1)
     obtain⟨u,hu,hu'⟩:=qw (P:=P) (w:=w) (t:=f.type) r3 hy (ho2.trans FA.1.symm) (by rw[aq];exact aeN) (by rw[wq];exact iA.1)
     have he:=eO 0 f x rfl rfl w p q v u f1.1 f2.1 hv' hu'
     have ih:=BF (xs:=xs) (ys:=ys) fs l ps qs (pre1++a1) (pre2++a2) b1 b2 (o+rZ x) w (by rw[hx];simp) (by rw[hy];simp) (by simp[ho1,r1.iR,wp]) (by simp[ho2,r3.iR,wq]) r2 r4 f1.2 f2.2 hn.2 FA.2 iA.2 hag.2
      (λi g y hg hy=>eO (i+1) g y (by simpa using hg) (by simpa using hy))
     have dF:f.name≠ "_" :=by simpa using hn.1
     simp only[Op.eqFields,dF,ne_eq,not_false_eq_true,if_true,bJ,hv,hu,he,rJ,PV.oN]
     by_cases hb:PV.beq p q=true
     ·simpa[hb]using ih
     ·simp[hb]
theorem KH {d len n:Nat} {t:TypeId} {e:Sh} {xs ys:List Value} (hn:n=rZ e) (hg:nM P t=some e.agg) (hz:jz P t=some n) (heq:EqAt P Γ d t e):
  ∀
   (ps qs:List PV) (pre1 pre2 c1 c2:List Value) (i:Nat) (w:World),xs=pre1++c1->ys=pre2++c2->pre1.length=i*n->pre2.length=i*n->aD Γ ps c1->aD Γ qs c2->tu e ps=true->tu e qs=true->
   ps.length=len->qs.length=len->
   (forIn (m:=Sem) (List.range' i len 1) ((none,()):Option Bool×Unit) λi __s=>do
      let __do_lift←part t xs.toArray (i*n)
      let __do_lift_1←part t ys.toArray (i*n)
      let __do_lift←Op.equalIn d t __do_lift __do_lift_1
      if(!__do_lift)=true then pure (ForInStep.done (some false,()))else pure (ForInStep.yield (none,()))).run P w= .ok (if PV.oN ps qs then none else some false,()) w:=by
 induction len with
 |
  zero=>
  intro ps qs pre1 pre2 c1 c2 i w _ _ _ _ _ _ _ _ l1 l2
  have e1:=List.eq_nil_of_length_eq_zero l1
  have e2:=List.eq_nil_of_length_eq_zero l2
  subst e1 e2
  simp[PV.oN]
 |
  succ len ih=>
  intro ps qs pre1 pre2 c1 c2 i w hx hy ho1 ho2 h1 h2 f1 f2 l1 l2
  cases ps with
  |nil=>simp at l1
  |
   cons p ps=>
   cases qs with
   |nil=>simp at l2
   |
    cons q qs=>
    simp only[tu,aJ]at f1 f2
    obtain⟨a1,b1,rfl,r1,r2⟩:=h1.qb
    obtain⟨a2,b2,rfl,r3,r4⟩:=h2.qb
    have wp:=qY f1.1
    have wq:=qY f2.1
    have ap:=nN f1.1
    have aq:=nN f2.1
    obtain⟨v,hv,hv'⟩:=qw (P:=P) (w:=w) (t:=t) r1 hx ho1 (by rw[ap];exact hg) (by rw[wp,←hn];exact hz)
    obtain⟨u,hu,hu'⟩:=qw (P:=P) (w:=w) (t:=t) r3 hy ho2 (by rw[aq];exact hg) (by rw[wq,←hn];exact hz)
    have he:=heq w p q v u f1.1 f2.1 hv' hu'
    have ih':=ih ps qs (pre1++a1) (pre2++a2) b1 b2 (i+1) w (by rw[hx];simp) (by rw[hy];simp) (by simp[ho1,r1.iR,wp,Nat.add_mul];omega) (by simp[ho2,r3.iR,wq,Nat.add_mul];omega) r2 r4 f1.2 f2.2 (by simpa using l1) (by simpa using l2)
    simp only[List.range'_succ,List.forIn_cons,bJ,hv,hu,he,rJ,PV.oN]
    by_cases hb:PV.beq p q=true
    ·simpa[hb]using ih'
    ·simp[hb]
theorem KI:∀(n:Nat) {t:TypeId} {x:Sh} (d:Nat),n≤d->Bd P n t=some x->EqAt P Γ d t x:=by
 intro n
 induction n with
 |zero=>intro t x d _ h;simp[Bd]at h
 |
  succ n ih=>
  intro t x d hd h w p q v u fp fq hp hq
  obtain⟨d,rfl⟩:∃d',d=d'+1:=⟨d-1,by omega⟩
  simp only[Bd]at h
  split at h<;>(try(simp only[sJ,reduceCtorEq]at h;try subst h))
  ·rename_i hu
   cases p<;>simp[fits]at fp
   cases q<;>simp[fits]at fq
   rw[hp.bl,hq.bl,run_equalIn_bool' w d t _ _ hu];rfl
  ·rename_i k hu
   cases p<;>simp[fits]at fp
   cases q<;>simp[fits]at fq
   subst fp fq
   rw[hp.int,hq.int,run_equalIn_int w d t _ _ _ _ hu];rfl
  ·rename_i hu
   cases p<;>simp[fits]at fp
   cases q<;>simp[fits]at fq
   obtain⟨s1,rfl,rfl⟩:=hp.str
   obtain⟨s2,rfl,rfl⟩:=hq.str
   rw[run_equalIn_string w d t _ _ hu,toList_data,toList_data];rfl
  ·rename_i fs hu
   split at h
   ·rename_i l hl
    split at h
    ·rename_i AU
     obtain⟨c1,c2,c3,c4,c5⟩:=AU
     simp only[sJ]at h
     subst h
     cases p<;>simp only[fits,fJ,aJ,decide_eq_true_eq]at fp
     cases q<;>simp only[fits,fJ,aJ,decide_eq_true_eq]at fq
     rename_i w1 m1 w2 m2
     obtain⟨cs,rfl,hc⟩:=hp.cells rfl
     obtain⟨ds,rfl,FB⟩:=hq.cells rfl
     have hf:P.fieldsOf t=fs:=by simp[Program.fieldsOf,hu]
     rw[run_equalIn_struct w d t _ _ (by rw[hf];exact hu) c1,hf]
     rw[BF (xs:=cs) (ys:=ds) fs.toList l m1 m2 [] [] cs ds 0 w rfl rfl rfl rfl hc.tL.1 FB.tL.1 fp.2 fq.2 c2 c3 c4 c5]
     ·rfl
     ·intro i f y yr hyi
      refine ih d (by omega) ?_
      have:=allM_get hl yr
      rw[hyi]at this
      exact this
    ·exact absurd h (by simp)
   ·exact absurd h (by simp)
  ·rename_i k e hu
   split at h
   ·rename_i x' hx'
    split at h
    ·rename_i AU
     simp only[sJ]at h
     subst h
     cases p<;>simp only[fits,fJ,aJ,decide_eq_true_eq]at fp
     cases q<;>simp only[fits,fJ,aJ,decide_eq_true_eq]at fq
     rename_i z1 n1 m1 z2 n2 m2
     obtain⟨cs,rfl,hc⟩:=hp.cells rfl
     obtain⟨ds,rfl,FB⟩:=hq.cells rfl
     have hg:nM P e=some x'.agg:=AU.2
     have:=KH (P:=P) (Γ:=Γ) (d:=d) (len:=k) (n:=rZ x') (t:=e) (e:=x') (xs:=cs) (ys:=ds) rfl hg AU.1 (ih d (by omega) hx') m1 m2 [] [] cs ds 0 w rfl rfl (by simp) (by simp) hc.oM.1 FB.oM.1 fp.2 fq.2 fp.1.2.2 fq.1.2.2
     simp only[Op.equalIn,bJ,run_underlying hu,rJ,run_sizeOf AU.1]
     rw[Std.Legacy.Range.forIn_eq_forIn_range']
     simp only[Std.Legacy.Range.size,Nat.sub_zero,Nat.add_sub_cancel,Nat.div_one]
     rw[this]
     simp only[PV.beq]
     cases PV.oN m1 m2<;>rfl
    ·exact absurd h (by simp)
   ·exact absurd h (by simp)
where
 allM_get {α β:Type} {f:α->Option β}:∀ {l:List α} {m:List β},allM f l=some m->∀ {i:Nat} {x:α},l[i]? =some x->f x=m[i]?
  |[],m,h,i,x,hi=>by simp at hi
  |
   y::l,m,h,i,x,hi=>by
   simp only[allM]at h
   split at h
   ·rename_i z k hz hk
    simp only[sJ]at h
    subst h
    cases i with
    |zero=>simp at hi;subst hi;simpa using hz
    |succ i=>simp at hi;simpa using allM_get hk hi
   ·exact absurd h (by simp)
end Go.Ab
namespace Go.Ab
variable [eo]
variable {P:Program} {nt:Nat} {ds:List Deferred} {s:St} {Γ:Cx} {a:Act} {w:World}
theorem BG:∀(vs:List Value) (k off:Nat) (cells:Array Value),off+k+vs.length≤cells.size->
  ((vs.zipIdx k).foldl (λ(cs:Array Value) (x:Value×Nat)=>cs.setIfInBounds (off+x.2) x.1) cells).toList=bL cells.toList (off+k) vs
 |[],k,off,cells,_=>by simp[bL]
 |
  v::vs,k,off,cells,h=>by
  simp only[List.zipIdx_cons,List.foldl_cons,List.length_cons]at h⊢
  rw[BG vs (k+1) off _ (by simp;omega)]
  rw[Array.toList_setIfInBounds]
  have eu:off+k<cells.toList.length:=by simp;omega
  obtain⟨A,c,B,hA,mZ⟩:∃A c B,A.length=off+k∧cells.toList=A++c::B:=
   ⟨cells.toList.take (off+k),cells.toList[off+k],cells.toList.drop (off+k+1),by rw[lJ];omega,by rw[List.getElem_cons_drop,List.take_append_drop]⟩
  rw[mZ,←hA,List.set_append_right (h:=Nat.le_refl _)]
  rw[show off+(k+1)=A.length+1 by omega]
  simp only[Nat.sub_self,List.set_cons_zero,bL,List.length_cons]
  have e1:(A++v::B).take (A.length+1)=A++[v]:=by rw[List.take_append,tJ (by omega)];simp
  have e2:(A++v::B).drop (A.length+1+vs.length)=B.drop vs.length:=by
   rw[List.drop_append,List.drop_eq_nil_of_le (by omega),show A.length+1+vs.length-A.length=vs.length+1 by omega];simp
  have e3:(A++c::B).drop (A.length+(vs.length+1))=B.drop vs.length:=by
   rw[←List.drop_drop];simp
  rw[e1,e2,e3]
  simp
theorem yd {l:List PV} {i j:Nat} {q p:PV} (hq:l[i]? =some q) (hw:p.width=q.width):av ((l.set i p).take j)=av (l.take j):=by
 by_cases Co:i<j
 ·have:(l.set i p).take j=(l.take j).set i p:=by rw[List.take_set]
  rw[this]
  exact yW (by rw[List.getElem?_take_of_lt Co];exact hq) hw
 ·rw[List.take_set_of_le (by omega)]
theorem uO:∀(ps:List (Nat×PV)) (vs:List (Nat×Value)) (place:Nat->Option (Nat×Nat)) (l l':List PV) (cells:Array Value),
  aD Γ l cells.toList->dJ l ps=some l'->ps.length=vs.length->(∀(i:Nat) j p k v,ps[i]? =some (j,p)->vs[i]? =some (k,v)->j=k∧aN Γ p v)->
  (∀i q,l[i]? =some q->place i=some (av (l.take i),q.width))->∃Nu,Instr.fill place cells vs=some Nu∧aD Γ l' Nu.toList
 |
  [],vs,place,l,l',cells,h,hs,hl,hv,hp=>by
  have:vs=[]:=by simpa using hl.symm
  subst this
  simp[dJ]at hs;subst hs
  exact⟨cells,rfl,h⟩
 |
  (i,p)::ps,vs,place,l,l',cells,h,hs,hl,hv,hp=>by
  cases vs with
  |nil=>simp at hl
  |
   cons x vs=>
   obtain⟨k,v⟩:=x
   obtain⟨rfl,hr⟩:=hv 0 i p k v rfl rfl
   simp only[dJ]at hs
   split at hs
   ·rename_i q hq
    split at hs
    ·rename_i hw
     have hc:=hr.y6 hw.2
     have qV:=hc.iR
     have iA:v.cells.size=q.width:=by rw[←hw.1,←qV];simp
     have Kq:=we hq
     have hle:=h.length
     have y8:av (l.take i)+q.width≤cells.size:=by rw[←Array.length_toList,hle];exact Kq
     have my:=h.set hq hc hw.1
     have vV:(v.cells.zipIdx.foldl (λcs (c,j)=>cs.setIfInBounds (av (l.take i)+j) c) cells).toList=bL cells.toList (av (l.take i)) v.cells.toList:=by
      have:=BG v.cells.toList 0 (av (l.take i)) cells (by simp;omega)
      rw[←Array.foldl_toList,Array.toList_zipIdx]
      simpa using this
     obtain⟨c',h1,h2⟩:=uO ps vs place (l.set i p) l' (v.cells.zipIdx.foldl (λcs (c,j)=>cs.setIfInBounds (av (l.take i)+j) c) cells) (by rw[vV];exact my) hs (by simpa using hl)
      (λj n p' k v' a b=>hv (j+1) n p' k v' (by simpa using a) (by simpa using b)) (λj q' Xr=>by
       rw[yd hq hw.1]
       rw[List.getElem?_set]at Xr
       split at Xr
       ·rename_i Co;subst Co
        split at Xr
        ·simp at Xr;subst Xr;rw[hw.1];exact hp i q hq
        ·simp at Xr
       ·exact hp j q' Xr)
     refine⟨c',?_,h2⟩
     simp only[Instr.fill,hp i q hq]
     rw[if_neg (by simp[iA];omega)]
     exact h1
    ·exact absurd hs (by simp)
   ·exact absurd hs (by simp)
theorem DV:∀(l:List PV) (o:Nat) (fs:List (Nat×Nat)),fs=KA o l->∀(i:Nat) q,l[i]? =some q->fs[i]? =some (o+av (l.take i),q.width)
 |[],o,fs,h,i,q,hq=>by simp at hq
 |
  p::l,o,fs,h,i,q,hq=>by
  subst h
  cases i with
  |zero=>simp at hq;subst hq;simp[KA,av]
  |
   succ i=>
   simp only[List.getElem?_cons_succ]at hq
   have:=DV l (o+p.width) _ rfl i q hq
   simpa[KA,av,Nat.add_assoc]using this
mutual
theorem Hr:∀(p:PV) (vs rest:List Value),yc p vs=some rest->∃cs,vs=cs++rest∧aD Γ [p] cs
 |
  .bl x,vs,rest,h=>by
  cases vs with
  |nil=>simp[yc]at h
  |
   cons v r=>
   cases v<;>simp only[yc,reduceCtorEq]at h
   split at h<;>simp at h
   subst_vars;exact⟨[_],rfl,.bl _ .nil⟩
 |
  .int k n,vs,rest,h=>by
  cases vs with
  |nil=>simp[yc]at h
  |
   cons v r=>
   cases v<;>simp only[yc,reduceCtorEq]at h
   split at h
   ·rename_i hc;obtain⟨rfl,rfl⟩:=hc;simp at h;subst h;exact⟨[_],rfl,.int _ _ .nil⟩
   ·simp at h
 |
  .str l,vs,rest,h=>by
  cases vs with
  |nil=>simp[yc]at h
  |
   cons v r=>
   cases v<;>simp only[yc,reduceCtorEq]at h
   split at h
   ·rename_i hc;simp at h;subst h;exact⟨[_],rfl,.str _ _ hc .nil⟩
   ·simp at h
 |
  .np,vs,rest,h=>by
  unfold yc at h
  split at h<;>simp_all
  subst_vars;exact⟨[_],rfl,.np .nil⟩
 |
  .sl sz l c,vs,rest,h=>by
  cases l with
  |cons=>simp[yc]at h
  |
   nil=>
   cases vs with
   |nil=>simp[yc]at h
   |
    cons v r=>
    unfold yc at h
    split at h
    case h_5=>
     simp only[sJ]at h
     subst h
     rename_i heq
     simp only[List.cons.injEq]at heq
     obtain⟨rfl,rfl⟩:=heq
     exact⟨[_],rfl,.sl sz [] c none 0 .nil (by simp) (Nat.le_refl _) (λ_=>rfl) (λh=>absurd rfl h) .nil⟩
    all_goals simp_all
 |
  .nf,vs,rest,h=>by
  unfold yc at h
  split at h<;>simp_all
  subst_vars;exact⟨[_],rfl,.nf .nil⟩
 |
  .ni,vs,rest,h=>by
  unfold yc at h
  split at h<;>simp_all
  subst_vars;exact⟨[_],rfl,.ni .nil⟩
 |
  .st w l,vs,rest,h=>by
  simp only[yc]at h
  split at h
  ·rename_i r hr
   split at h
   ·rename_i hw
    simp at h;subst h
    obtain⟨cs,rfl,hc⟩:=y9 l vs r hr
    exact⟨cs,rfl,hc.st1 (by simp at hw;omega)⟩
   ·simp at h
  ·simp at h
 |
  .ar sz n l,vs,rest,h=>by
  simp only[yc]at h
  split at h
  ·rename_i r hr
   split at h
   ·rename_i hw
    simp at h;subst h
    obtain⟨cs,rfl,hc⟩:=y9 l vs r hr
    exact⟨cs,rfl,hc.Sa hw.1 (by simpa using hw.2)⟩
   ·simp at h
  ·simp at h
 | .un,vs,rest,h=>by simp[yc]at h
 | .tup _,vs,rest,h=>by simp[yc]at h
 | .rs ..,vs,rest,h=>by simp[yc]at h
 | .pt ..,vs,rest,h=>by simp[yc]at h
 | .fp ..,vs,rest,h=>by simp[yc]at h
 | .fn ..,vs,rest,h=>by simp[yc]at h
 | .gd ..,vs,rest,h=>by simp[yc]at h
 | .ifc ..,vs,rest,h=>by simp[yc]at h
theorem y9:∀(l:List PV) (vs rest:List Value),IU l vs=some rest->∃cs,vs=cs++rest∧aD Γ l cs
 |[],vs,rest,h=>by simp[IU]at h;subst h;exact⟨[],rfl,.nil⟩
 |
  p::l,vs,rest,h=>by
  simp only[IU]at h
  split at h
  ·rename_i ws hws
   obtain⟨c1,rfl,h1⟩:=Hr p vs ws hws
   obtain⟨c2,rfl,h2⟩:=y9 l ws rest h
   exact⟨c1++c2,by simp,h1.cons h2⟩
  ·simp at h
end
theorem lX {t:TypeId} {z:PV} (h:zeroOf P t=some z):∃v,(∀w,(zeroValue t).run P w= .ok v w)∧aD Γ [z] v.cells.toList∧jz P t=some z.width∧aN Γ z v∧v.cells.size=z.width:=by
 replace h:=IV h
 unfold yy at h
 split at h
 ·rename_i z' i hz hi
  split at h
  ·rename_i v hv
   split at h
   ·rename_i hc
    split at h
    ·rename_i hw
     obtain⟨cs,e,hr⟩:=Hr (Γ:=Γ) z' _ _ hc
     rw[List.append_nil]at e
     rw[←e]at hr
     have hz':z'=z∧aN Γ z' v:=by
      cases ha:z'.isAgg<;>rw[ha]at h
      ·cases v<;>simp only[sJ,reduceCtorEq]at h<;>exact⟨h,aN.Cz (by simpa[Value.cells]using hr) ha⟩
      ·cases v<;>simp only[sJ,reduceCtorEq]at h
       exact⟨h,aN.sd (by simpa[Value.cells]using hr) ha⟩
     obtain⟨rfl,Cp⟩:=hz'
     exact⟨v,λw=>by simp[zeroValue,typeInfo,hi,hv],hr,by simp[jz,hi,hw],Cp,by rw[←hr.iR];simp⟩
    ·simp at h
   ·simp at h
  ·simp at h
 ·simp at h
theorem wh {t:TypeId} {parts:Array (Nat×Operand)} {k:AK} {G:Bool} {K:PV->Prop} (hk:lB P false (.build t parts)=some k) (hs:iz nt ds s Γ a) (hG:G=true) (he:ev G s k K):
  iS P Γ w (Instr.build t (parts.map λp=>(p.1,a.eval p.2))) K:=by
 simp only[lB]at hk
 split at hk
 ·rename_i sw l ps fs hz BA hu
  split at hk
  ·rename_i hc
   simp only[sJ]at hk;subst hk
   simp only[ev]at he
   obtain⟨qs,hq,hlen,eO⟩:=yz hs hG BA he
   obtain⟨v,hv,hr,_,_,_⟩:=lX (Γ:=Γ) hz
   split at hq
   ·rename_i l' DQ
    have lS:∀i q,l[i]? =some q->((fs.map λf=>(f.offset,P.cellsOf f.type))[i]? :Option (Nat×Nat))=some (av (l.take i),q.width):=by
     intro i q hi
     have:=DV l 0 _ hc.1 i q hi
     rw[Nat.zero_add]at this
     rw[←Array.getElem?_toList,Array.toList_map]
     exact this
    obtain⟨cells,h1,h2⟩:=uO (Γ:=Γ) qs (parts.toList.map λp=>(p.1,a.eval p.2)) (λi=>(fs.map λf=>(f.offset,P.cellsOf f.type))[i]?) l l' v.cells hr.tL.1 DQ (by simp[hlen])
     (λi j p k u h3 h4=>by
      rw[List.getElem?_map,mJ]at h4
      obtain⟨⟨k',x⟩,h5,h6⟩:=h4
      simp only[Prod.mk.injEq]at h6
      obtain⟨rfl,rfl⟩:=h6
      exact eO i j p k' x h3 h5) lS
    have hlc:cells.toList.length=sw:=by
     have e1:=h2.length
     have e2:=hr.tL
     rw[e1,setParts_widths DQ,←e2.1.length,e2.2]
    refine⟨_,.agg cells,hq,?_,⟨cells.toList,by simp,h2.st1 hlc⟩⟩
    have akF:(fs.mapM λf=>do Pure.pure (f.offset,←sizeOf f.type):Sem (Array (Nat×Nat))).run P w= .ok (fs.map λf=>(f.offset,P.cellsOf f.type)) w:=run_mapM fs hc.2
    simp only[Instr.build,bJ,hv,rJ,run_underlying hu,akF]
    rw[Array.toList_map,h1];rfl
   ·exact hq.elim
  ·simp at hk
 ·rename_i sz n l ps len e hz BA hu
  split at hk
  ·rename_i hc
   simp only[sJ]at hk;subst hk
   simp only[ev]at he
   obtain⟨qs,hq,hlen,eO⟩:=yz hs hG BA he
   obtain⟨v,hv,hr,_,_,_⟩:=lX (Γ:=Γ) hz
   split at hq
   ·rename_i l' DQ
    obtain⟨tt,pG,hr3⟩:=hr.oM
    obtain⟨cells,h1,h2⟩:=uO (Γ:=Γ) qs (parts.toList.map λp=>(p.1,a.eval p.2)) (λi=>some (i*sz,sz)) l l' v.cells tt DQ (by simp[hlen])
     (λi j p k u h3 h4=>by
      rw[List.getElem?_map,mJ]at h4
      obtain⟨⟨k',x⟩,h5,h6⟩:=h4
      simp only[Prod.mk.injEq]at h6
      obtain⟨rfl,rfl⟩:=h6
      exact eO i j p k' x h3 h5)
     (λi q hi=>by
      have FR:=(List.getElem?_eq_some_iff.1 hi).1
      rw[iH hr3 (by omega),hr3 q (List.mem_of_getElem? hi)])
    refine⟨_,.agg cells,hq,?_,⟨cells.toList,by simp,h2.Sa (by rw[setParts_length DQ,pG]) (setParts_width DQ hr3)⟩⟩
    simp only[Instr.build,bJ,hv,rJ,run_underlying hu,run_sizeOf hc]
    rw[Array.toList_map,h1];rfl
   ·exact hq.elim
  ·simp at hk
 ·simp at hk
where
 setParts_length:∀ {ps:List (Nat×PV)} {l l':List PV},dJ l ps=some l'->l'.length=l.length
  |[],l,l',h=>by simp[dJ]at h;rw[h]
  |
   (i,p)::ps,l,l',h=>by
   simp only[dJ]at h
   split at h
   ·split at h
    ·rw[setParts_length h];simp
    ·simp at h
   ·simp at h
 setParts_widths:∀ {ps:List (Nat×PV)} {l l':List PV},dJ l ps=some l'->av l'=av l
  |[],l,l',h=>by simp[dJ]at h;rw[h]
  |
   (i,p)::ps,l,l',h=>by
   simp only[dJ]at h
   split at h
   ·rename_i q hq
    split at h
    ·rename_i hw
     rw[setParts_widths h,yW hq hw.1]
    ·simp at h
   ·simp at h
 setParts_width {sz:Nat}:∀ {ps:List (Nat×PV)} {l l':List PV},dJ l ps=some l'->(∀x∈l,x.width=sz)->∀x∈l',x.width=sz
  |[],l,l',h,hw=>by simp[dJ]at h;rw[←h];exact hw
  |
   (i,p)::ps,l,l',h,hw=>by
   simp only[dJ]at h
   split at h
   ·rename_i q hq
    split at h
    ·rename_i Nv
     exact setParts_width h (qd hw (by rw[Nv.1];exact hw q (List.mem_of_getElem? hq)))
    ·simp at h
   ·simp at h
 run_mapM (fs:Array Field) (h:fs.toList.all (λf=>(P.info? f.type).isSome)=true):(fs.mapM λf=>do Pure.pure (f.offset,←sizeOf f.type):Sem (Array (Nat×Nat))).run P w= .ok (fs.map λf=>(f.offset,P.cellsOf f.type)) w:=by
  have key:∀(l:List Field),l.all (λf=>(P.info? f.type).isSome)=true->(l.mapM λf=>do Pure.pure (f.offset,←sizeOf f.type):Sem (List (Nat×Nat))).run P w= .ok (l.map λf=>(f.offset,P.cellsOf f.type)) w:=by
   intro l
   induction l with
   |nil=>intro _;rfl
   |
    cons f l ih=>
    intro hl
    simp only[List.all_cons,aJ]at hl
    obtain⟨i,hi⟩:=Option.isSome_iff_exists.1 hl.1
    have iA:jz P f.type=some i.size:=by simp[jz,hi]
    simp only[List.mapM_cons,bJ,run_sizeOf iA,rJ,Sem.run_pure,ih hl.2,List.map_cons]
    simp[Program.cellsOf,hi]
  rw[Array.mapM_eq_mapM_toList]
  simp only[Sem.run_map,key fs.toList h,rJ]
  congr 1
  apply Array.ext'
  simp
end Go.Ab
namespace Go.Ab
variable [eo]
variable {P:Program} {nt:Nat} {ds:List Deferred} {s:St} {Γ:Cx} {a:Act} {w:World}
theorem OF {args:List Operand} {tys:List TypeId} {k:AK} {ty:TypeId} {G:Bool} {K:PV->Prop} (hk:dx P .cap args tys=some k) (hs:iz nt ds s Γ a) (hG:G=true) (he:ev G s k K):
  iS P Γ w (Builtin.cap_ tys.toArray ty (args.map a.eval).toArray) K:=by
 unfold dx at hk
 split at hk<;>(try contradiction)
 rename_i x t _
 split at hk<;>simp only[sJ,reduceCtorEq]at hk
 rename_i e y hu hx
 subst hk
 simp only[ev]at he
 obtain⟨p,hp,hr⟩:=cy hx hs hG he
 split at hp
 ·rename_i k p off len aK sz n
  split at hp
  ·rename_i blk hb
   rw[←hs.bx]at hb
   obtain⟨ad,bt,hv,cY⟩:=hr.rs hb hp.1
   have Hq:bt=n:=by
    unfold jo at cY
    split at cY
    ·exact cY.2.2
    ·exact cY.2.2.1
   subst Hq
   exact⟨_,goInt bt,hp.2,by simp[Builtin.cap_,run_underlying hu,hv],dC⟩
  ·exact hp.elim
 ·exact hp.elim
theorem OG {args:List Operand} {tys:List TypeId} {k:AK} {ty:TypeId} {G:Bool} {K:PV->Prop} (hk:dx P .len args tys=some k) (hs:iz nt ds s Γ a) (hG:G=true) (he:ev G s k K):
  iS P Γ w (Builtin.len_ tys.toArray ty (args.map a.eval).toArray) K:=by
 unfold dx at hk
 split at hk<;>(try contradiction)
 ·rename_i x t _
  split at hk
  ·rename_i y hu hx
   simp only[sJ]at hk;subst hk
   simp only[ev]at he
   obtain⟨p,hp,hr⟩:=cy hx hs hG he
   split at hp
   ·rename_i bs
    obtain⟨str,hv,hd⟩:=hr.str
    refine⟨_,goInt bs.length,hp,?_,dC⟩
    have:bs.length=str.size:=by rw[←hd];exact Array.length_toList
    simp[Builtin.len_,run_underlying hu,hv,this]
   ·exact hp.elim
  ·rename_i e y hu hx
   simp only[sJ]at hk;subst hk
   simp only[ev]at he
   obtain⟨p,hp,hr⟩:=cy hx hs hG he
   split at hp
   ·rename_i sz l c
    obtain⟨ad,bt,cs,hv,_⟩:=hr.sl
    exact⟨_,goInt l.length,hp,by simp[Builtin.len_,run_underlying hu,hv],dC⟩
   ·rename_i k p off len aK sz c
    split at hp
    ·rename_i blk hb
     rw[←hs.bx]at hb
     obtain⟨ad,bt,hv,_⟩:=hr.rs hb hp.1
     exact⟨_,goInt len,hp.2,by simp[Builtin.len_,run_underlying hu,hv],dC⟩
    ·exact hp.elim
   ·exact hp.elim
  ·rename_i n e y hu hx
   simp only[sJ]at hk;subst hk
   simp only[ev]at he
   exact⟨_,goInt n,he,by simp[Builtin.len_,run_underlying hu],dC⟩
  ·rename_i arr y hu hx
   split at hk
   ·rename_i n e hu2
    simp only[sJ]at hk;subst hk
    simp only[ev]at he
    exact⟨_,goInt n,he,by simp[Builtin.len_,run_underlying hu,run_underlying hu2],dC⟩
   ·simp at hk
  ·simp at hk
theorem KJ {mx:Bool} {args:List Operand} {tys:List TypeId} {l:List AX} {ty:TypeId} {G:Bool} {K:PV->Prop} (hx:uK args=some l) (hs:iz nt ds s Γ a) (hG:G=true) (he:ev G s (.mm mx l) K):
  iS P Γ w (if mx then Builtin.max_ tys.toArray ty (args.map a.eval).toArray else Builtin.min_ tys.toArray ty (args.map a.eval).toArray) K:=by
 simp only[ev]at he
 obtain⟨ps,hp,hlen,eO⟩:=uL hs hG hx he
 have key:∀(ps:List PV) (vs:List Value) (k:IntKind) (m:Int) (K:Int->Prop),nk mx m ps K->ps.length=vs.length->(∀(i:Nat) p v,ps[i]? =some p->vs[i]? =some v->aN Γ p v)->
   ∃n,K n∧(vs.foldlM (if mx then Builtin.max2 else Builtin.min2) (.int k m)).run P w= .ok (.int k n) w:=by
  intro ps
  induction ps with
  |
   nil=>
   intro vs k m K h hl _
   have:vs=[]:=by simpa using hl.symm
   subst this
   exact⟨m,h,rfl⟩
  |
   cons p ps ih=>
   intro vs k m K h hl hv
   cases vs with
   |nil=>simp at hl
   |
    cons v vs=>
    simp only[nk]at h
    obtain⟨k2,n,mD,h⟩:=gO h (hv 0 p v rfl rfl)
    obtain⟨r,h1,h2⟩:=ih vs k _ K h (by simpa using hl) (λi p v a b=>hv (i+1) p v (by simpa using a) (by simpa using b))
    refine⟨r,h1,?_⟩
    subst mD
    simp only[List.foldlM_cons,bJ]
    cases mx
    ·have:(Builtin.min2 (.int k m) (.int k2 n)).run P w= .ok (.int k (min m n)) w:=by
      simp only[Builtin.min2,Sem.run_pure]
      congr 2
      split<;>omega
     simp only[fJ,if_false]at h2⊢
     rw[this];exact h2
    ·have:(Builtin.max2 (.int k m) (.int k2 n)).run P w= .ok (.int k (max m n)) w:=by
      simp only[Builtin.max2,Sem.run_pure]
      congr 2
      split<;>omega
     simp only[if_true]at h2⊢
     rw[this];exact h2
 split at hp
 ·rename_i k m ps
  cases args with
  |nil=>simp at hlen
  |
   cons x args=>
   have hx0:=(eO 0 _ x rfl rfl).int
   obtain⟨n,hn,ja⟩:=key ps (args.map a.eval) k m _ hp (by simpa using hlen) (λi p v h1 h2=>by
    rw[List.getElem?_map,mJ]at h2
    obtain⟨o,h2,rfl⟩:=h2
    exact eO (i+1) p o (by simpa using h1) (by simpa using h2))
   refine⟨_,_,hn,?_,dC⟩
   cases mx
   ·simpa[Builtin.min_,hx0]using ja
   ·simpa[Builtin.max_,hx0]using ja
 ·exact hp.elim
theorem KK {p:PV} {v:Value} (h:aN Γ p v) (ha:p.isAgg=false) (hc:p.bG=true):aD Γ [p] [v]:=by
 cases p<;>simp[PV.isAgg,PV.bG]at ha hc<;>exact h
theorem DW {ps:List PV} {vs:List Value} (hl:ps.length=vs.length) (h:∀(i:Nat) p v,ps[i]? =some p->vs[i]? =some v->aN Γ p v)
  (ha:ps.all (λp=> !p.isAgg&&p.bG)=true):aD Γ ps vs:=by
 induction ps generalizing vs with
 |nil=>
      have:vs=[]:=by simpa using hl.symm
      subst this;exact .nil
 |
  cons p ps ih=>
  cases vs with
  |nil=>simp at hl
  |
   cons v vs=>
   simp only[List.all_cons,aJ,Bool.not_eq_true']at ha
   exact(KK (h 0 p v rfl rfl) ha.1.1 ha.1.2).cons (ih (by simpa using hl) (λi p v h1 h2=>h (i+1) p v (by simpa using h1) (by simpa using h2)) ha.2)
theorem uP {t:TypeId} {x y:Value} {b:Bool} (h:(Op.equalIn 10000 t x y).run P w= .ok b w)
  (h1:binOp .eql t x y=(do Pure.pure (.bool (←Op.equal t x y)))) (h2:binOp .neq t x y=(do Pure.pure (.bool (!(←Op.equal t x y))))):
  ∀o,(o= .eql∨o= .neq)->(binOp o t x y).run P w= .ok (.bool (if o= .eql then b else !b)) w:=by
 intro o ho
 have h':(Op.equal t x y).run P w= .ok b w:=h
 rcases ho with rfl|rfl
 ·rw[h1];simp only[bJ,h',rJ];rfl
 ·rw[h2];simp only[bJ,h',rJ];rfl
theorem IY {t:TypeId} {x y:Bool} (h:P.underlying t=some .bool):(Op.equalIn 10000 t (.bool x) (.bool y)).run P w= .ok (x==y) w:=run_equalIn_bool' w 9999 t x y h
theorem CD {d:Nat} {t e:TypeId} (h:P.underlying t=some (.pointer e)):(Op.equalIn (d+1) t (.pointer none) (.pointer none)).run P w= .ok true w:=by
 simp only[Op.equalIn,bJ,run_underlying h,rJ];rfl
theorem CE {d:Nat} {t e:TypeId} {ad:Addr} (h:P.underlying t=some (.pointer e)):(Op.equalIn (d+1) t (.pointer (some ad)) (.pointer none)).run P w= .ok false w:=by
 simp only[Op.equalIn,bJ,run_underlying h,rJ];rfl
theorem DX {t e:TypeId} (h:P.underlying t=some (.pointer e)):(Op.equalIn 10000 t (.pointer none) (.pointer none)).run P w= .ok true w:=CD (d:=9999) h
theorem xy {t e:TypeId} {ad:Addr} (h:P.underlying t=some (.pointer e)):(Op.equalIn 10000 t (.pointer (some ad)) (.pointer none)).run P w= .ok false w:=CE (d:=9999) h
theorem DY {n:Nat} {t:TypeId} {sh:Sh} (h:Bd P n t=some sh) (hu:(∃fs,P.underlying t=some (.struct fs))∨∃k e,P.underlying t=some (.array k e)):sh.agg=true:=by
 cases n with
 |zero=>simp[Bd]at h
 |
  succ n=>
  rcases hu with⟨fs,hu⟩|⟨k,e,hu⟩
  ·simp only[Bd,hu]at h
   split at h
   ·split at h
    ·simp only[sJ]at h;subst h;rfl
    ·simp at h
   ·simp at h
  ·simp only[Bd,hu]at h
   split at h
   ·split at h
    ·simp only[sJ]at h;subst h;rfl
    ·simp at h
   ·simp at h
theorem IZ {op:BinOp} {t:TypeId} {x y:Operand} {yt:TypeId} {k:AK} {own:Bool} {G:Bool} {K:PV->Prop} (hk:lB P own (.binOp op t x y yt)=some k) (hs:iz nt ds s Γ a) (hG:G=true) (he:ev G s k K):
  iS P Γ w (do eqGuard op t x y (a.eval x) (a.eval y);binOp op t (a.eval x) (a.eval y)) K:=by
 simp only[lB]at hk
 split at hk
 ·rename_i p q hx hy
  have fin:∀ {et:ET} {K:PV->Prop},ev G s (.bin op et p q) K->∃u v,qW s op et u v K∧aN Γ u (a.eval x)∧aN Γ v (a.eval y):=by
   intro et K he
   simp only[ev]at he
   obtain⟨u,hu,Cq⟩:=cy hx hs hG he
   obtain⟨v,hv,Cp⟩:=cy hy hs hG hu
   exact⟨u,v,hv,Cq,Cp⟩
  have plain:∀ {K:PV->Prop},ev G s (.bin op .no p q) K->iS P Γ w (do eqGuard op t x y (a.eval x) (a.eval y);binOp op t (a.eval x) (a.eval y)) K:=by
   intro K he
   obtain⟨u,v,hb,Cq,Cp⟩:=fin he
   simp only[qW]at hb
   split at hb
   ·rw[Cq.int,Cp.int]
    rw[eqGuard_at_int]
    exact OB hb.1 hb.2
   ·obtain⟨b1,v7,hd1⟩:=Cq.str
    obtain⟨b2,mD,Xs⟩:=Cp.str
    rw[v7,mD,eqGuard_at_string]
    rw[←hd1,←Xs]at hb
    exact OC hb
   ·exact hb.elim
  have eqrun:∀ {b:Bool} {K:PV->Prop},(op= .eql∨op= .neq)->tM op b K->
    (∀o,(o= .eql∨o= .neq)->(binOp o t (a.eval x) (a.eval y)).run P w= .ok (.bool (if o= .eql then b else !b)) w)->(eqGuard op t x y (a.eval x) (a.eval y)).run P w= .ok () w->
    iS P Γ w (do eqGuard op t x y (a.eval x) (a.eval y);binOp op t (a.eval x) (a.eval y)) K:=by
   intro b K ho hb ja hg
   rcases ho with rfl|rfl
   ·exact⟨_,_,hb,by simp only[bJ,hg,rJ,ja .eql (.inl rfl)];rfl,jH⟩
   ·exact⟨_,_,hb,by simp only[bJ,hg,rJ,ja .neq (.inr rfl)];rfl,jH⟩
  split at hk
  ·rename_i ho
   split at hk
   ·simp only[sJ]at hk;subst hk;exact plain he
   ·simp only[sJ]at hk;subst hk;exact plain he
   ·rename_i hu
    simp only[sJ]at hk;subst hk
    obtain⟨u,v,hb,Cq,Cp⟩:=fin he
    simp only[qW]at hb
    split at hb
    ·rw[Cq.bl,Cp.bl]at eqrun⊢
     refine eqrun ho hb (uP (IY hu) rfl rfl) (by rw[eqGuard_at_bool];rfl)
    ·exact hb.elim
   ·rename_i e hu
    simp only[sJ]at hk;subst hk
    obtain⟨u,v,hb,Cq,Cp⟩:=fin he
    simp only[qW]at hb
    split at hb
    ·rw[Cq.np,Cp.np]at eqrun⊢
     refine eqrun ho hb (uP (DX hu) rfl rfl) (by rw[eqGuard_at_pointer];rfl)
    ·split at hb
     ·rename_i blk hg
      rw[←hs.bx]at hg
      obtain⟨b,hι,hv⟩:=Cq.pt hg hb.1
      rw[hv,Cp.np]at eqrun⊢
      refine eqrun ho hb.2 (uP (xy hu) rfl rfl) (by rw[eqGuard_at_pointer];rfl)
     ·exact hb.elim
    ·obtain⟨b,o,cs,hv,_⟩:=Cq.fp
     rw[hv,Cp.np]at eqrun⊢
     refine eqrun ho hb (uP (xy hu) rfl rfl) (by rw[eqGuard_at_pointer];rfl)
    ·exact hb.elim
   ·split at hk
    ·simp only[sJ]at hk;subst hk;simp[ev]at he
    ·simp at hk
   ·rename_i fs hu
    split at hk
    ·rename_i T6
     split at hk
     ·rename_i sh A5
      simp only[sJ]at hk;subst hk
      obtain⟨u,v,hb,Cq,Cp⟩:=fin he
      simp only[qW]at hb
      have Nw:sh.agg=true:=DY A5 (.inl ⟨_,hu⟩)
      obtain⟨c1,v7,_⟩:=Cq.cells (by rw[nN hb.1.1];exact Nw)
      obtain⟨c2,mD,_⟩:=Cp.cells (by rw[nN hb.1.2];exact Nw)
      have Xt:=KI (P:=P) (Γ:=Γ) 20 10000 (by omega) A5 w u v _ _ hb.1.1 hb.1.2 Cq Cp
      rw[v7,mD]at eqrun Xt⊢
      refine eqrun ho hb.2 (λo ho=> ?_) (run_eqGuard_agg w op t x y _ _ T6)
      rcases ho with rfl|rfl
      ·rw[run_eql_struct,Xt];rfl
      ·rw[run_neq_struct,Xt];rfl
     ·simp at hk
    ·simp at hk
   ·rename_i n e hu
    split at hk
    ·rename_i T6
     split at hk
     ·rename_i sh A5
      simp only[sJ]at hk;subst hk
      obtain⟨u,v,hb,Cq,Cp⟩:=fin he
      simp only[qW]at hb
      have Nw:sh.agg=true:=DY A5 (.inr ⟨_,_,hu⟩)
      obtain⟨c1,v7,_⟩:=Cq.cells (by rw[nN hb.1.1];exact Nw)
      obtain⟨c2,mD,_⟩:=Cp.cells (by rw[nN hb.1.2];exact Nw)
      have Xt:=KI (P:=P) (Γ:=Γ) 20 10000 (by omega) A5 w u v _ _ hb.1.1 hb.1.2 Cq Cp
      rw[v7,mD]at eqrun Xt⊢
      refine eqrun ho hb.2 (λo ho=> ?_) (run_eqGuard_agg w op t x y _ _ T6)
      rcases ho with rfl|rfl
      ·rw[run_eql_struct,Xt];rfl
      ·rw[run_neq_struct,Xt];rfl
     ·simp at hk
    ·simp at hk
   ·simp at hk
  ·simp only[sJ]at hk;subst hk;exact plain he
 ·simp at hk
end Go.Ab
namespace Go.Ab
variable [eo]
variable {P:Program} {nt:Nat} {ds:List Deferred} {s:St} {Γ:Cx} {a:Act} {w:World}
theorem kr.rep {p:PV} {v:Value} (h:kr Γ p v):aN Γ p v:=by
 cases p<;>first|exact h|(simp only[kr]at h;cases h)
theorem kS.get:∀ {l:List PV} {vs:List Value},kS Γ l vs->∀ {i:Nat} {p:PV},l[i]? =some p->∃v,vs[i]? =some v∧kr Γ p v
 |[],vs,h,i,p,hp=>by simp at hp
 |q::l,[],h,i,p,hp=>by simp[kS]at h
 |
  q::l,v::vs,h,i,p,hp=>by
  simp only[kS]at h
  cases i with
  |zero=>simp at hp;subst hp;exact⟨v,by simp,h.1⟩
  |succ i=>simp at hp;simpa using kS.get h.2 hp
theorem I0 {t e:TypeId} {x i:Operand} {y j:AX} {G g:Bool} {K:PV->Prop} {len n:Nat} (hx:jG x=some y) (hi:jG i=some j) (hs:iz nt ds s Γ a) (hG:G=true)
  (hu:P.underlying t=some (.array len e)) (hg:nM P e=some g) (hn:jz P e=some n) (he:ev G s (.index g len n y j) K):iS P Γ w (Instr.index t (a.eval x) (a.eval i)) K:=by
 simp only[ev]at he
 obtain⟨p,hp,hr⟩:=cy hx hs hG he
 obtain⟨q,hq,pG⟩:=cy hi hs hG hp
 obtain⟨k,m,hm,hK⟩:=gO hq pG
 split at hK
 ·rename_i sz n' l
  split at hK
  ·rename_i c hc
   obtain⟨⟨h0,h1,rfl,rfl,h4⟩,hK⟩:=hK
   obtain⟨cs,hv,xr⟩:=hr.cells rfl
   obtain⟨hl,hlen,hw⟩:=xr.oM
   have qV:=hw c (List.mem_of_getElem? hc)
   have sL:=(List.getElem?_eq_some_iff.1 hc).1
   obtain⟨c1,v1,c2,rfl,l1,r3⟩:∃c1 v1 c2,cs=c1++(c2++v1)∧c1.length=m.toNat*sz∧aD Γ [c] c2:=by
    have e1:l=l.take m.toNat++l[m.toNat]::l.drop (m.toNat+1):=by rw[List.getElem_cons_drop,List.take_append_drop]
    rw[e1]at hl
    obtain⟨c1,u1,rfl,r1,r2⟩:=hl.split
    obtain⟨c2,v2,rfl,r3,r4⟩:=r2.qb
    refine⟨c1,v2,c2,rfl,?_,?_⟩
    ·rw[r1.length,iH hw (by omega)]
    ·rw[gJ sL]at hc;simp only[sJ]at hc;rw[hc]at r3;exact r3
   obtain⟨v,v7,mD⟩:=qw (P:=P) (w:=w) (t:=e) (o:=m.toNat*sz) r3 rfl l1 (by rw[h4];exact hg) (by rw[qV];exact hn)
   refine⟨c,v,hK,?_,mD⟩
   rw[hv,hm]
   simp only[Instr.index,asIntOf,bJ,Sem.run_pure,run_underlying hu,rJ]
   rw[if_pos ⟨h0,h1⟩]
   simp only[bJ,run_sizeOf hn,rJ]
   exact v7
  ·exact hK.elim
 ·exact hK.elim
theorem F0 {t:TypeId} {x i:Operand} {y j:AX} {G:Bool} {K:PV->Prop} (hx:jG x=some y) (hi:jG i=some j) (hs:iz nt ds s Γ a) (hG:G=true)
  (hu:P.underlying t=some .string) (he:ev G s (.indexS y j) K):iS P Γ w (Instr.index t (a.eval x) (a.eval i)) K:=by
 simp only[ev]at he
 obtain⟨p,hp,hr⟩:=cy hx hs hG he
 obtain⟨q,hq,pG⟩:=cy hi hs hG hp
 obtain⟨k,m,hm,hK⟩:=gO hq pG
 split at hK
 ·rename_i bs
  split at hK
  ·rename_i c hc
   obtain⟨str,hv,hd⟩:=hr.str
   refine⟨_,_,hK.2,?_,dC⟩
   rw[hv,hm]
   have:str[m.toNat]? =some c:=by
    rw[←hd]at hc
    rw[Array.getElem?_toList]at hc
    obtain⟨eu,he⟩:=Array.getElem?_eq_some_iff.1 hc
    rw[getElem?_pos str m.toNat eu]
    exact congrArg some he
   simp only[Instr.index,asIntOf,bJ,Sem.run_pure,run_underlying hu,rJ]
   rw[if_pos hK.1,this];rfl
  ·exact hK.elim
 ·exact hK.elim
theorem I1 {t:TypeId} {x:Operand} {y:AX} {G g:Bool} {K:PV->Prop} {i n:Nat} {fs:Array Field} {f:Field} (hx:jG x=some y) (hs:iz nt ds s Γ a) (hG:G=true)
  (hu:P.underlying t=some (.struct fs)) (hf:fs[i]? =some f) (hg:nM P f.type=some g) (hn:jz P f.type=some n) (he:ev G s (.field i f.offset g n y) K):
  iS P Γ w (Instr.field t (a.eval x) i) K:=by
 simp only[ev]at he
 obtain⟨p,hp,hr⟩:=cy hx hs hG he
 split at hp
 ·rename_i sw l
  split at hp
  ·rename_i c hc
   obtain⟨⟨h1,h2,h3⟩,hK⟩:=hp
   obtain⟨cs,hv,xr⟩:=hr.cells rfl
   obtain⟨hl,hlen⟩:=xr.tL
   have sL:=(List.getElem?_eq_some_iff.1 hc).1
   obtain⟨c1,v1,c2,rfl,l1,r3⟩:∃c1 v1 c2,cs=c1++(c2++v1)∧c1.length=f.offset∧aD Γ [c] c2:=by
    have e1:l=l.take i++l[i]::l.drop (i+1):=by rw[List.getElem_cons_drop,List.take_append_drop]
    rw[e1]at hl
    obtain⟨c1,u1,rfl,r1,r2⟩:=hl.split
    obtain⟨c2,v2,rfl,r3,r4⟩:=r2.qb
    refine⟨c1,v2,c2,rfl,?_,?_⟩
    ·rw[r1.length,h1]
    ·rw[gJ sL]at hc;simp only[sJ]at hc;rw[hc]at r3;exact r3
   obtain⟨v,v7,mD⟩:=qw (P:=P) (w:=w) (t:=f.type) (o:=f.offset) r3 rfl l1 (by rw[h3];exact hg) (by rw[h2];exact hn)
   refine⟨c,v,hK,?_,mD⟩
   rw[hv]
   simp only[Instr.field,bJ,run_underlying hu,rJ,hf,asAgg,Sem.run_pure]
   exact v7
  ·exact hp.elim
 ·exact hp.elim
theorem DZ {x:Operand} {y:AX} {G:Bool} {K:PV->Prop} {i:Nat} (hx:jG x=some y) (hs:iz nt ds s Γ a) (he:ev G s (.extract i y) K):
  iS P Γ w (Instr.extract (a.eval x) i) K:=by
 simp only[ev]at he
 have hr:=wg hx hs
 split at he
 ·rename_i l hl
  rw[hl]at hr
  simp only[aN]at hr
  obtain⟨vs,hv,eO⟩:=hr
  split at he
  ·rename_i p hp
   obtain⟨v,v7,mD⟩:=eO.get hp
   exact⟨p,v,he,by rw[hv];simp[Instr.extract,v7],mD.rep⟩
  ·exact he.elim
 ·exact he.elim
theorem F1 {f:Fn} {x z:Array Operand} {y u:List AX} {G:Bool} {K:PV->Prop} (hx:uK x.toList=some y) (hz:uK z.toList=some u) (hs:iz nt ds s Γ a) (hG:G=true) (he:ev G s (.mkFunc f y u) K):
  iS P Γ w (Instr.makeFunc f (x.map a.eval) (z.map a.eval)) K:=by
 simp only[ev]at he
 obtain⟨ps,hp,hlen,eO⟩:=uL hs hG hx he
 obtain⟨qs,hq,T7,aeR⟩:=uL hs hG hz hp
 obtain⟨⟨h1,h2⟩,hK⟩:=hq
 have r1:aD Γ ps (x.toList.map a.eval):=DW (by simpa using hlen) (λi p v h3 h4=>by
  rw[List.getElem?_map,mJ]at h4
  obtain⟨o,h4,rfl⟩:=h4
  exact eO i p o h3 h4) h1
 have r2:aD Γ qs (z.toList.map a.eval):=DW (by simpa using T7) (λi p v h3 h4=>by
  rw[List.getElem?_map,mJ]at h4
  obtain⟨o,h4,rfl⟩:=h4
  exact aeR i p o h3 h4) h2
 refine⟨_,.func f (x.map a.eval) (z.map a.eval),hK,rfl,?_⟩
 simp only[aN]
 have:=aD.fn (Γ:=Γ) f ps qs r1 r2 (λp hp=>by have:=List.all_eq_true.1 h1 p hp;simp at this;exact this.1) (λp hp=>by have:=List.all_eq_true.1 h2 p hp;simp at this;exact this.1) .nil
 have e1:(x.toList.map a.eval).toArray=x.map a.eval:=by apply Array.ext';simp
 have e2:(z.toList.map a.eval).toArray=z.map a.eval:=by apply Array.ext';simp
 rw[e1,e2]at this
 exact this
theorem CF {o:Oper} {x:Operand} {y:AX} {G:Bool} {K:PV->Prop} (ho:o.op= .nilCheck x) (hx:jG x=some y) (hs:iz nt ds s Γ a) (hG:G=true) (he:ev G s (.nilCheck y) K):
  ∃p v,K p∧(execOp a.eval o).run P w= .ok (.value v) w∧aN Γ p v:=by
 simp only[ev]at he
 obtain⟨p,hp,hr⟩:=cy hx hs hG he
 split at hp
 ·split at hp
  ·rename_i blk hb
   have RN:=hr
   rw[←hs.bx]at hb
   obtain⟨b,hι,hv⟩:=RN.pt hb hp.1
   exact⟨_,_,hp.2,by simp only[execOp,ho];rw[hv];rfl,by rw[←hv];exact hr⟩
  ·exact hp.elim
 ·obtain⟨b,o',cs,hv,_⟩:=aN.fp hr
  exact⟨_,_,hp,by simp only[execOp,ho];rw[hv];rfl,by rw[←hv];exact hr⟩
 ·obtain⟨fs,cs,hv,_⟩:=aN.fn hr
  exact⟨_,_,hp,by simp only[execOp,ho];rw[hv];rfl,by rw[←hv];exact hr⟩
 ·exact hp.elim
theorem iS.exec {o:Oper} {x:Sem Value} {K:PV->Prop} (h:iS P Γ w x K) (he:execOp a.eval o=(do Pure.pure (.value (←x)))):
  ∃p v,K p∧(execOp a.eval o).run P w= .ok (.value v) w∧aN Γ p v:=by
 obtain⟨p,v,hK,hr,hv⟩:=h
 exact⟨p,v,hK,by rw[he];simp[hr],hv⟩
theorem wm {t:TypeId} {i:TypeInfo} (h:P.info? t=some i):jz P t=some i.size:=by simp[jz,h]
theorem KL {G:Bool} {K:PV->Prop} {s:St} (h:ev G s (.len (.c (.bl true))) K):False:=by simp[ev,vg,vx]at h
theorem za {o:Oper} {k:AK} {own G:Bool} {K:PV->Prop} (hk:lB P own o.op=some k) (hs:iz nt ds s Γ a) (hw:w.heap=Γ.heap) (hG:G=true) (he:ev G s k K):
  ∃p v,K p∧(execOp a.eval o).run P w= .ok (.value v) w∧aN Γ p v:=by
 obtain⟨dst,op,ty,pos,after,guard⟩:=o
 cases op with
 |
  move x=>
  simp only[lB]at hk
  split at hk<;>simp only[sJ,reduceCtorEq]at hk
  rename_i y hx;subst hk
  simp only[ev]at he
  obtain⟨p,hp,hr⟩:=cy hx hs hG he
  exact⟨p,_,hp,rfl,hr⟩
 |
  assign x=>
  simp only[lB]at hk
  split at hk<;>simp only[sJ,reduceCtorEq]at hk
  rename_i y hx;subst hk
  simp only[ev]at he
  obtain⟨p,hp,hr⟩:=cy hx hs hG he
  exact⟨p,_,hp,rfl,hr⟩
 |
  pick c x y=>
  simp only[lB]at hk
  split at hk<;>simp only[sJ,reduceCtorEq]at hk
  rename_i c' x' y' hc hx hy;subst hk
  obtain⟨p,v,h1,h2,h3⟩:=KE (P:=P) (w:=w) hc hx hy hs hG he
  refine⟨p,v,h1,?_,h3⟩
  simp only[execOp]
  simp only[bJ]at h2⊢
  cases hb:(asBool (a.eval c)).run P w with
  |
   ok b w'=>
   rw[hb]at h2
   simp only[rJ,Sem.run_pure,Result.ok.injEq]at h2⊢
   exact⟨by rw[h2.1],h2.2⟩
  |halt h w'=>rw[hb]at h2;simp at h2
 |
  build t parts=>
  have IG:lB P false (.build t parts)=some k:=hk
  exact(wh (P:=P) (w:=w) IG hs hG he).exec rfl
 |
  load t x=>
  simp only[lB]at hk
  split at hk
  ·rename_i g n y hg hn hx
   split at hk<;>simp only[sJ,reduceCtorEq]at hk
   subst hk
   exact(DT hx hs hw hG hg hn he).exec rfl
  ·simp at hk
 |
  nilCheck x=>
  simp only[lB]at hk
  split at hk<;>simp only[sJ,reduceCtorEq]at hk
  rename_i y hx;subst hk
  exact CF rfl hx hs hG he
 |
  binOp op t x y yt=>
  exact(IZ (P:=P) (w:=w) hk hs hG he).exec rfl
 |
  unOp op t x=>
  simp only[lB]at hk
  split at hk<;>simp only[sJ,reduceCtorEq]at hk
  rename_i y hx;subst hk
  exact(Ur hx hs hG he).exec rfl
 |
  convert t d x=>
  simp only[lB]at hk
  split at hk
  ·rename_i k1 k2 y h1 h2 hx
   simp only[sJ]at hk;subst hk
   exact(IW hx hs hG h1 h2 he).exec rfl
  ·rename_i e y h1 h2 hx
   split at hk<;>simp only[sJ,reduceCtorEq]at hk
   rename_i h3;subst hk
   exact(IX hx hs hw hG h1 h2 h3 he).exec rfl
  ·split at hk<;>simp only[sJ,reduceCtorEq]at hk
   subst hk;simp[ev]at he
  ·split at hk
   ·split at hk<;>simp only[sJ,reduceCtorEq]at hk
    subst hk;simp[ev]at he
   ·simp at hk
  ·simp at hk
 |
  makeFunc f x z=>
  simp only[lB]at hk
  split at hk<;>simp only[sJ,reduceCtorEq]at hk
  rename_i p q hx hz;subst hk
  exact(F1 hx hz hs hG he).exec rfl
 |
  slice t x lo hi mx=>
  simp only[lB]at hk
  split at hk
  ·rename_i y Fz jf Kn hu hx hl hh hm
   simp only[sJ]at hk;subst hk
   exact(Bg hx hl hh hm hs hG hu he).exec rfl
  ·rename_i e y Fz jf Kn hu hx hl hh hm
   split at hk
   ·rename_i n hn
    split at hk<;>simp only[sJ,reduceCtorEq]at hk
    rename_i hmh;subst hk
    exact(CA hx hl hh hm hmh hs hG hu hn he).exec rfl
   ·simp at hk
  ·rename_i n e y Fz jf Kn hu hx hl hh hm
   split at hk<;>simp only[sJ,reduceCtorEq]at hk
   rename_i sz hn;subst hk
   exact(CC hx hl hh hm hs hG hu hn he).exec rfl
  ·simp at hk
 |makeMap t r=>simp[lB]at hk
 |lookup t m x ok=>simp[lB]at hk
 |mapUpdate t m x y=>simp[lB]at hk
 |
  sliceToArrayPointer t x=>
  simp only[lB]at hk
  split at hk
  ·rename_i n e y hu hx
   split at hk<;>simp only[sJ,reduceCtorEq]at hk
   subst hk
   exact(OE hx hs hG hu he).exec rfl
  ·simp at hk
 |
  fieldAddr t x i=>
  simp only[lB]at hk
  split at hk
  ·rename_i fs y hu hx
   split at hk
   ·rename_i f hf
    split at hk<;>simp only[sJ,reduceCtorEq]at hk
    rename_i m hn;subst hk
    exact(FZ hx hs hG hu hf hn he).exec rfl
   ·simp at hk
  ·simp at hk
 |
  field t x i=>
  simp only[lB]at hk
  split at hk
  ·rename_i fs y hu hx
   split at hk
   ·rename_i f hf
    split at hk
    ·rename_i g n hg hn
     split at hk<;>simp only[sJ,reduceCtorEq]at hk
     subst hk
     exact(I1 hx hs hG hu hf hg hn he).exec rfl
    ·simp at hk
   ·simp at hk
  ·simp at hk
 |
  indexAddr t x i=>
  simp only[lB]at hk
  split at hk
  ·rename_i e y j hu hx hi
   split at hk<;>simp only[sJ,reduceCtorEq]at hk
   rename_i n hn;subst hk
   exact(Be hx hi hs hG hu hn he).exec rfl
  ·rename_i len e y j hu hx hi
   split at hk<;>simp only[sJ,reduceCtorEq]at hk
   rename_i n hn;subst hk
   exact(Bf hx hi hs hG hu hn he).exec rfl
  ·simp at hk
 |
  index t x i=>
  simp only[lB]at hk
  split at hk
  ·rename_i len e y j hu hx hi
   split at hk
   ·rename_i g n hg hn
    split at hk<;>simp only[sJ,reduceCtorEq]at hk
    subst hk
    exact(I0 hx hi hs hG hu hg hn he).exec rfl
   ·simp at hk
  ·rename_i y j hu hx hi
   simp only[sJ]at hk;subst hk
   exact(F0 hx hi hs hG hu he).exec rfl
  ·simp at hk
 |
  extract x i=>
  simp only[lB]at hk
  split at hk<;>simp only[sJ,reduceCtorEq]at hk
  rename_i y hx;subst hk
  exact(DZ hx hs he).exec rfl
 |
  call c=>
  obtain⟨callee,args,tys⟩:=c
  obtain⟨args⟩:=args
  obtain⟨tys⟩:=tys
  cases callee with
  |
   value f=>
   simp only[lB]at hk
   split at hk<;>simp only[sJ,reduceCtorEq]at hk
   subst hk
   simp[ev]at he
  |invoke r m=>simp[lB]at hk
  |
   builtin b=>
   simp only[lB]at hk
   have hex:∀(x:Sem Value) (c:Array Bool),builtin b tys.toArray ty c ((args.map a.eval).toArray)=(do Pure.pure (.value (←x)))->iS P Γ w x K->
     c=(args.toArray.map λ| .const _=>true|_=>false)->
     ∃p v,K p∧(execOp a.eval {dst:=dst,op:= .call {callee:= .builtin b,args:=args.toArray,argTypes:=tys.toArray},type:=ty,pos:=pos,after:=after,guard:=guard}).run P w= .ok (.value v) w∧aN Γ p v:=by
    intro x c hx hy hc
    refine hy.exec ?_
    have e:Array.map a.eval args.toArray=(args.map a.eval).toArray:=by simp
    simp only[execOp,resolve,e]
    rw[←hx,hc]
    rfl
   cases b with
   |len=>exact hex _ _ rfl (OG (P:=P) (w:=w) (ty:=ty) hk hs hG he) rfl
   |cap=>exact hex _ _ rfl (OF (P:=P) (w:=w) (ty:=ty) hk hs hG he) rfl
   |
    min=>
    unfold dx at hk
    simp only at hk
    split at hk<;>simp only[sJ,reduceCtorEq]at hk
    rename_i l hl;subst hk
    exact hex _ _ rfl (by simpa using KJ (P:=P) (w:=w) (ty:=ty) (tys:=tys) hl hs hG he) rfl
   |
    max=>
    unfold dx at hk
    simp only at hk
    split at hk<;>simp only[sJ,reduceCtorEq]at hk
    rename_i l hl;subst hk
    exact hex _ _ rfl (by simpa using KJ (P:=P) (w:=w) (ty:=ty) (tys:=tys) hl hs hG he) rfl
   |
    append=>
    unfold dx at hk
    split at hk<;>(try contradiction)
    repeat (split at hk<;>(try contradiction))
    all_goals first|(simp only[sJ]at hk;subst hk;simp[ev]at he;done)|(simp at hk;done)|(split at hk<;>first|(simp only[sJ]at hk;subst hk;simp[ev]at he;done)|(simp at hk;done))
   |
    copy=>
    unfold dx at hk
    split at hk<;>(try contradiction)
    repeat (split at hk<;>(try contradiction))
    all_goals (simp only[sJ]at hk;subst hk;simp[ev]at he)
   |
    clear=>
    unfold dx at hk
    split at hk<;>(try contradiction)
    repeat (split at hk<;>(try contradiction))
    all_goals (simp only[sJ]at hk;subst hk;simp[ev]at he)
   |_=>unfold dx at hk;split at hk<;>contradiction
 |
  alloc t=>
  simp only[lB]at hk
  split at hk<;>simp only[sJ,reduceCtorEq]at hk
  subst hk;simp[ev]at he
 |
  box t x=>
  simp only[lB]at hk
  split at hk<;>simp only[sJ,reduceCtorEq]at hk
  subst hk;simp[ev]at he
 |
  buildSlice t n parts=>
  simp only[lB]at hk
  repeat (split at hk<;>(try contradiction))
  all_goals (simp only[sJ]at hk;subst hk;simp[ev]at he)
 |
  makeSlice t l c=>
  simp only[lB]at hk
  repeat (split at hk<;>(try contradiction))
  all_goals (simp only[sJ]at hk;subst hk;simp[ev]at he)
 |
  store t x y=>
  simp only[lB]at hk
  split at hk<;>simp only[sJ,reduceCtorEq]at hk
  subst hk;simp[ev]at he
 |makeInterface=>simp only[lB,sJ]at hk;subst hk;exact(KL he).elim
 |panic=>simp only[lB,sJ]at hk;subst hk;exact(KL he).elim
 |_=>simp[lB]at hk
end Go.Ab
