/- Each quiet operation does what its abstract reading says. No condition. -/
import Derived.Test.YtdfkcobijmbidaaGreatA1
set_option linter.all false
namespace Go.Ab
variable [eE]
variable {P:Program} {nt:Nat} {ds:List Deferred} {s:St} {Γ:Cx} {a:Act} {w:World}
theorem aP.int {k:IntKind} {n:Int} {v:Value} (h:aP Γ (.int k n) v):v= .int k n:=by
 simp only[aP]at h;cases h;rfl
theorem aP.bl {x:Bool} {v:Value} (h:aP Γ (.bl x) v):v= .bool x:=by
 simp only[aP]at h;cases h;rfl
theorem aP.str {l:List UInt8} {v:Value} (h:aP Γ (.str l) v):∃s:ByteArray,v= .string s∧s.data.toList=l:=by
 simp only[aP]at h;cases h with|str l s h _=>exact⟨s,rfl,h⟩
theorem aP.np {v:Value} (h:aP Γ .np v):v= .pointer none:=by
 simp only[aP]at h;cases h;rfl
theorem aP.nf {v:Value} (h:aP Γ .nf v):v= .nilFunc:=by
 simp only[aP]at h;cases h;rfl
theorem aP.pt {k aE:Nat} {p:List Step} {v:Value} {blk:bh} (h:aP Γ (.pt k p aE) v) (hg:get Γ.bx k=some blk) (ht:aE=blk.aE):
  ∃b,Γ.ι k=some b∧v= .pointer (some ⟨b,dj p,none⟩):=by
 simp only[aP]at h
 cases h with
 |
  pt k p aE v cI lC h1 hv _=>
  rw[hg]at lC
  obtain⟨h2,h3⟩:=lC
  cases h2
  exact hv ht
theorem aP.rs {k off len aE sz:Nat} {c:jA} {p:List Step} {v:Value} {blk:bh} (h:aP Γ (.rs k p off len aE sz c) v) (hg:get Γ.bx k=some blk) (ht:aE=blk.aE):
  ∃a bF,v= .slice a len bF∧jC Γ k p off len sz c a bF:=by
 simp only[aP]at h
 cases h with
 |
  rs k p off len aE sz c v cI lC h1 hv _=>
  rw[hg]at lC
  obtain⟨h2,h3⟩:=lC
  cases h2
  exact hv ht
theorem aP.fp {sz:Nat} {l:List PV} {p:List Step} {v:Value} (h:aP Γ (.fp sz l p) v):
  ∃b o cs,v= .pointer (some ⟨b,o+dj p,none⟩)∧aF Γ l cs∧(∀x∈l,x.width=sz)∧(b<Γ.heap.size∧¬Γ.own b)∧∀i c,cs[i]? =some c->cell Γ.heap b (o+i)=some c:=by
 simp only[aP]at h
 cases h with
 | @fp _ _ cs sz l p b o hl hw hm hc _=>exact⟨b,o,cs,rfl,hl,hw,hm,hc⟩
theorem aP.sl {sz:Nat} {l:List PV} {clip:Bool} {v:Value} (h:aP Γ (.sl sz l clip) v):
  ∃
   a bF cs,v= .slice a l.length bF∧aF Γ l cs∧(∀x∈l,x.width=sz)∧l.length≤bF∧(clip=true->bF=l.length)∧
   (l≠[]->∃b o,a=some ⟨b,o,none⟩∧b<Γ.heap.size∧¬Γ.own b∧∀i c,cs[i]? =some c->cell Γ.heap b (o+i)=some c):=by
 simp only[aP]at h
 cases h with
 | @sl _ _ cs sz l clip a bF hl hw hc hk hb _=>exact⟨a,bF,cs,rfl,hl,hw,hc,hk,hb⟩
theorem aP.fn {f:Fn} {first cap:List PV} {v:Value} (h:aP Γ (.fn f first cap) v):
  ∃fs cs:List Value,v= .func f fs.toArray cs.toArray∧aF Γ first fs∧aF Γ cap cs∧(∀x∈first,x.isAgg=false)∧(∀x∈cap,x.isAgg=false):=by
 simp only[aP]at h
 cases h with
 | @fn _ _ fs cs f first cap h1 h2 h3 h4 _=>exact⟨fs,cs,rfl,h1,h2,h3,h4⟩
theorem aP.rZ {p:PV} {cs:List Value} (h:aF Γ [p] cs) (fB:p.isAgg=true):aP Γ p (.agg cs.toArray):=by
 cases p<;>simp[PV.isAgg]at fB
 ·exact⟨cs,rfl,h⟩
 ·exact⟨cs,rfl,h⟩
theorem aP.Dy {p:PV} {v:Value} (h:aF Γ [p] [v]) (fB:p.isAgg=false):aP Γ p v:=by
 cases p<;>simp[PV.isAgg]at fB<;>first|exact h|trivial|(cases h;done)
theorem aP.cells {p:PV} {v:Value} (h:aP Γ p v) (fB:p.isAgg=true):∃cs:List Value,v= .agg cs.toArray∧aF Γ [p] cs:=by
 cases p<;>simp[PV.isAgg]at fB
 ·exact h
 ·exact h
theorem aP.Ac {p:PV} {v:Value} (h:aP Γ p v) (hc:p.bp=true):aF Γ [p] v.cells.toList:=by
 cases p<;>simp[PV.bp]at hc
 case st w l=>obtain⟨cs,rfl,h⟩:=h;simpa[Value.cells]using h
 case ar sz n l=>obtain⟨cs,rfl,h⟩:=h;simpa[Value.cells]using h
 all_goals
  simp only[aP]at h
  have h1:=h.one v (by simp)
  have:v.cells= #[v]:=by cases v<;>simp_all [gF,Value.cells]
  rw[this];exact h
theorem QH {v:Value} {p:PV} (h:trV v=some p):aP Γ p v:=by
 unfold trV at h
 split at h<;>simp only[sJ,reduceCtorEq]at h<;>subst h<;>simp only[aP]
 ·exact .bl _ .nil
 ·exact .int _ _ .nil
 ·exact .str _ _ rfl .nil
 ·exact .np .nil
 ·exact .sl 0 [] true none 0 .nil (by simp) (Nat.le_refl _) (λ_=>rfl) (λh=>absurd rfl h) .nil
 ·exact .nf .nil
 ·exact .ni .nil
theorem wU {x:Operand} {y:AX} (h:gN x=some y) (hs:iB nt ds s Γ a):aP Γ (vx s y) (a.eval x):=by
 cases x with
 |
  tmp t=>
  simp only[gN,sJ]at h
  subst h
  simp only[vx,Act.eval]
  cases hg:get s.env t with
  |none=>simp[aP]
  |some p=>simpa using hs.env t p hg
 |
  const v=>
  simp only[gN]at h
  split at h
  ·rename_i p hp
   simp only[sJ]at h;subst h
   exact QH hp
  ·exact absurd h (by simp)
 |global g=>simp[gN]at h
 |
  func f=>
  simp only[gN,sJ]at h
  subst h
  simp only[vx,Act.eval,aP]
  simpa using aF.fn (Γ:=Γ) (fs:=[]) (cs:=[]) (.func f) [] [] .nil .nil (by simp) (by simp) .nil
theorem cU {g:Bool} {x:Operand} {y:AX} {K:PV->Prop} (h:gN x=some y) (hs:iB nt ds s Γ a) (hg:g=true) (hv:vg g s y K):
  ∃p,K p∧aP Γ p (a.eval x):=by
 have hr:=wU h hs
 unfold vg at hv
 split at hv
 ·rename_i b p hb
  rw[hb]at hr
  exact⟨p,hv.2,by rw[aP]at hr;exact hr.1 (hv.1 hg)⟩
 ·exact⟨_,hv,hr⟩
theorem uY {g:Bool} (hs:iB nt ds s Γ a) (hg:g=true):∀ {xs:List Operand} {ys:List AX} {K:List PV->Prop},qU xs=some ys->tR g s ys K->
  ∃ps,K ps∧ps.length=xs.length∧∀(i:Nat) p x,ps[i]? =some p->xs[i]? =some x->aP Γ p (a.eval x)
 |
  [],ys,K,h,hv=>by
  simp only[qU,sJ]at h;subst h
  exact⟨[],hv,rfl,by simp⟩
 |
  x::xs,ys,K,h,hv=>by
  simp only[qU]at h
  split at h
  ·rename_i y l hy hl
   simp only[sJ]at h;subst h
   obtain⟨p,hp,hr⟩:=cU hy hs hg hv
   obtain⟨ps,tv,hlen,fu⟩:=uY hs hg hl hp
   refine⟨p::ps,tv,by simp[hlen],λi q z h1 h2=> ?_⟩
   cases i with
   |zero=>simp at h1 h2;subst h1 h2;exact hr
   |succ i=>simp at h1 h2;exact fu i q z h1 h2
  ·exact absurd h (by simp)
theorem zb {g:Bool} (hs:iB nt ds s Γ a) (hg:g=true):∀ {xs:List (Nat×Operand)} {ys:List (Nat×AX)} {K:List (Nat×PV)->Prop},n7 xs=some ys->za g s ys K->
  ∃ps,K ps∧ps.length=xs.length∧∀(i:Nat) j p k x,ps[i]? =some (j,p)->xs[i]? =some (k,x)->j=k∧aP Γ p (a.eval x)
 |
  [],ys,K,h,hv=>by
  simp only[n7,sJ]at h;subst h
  exact⟨[],hv,rfl,by simp⟩
 |
  (n,x)::xs,ys,K,h,hv=>by
  simp only[n7]at h
  split at h
  ·rename_i y l hy hl
   simp only[sJ]at h;subst h
   obtain⟨p,hp,hr⟩:=cU hy hs hg hv
   obtain⟨ps,tv,hlen,fu⟩:=zb hs hg hl hp
   refine⟨(n,p)::ps,tv,by simp[hlen],λi j q k z h1 h2=> ?_⟩
   cases i with
   |zero=>simp at h1 h2;obtain⟨rfl,rfl⟩:=h1;obtain⟨rfl,rfl⟩:=h2;exact⟨rfl,hr⟩
   |succ i=>simp at h1 h2;exact fu i j q k z h1 h2
  ·exact absurd h (by simp)
theorem gY {p:PV} {K:Int->Prop} {v:Value} (h:mM p K) (hr:aP Γ p v):∃k n,v= .int k n∧K n:=by
 unfold mM at h
 split at h
 ·exact⟨_,_,hr.int,h⟩
 ·exact h.elim
def iS (P:Program) (Γ:Cx) (w:World) (x:Sem Value) (K:PV->Prop):Prop:=
 ∃p v,K p∧x.run P w= .ok v w∧aP Γ p v
theorem iS.pure {K:PV->Prop} {p:PV} {v:Value} (h:K p) (hr:aP Γ p v):iS P Γ w (Pure.pure v) K:=⟨p,v,h,rfl,hr⟩
theorem j3 {x:Bool}:aP Γ (.bl x) (.bool x):=by simp only[aP];exact .bl _ .nil
theorem en {k:IntKind} {n:Int}:aP Γ (.int k n) (.int k n):=by simp only[aP];exact .int _ _ .nil
theorem Mk {b:ByteArray}:aP Γ (.str b.data.toList) (.string b):=by simp only[aP];exact .str _ _ rfl .nil
theorem wV {b:ByteArray} {l:List UInt8} (h:b.data.toList=l):aP Γ (.str l) (.string b):=by subst h;exact Mk
theorem r7 (b:ByteArray):b.toList=b.data.toList:=by rw[ByteArray.toList_eq]
theorem QI {op:BinOp} {t:TypeId} {k k':IntKind} {m n:Int} {K:PV->Prop} (hk:op= .shl∨op= .shr∨k=k') (h:pn op k m n K):
  iS P Γ w (binOp op t (.int k m) (.int k' n)) K:=by
 rcases hk with rfl|rfl|rfl
 ·obtain⟨h1,h2⟩:=h
  refine⟨_,_,h2,?_,en⟩
  simp only[binOp,Op.shift]
  rw[if_neg (by omega)];rfl
 ·obtain⟨h1,h2⟩:=h
  refine⟨_,_,h2,?_,en⟩
  simp only[binOp,Op.shift]
  rw[if_neg (by omega)];rfl
 ·cases op<;>simp only[pn]at h
  case quo=>exact⟨_,_,h.2,by simp[binOp,Op.intDiv,h.1],en⟩
  case rem=>exact⟨_,_,h.2,by simp[binOp,Op.intDiv,h.1],en⟩
  case shl=>exact⟨_,_,h.2,by simp only[binOp,Op.shift];rw[if_neg (by omega)];rfl,en⟩
  case shr=>exact⟨_,_,h.2,by simp only[binOp,Op.shift];rw[if_neg (by omega)];rfl,en⟩
  case andNot=>exact⟨_,_,h,by rw[binOp_andNot];rfl,en⟩
  case and=>exact⟨_,_,h,by rw[binOp_and];rfl,en⟩
  case or=>exact⟨_,_,h,by rw[binOp_or];rfl,en⟩
  case xor=>exact⟨_,_,h,by rw[binOp_xor];rfl,en⟩
  case add=>exact⟨_,_,h,by rw[binOp_add];rfl,en⟩
  case sub=>exact⟨_,_,h,by rw[binOp_sub];rfl,en⟩
  case mul=>exact⟨_,_,h,by rw[binOp_mul];rfl,en⟩
  all_goals exact⟨_,_,h,by simp[binOp,Op.intCmp],j3⟩
theorem QJ {op:BinOp} {t:TypeId} {x y:ByteArray} {K:PV->Prop} (h:wT op x.data.toList y.data.toList K):
  iS P Γ w (binOp op t (.string x) (.string y)) K:=by
 cases op<;>simp only[wT]at h<;>first|exact h.elim|skip
 case add=>
  refine⟨_,_,h.2,?_,wV (b:=x++y) (by simp)⟩
  have:¬((x.size+y.size:Nat):Int)>IntKind.i64.max:=by
   have h1:=h.1
   have e1:x.data.toList.length=x.size:=Array.length_toList
   have e2:y.data.toList.length=y.size:=Array.length_toList
   have e3:IntKind.i64.max=9223372036854775807:=by decide
   omega
  simp only[binOp,Op.stringOp]
  rw[if_neg this];rfl
 all_goals
  refine⟨_,_,h,?_,j3⟩
  simp[binOp,Op.stringOp,r7]
end Go.Ab
namespace Go.Ab
variable [eE]
variable {P:Program} {nt:Nat} {ds:List Deferred} {s:St} {Γ:Cx} {a:Act} {w:World}
theorem Ad {l:List PV} {sz:Nat} {p:List Step} {u:PV} {cs:List Value} (h:aF Γ l cs) (hw:∀x∈l,x.width=sz) (hg:mL (.arr sz l) p=some u):
  dj p+u.width≤cs.length∧aF Γ [u] ((cs.drop (dj p)).take u.width):=by
 cases p with
 |nil=>simp[mL]at hg
 |
  cons x p=>
  cases x with
  |f i o=>simp[mL]at hg
  |
   i j s=>
   simp only[mL]at hg
   split at hg
   ·rename_i hs
    subst hs
    split at hg
    ·rename_i c hc
     have h3:=h.at hc
     obtain⟨h4,h5⟩:=qg p h3 hg
     have h6:=h3.iR
     have:=z5 h hc (by omega) rfl h5
     have hj:=(List.getElem?_eq_some_iff.1 hc).1
     rw[iG hw (by omega)]at this
     simpa[dj]using this
    ·exact absurd hg (by simp)
   ·exact absurd hg (by simp)
  |
   w o n s=>
   simp only[mL]at hg
   split at hg
   ·rename_i hs
    obtain⟨rfl,hs⟩:=hs
    obtain⟨h1,h2⟩:=h.py hw hs
    have Qu:=h1.Ud (sz:=s) (n:=n) (by rw[lJ,List.length_drop,Nat.min_eq_left (by omega)]) (λx hx=>hw x (List.mem_of_mem_drop (List.mem_of_mem_take hx)))
    obtain⟨h3,h4⟩:=qg p Qu hg
    rw[lJ,List.length_drop]at h3
    rw[lu _ _ _ _ _ (by omega)]at h4
    refine⟨by simp only[dj];omega,by simpa only[dj]using h4⟩
   ·exact absurd hg (by simp)
theorem mQ {heap:Array Obj} {b o:Nat} {cs:List Value} (h:∀i c,cs[i]? =some c->cell heap b (o+i)=some c) (p n:Nat):
  ∀i c,((cs.drop p).take n)[i]? =some c->cell heap b (o+p+i)=some c:=by
 intro i c hc
 rw[List.getElem?_take]at hc
 split at hc
 ·rw[List.getElem?_drop]at hc
  have:=h _ _ hc
  rwa [Nat.add_assoc]
 ·exact absurd hc (by simp)
theorem lW {heap:Array Obj} {b:Nat} {c:Array Value} {e:TypeId} {fr:Nat×Nat} (h:heap[b]? =some (.cells c e fr)) (cs rest:List Value) (hc:c.toList=cs++rest):
  ∀i x,cs[i]? =some x->cell heap b (0+i)=some x:=by
 intro i x hx
 simp only[cell,h,Nat.zero_add]
 have hi:=(List.getElem?_eq_some_iff.1 hx).1
 rw[←Array.getElem?_toList,hc,List.getElem?_append_left hi,hx]
theorem Mem.at (hm:Mem Γ) {k b:Nat} {blk:bh} {p:List Step} {u:PV} (hg:get Γ.bx k=some blk) (hb:Γ.ι k=some b) (hu:mL blk p=some u):
  ∃cs,aF Γ [u] cs∧∀i c,cs[i]? =some c->cell Γ.heap b (dj p+i)=some c:=by
 have h:=hm.blk k blk hg
 cases blk with
 |
  box v=>
  obtain⟨b',c,e,h1,h2,h3⟩:=h
  rw[hb]at h1;cases h1
  obtain⟨h4,h5⟩:=qg p h3 (by simpa[mL]using hu)
  refine⟨_,h5,?_⟩
  have:=mQ (lW h2 c.toList [] (by simp)) (dj p) u.width
  simpa using this
 |
  arr sz l=>
  obtain⟨h1,h2,h3⟩:=h
  rw[hb]at h3
  obtain⟨c,e,cs,rest,h4,h5,h6,_⟩:=h3
  obtain⟨h7,h8⟩:=Ad h6 h1 hu
  refine⟨_,h8,?_⟩
  have:=mQ (lW h4 cs rest h5) (dj p) u.width
  simpa using this
 |map b0 ks vs l=>simp[mL]at hu
theorem cell?_eq (w:World) (b o:Nat):w.cell? ⟨b,o,none⟩=cell w.heap b o:=by
 simp only[World.cell?,cell]
 split<;>simp_all
theorem sH {t:TypeId} {g:Bool} (h:lV P t=some g):(isAgg t).run P w= .ok g w:=by
 unfold lV at h
 split at h<;>simp only[sJ,reduceCtorEq]at h
 ·rename_i fs hu;subst h;simp[isAgg,run_underlying hu]
 ·rename_i n e hu;subst h;simp[isAgg,run_underlying hu]
 ·rename_i d h1 h2 hu;subst h
  simp only[isAgg,bJ,run_underlying hu,rJ]
  try split
  all_goals simp_all
theorem run_sizeOf {t:TypeId} {n:Nat} (h:gT P t=some n):(sizeOf t).run P w= .ok n w:=by
 unfold gT at h
 split at h<;>simp only[sJ,reduceCtorEq]at h
 rename_i i hi;subst h
 simp[sizeOf,typeInfo,hi]
theorem jN (b o n:Nat):Addr.add ⟨b,o,none⟩ n=⟨b,o+n,none⟩:=by
 simp only[Addr.add];split
 ·subst_vars;rfl
 ·rfl
theorem ye {t:TypeId} {u:PV} {cs:List Value} {b o:Nat} (hr:aF Γ [u] cs) (hc:∀i c,cs[i]? =some c->cell w.heap b (o+i)=some c)
  (hg:lV P t=some u.isAgg) (hn:gT P t=some u.width):∃v,(loadVar t ⟨b,o,none⟩).run P w= .ok v w∧aP Γ u v:=by
 have hl:=hr.iR
 cases ha:u.isAgg with
 |
  true=>
  refine⟨.agg cs.toArray,?_,aP.rZ hr ha⟩
  rw[ha]at hg
  simp only[loadVar,bJ,sH hg,rJ,if_true,run_sizeOf hn]
  rw[←hl,run_loadCells_list w ⟨b,o,none⟩ cs (λj v hj=>by rw[jN,cell?_eq];exact hc j v hj)]
  rfl
 |
  false=>
  have h1:u.width=1:=by cases u<;>simp[PV.isAgg]at ha<;>rfl
  rw[h1]at hl
  obtain⟨v,rfl⟩:=List.length_eq_one_iff.1 hl
  refine⟨v,?_,aP.Dy hr ha⟩
  rw[ha]at hg
  have:=hc 0 v rfl
  simp only[loadVar,bJ,sH hg,rJ,fJ,if_false,run_load,cell?_eq]
  rw[Nat.add_zero]at this
  rw[this]
theorem E5 {t:TypeId} {x:Operand} {y:AX} {g:Bool} {G:Bool} {n:Nat} {K:PV->Prop} (hx:gN x=some y) (hs:iB nt ds s Γ a) (hw:w.heap=Γ.heap) (hG:G=true)
  (ha:lV P t=some g) (hn:gT P t=some n) (he:ev G s (.load g n y) K):iS P Γ w (Instr.loadAt t (a.eval x)) K:=by
 simp only[ev]at he
 obtain⟨p,hp,hr⟩:=cU hx hs hG he
 split at hp
 ·rename_i k p aE
  split at hp
  ·rename_i blk hb
   split at hp
   ·rename_i u hu
    obtain⟨⟨h1,h2,h3⟩,hK⟩:=hp
    rw[←hs.bx]at hb
    obtain⟨b,hι,hv⟩:=hr.pt hb h1
    obtain⟨cs,Cp,BH⟩:=hs.mem.at hb hι hu
    obtain⟨v,uK,px⟩:=ye (P:=P) (w:=w) (b:=b) (o:=dj p) Cp (by rw[hw];exact BH) (by rw[h3];exact ha) (by rw[h2];exact hn)
    exact⟨u,v,hK,by rw[hv];simpa[Instr.loadAt,Instr.sureAddr]using uK,px⟩
   ·exact hp.elim
  ·exact hp.elim
 ·rename_i sz l p
  split at hp
  ·rename_i u hu
   obtain⟨⟨h2,h3⟩,hK⟩:=hp
   obtain⟨b,o,cs,hv,hl,mF,hm,hc⟩:=hr.fp
   obtain⟨h4,h5⟩:=Ad hl mF hu
   obtain⟨v,uK,px⟩:=ye (P:=P) (w:=w) (b:=b) (o:=o+dj p) h5 (by rw[hw];exact mQ hc (dj p) u.width) (by rw[h3];exact ha) (by rw[h2];exact hn)
   exact⟨u,v,hK,by rw[hv];simpa[Instr.loadAt,Instr.sureAddr]using uK,px⟩
  ·exact hp.elim
 ·exact hp.elim
theorem aP.Ml {k b aE:Nat} {p:List Step} {blk:bh} (hb:get Γ.bx k=some blk) (ht:aE=blk.aE) (hι:Γ.ι k=some b) {o:Nat} (ho:o=dj p):
  aP Γ (.pt k p aE) (.pointer (some ⟨b,o,none⟩)):=by
 subst ho
 simp only[aP]
 exact .pt k p aE _ blk ⟨hb,by omega⟩ rfl (λ_=>⟨b,hι,rfl⟩) .nil
theorem aP.QK {sz b o:Nat} {l:List PV} {cs:List Value} {p:List Step} (hl:aF Γ l cs) (hw:∀x∈l,x.width=sz) (hm:b<Γ.heap.size∧¬Γ.own b)
  (hc:∀i c,cs[i]? =some c->cell Γ.heap b (o+i)=some c) {q:Nat} (hq:q=o+dj p):aP Γ (.fp sz l p) (.pointer (some ⟨b,q,none⟩)):=by
 subst hq
 simp only[aP]
 exact .fp sz l p b o hl hw hm hc .nil
theorem Hb {t:TypeId} {x:Operand} {y:AX} {G:Bool} {K:PV->Prop} {i m:Nat} {fs:Array Field} {f:Field} (hx:gN x=some y) (hs:iB nt ds s Γ a) (hG:G=true)
  (hu:P.underlying t=some (.struct fs)) (hf:fs[i]? =some f) (hn:gT P f.type=some (m+1)) (he:ev G s (.fieldA i f.offset y) K):
  iS P Γ w (Instr.fieldAt t (a.eval x) i) K:=by
 simp only[ev]at he
 obtain⟨p,hp,hr⟩:=cU hx hs hG he
 have key:∀b o,(Instr.fieldAt t (.pointer (some ⟨b,o,none⟩)) i).run P w= .ok (.pointer (some ⟨b,o+f.offset,none⟩)) w:=by
  intro b o
  simp only[Instr.fieldAt,bJ,run_underlying hu,rJ,hf,Instr.sureAddr,Sem.run_pure,fieldPlace,run_sizeOf hn]
  rw[if_neg (by omega)]
  simp[jN]
 split at hp
 ·rename_i k p aE
  split at hp
  ·rename_i blk hb
   rw[←hs.bx]at hb
   obtain⟨b,hι,hv⟩:=hr.pt hb hp.1
   exact⟨_,_,hp.2,by rw[hv];exact key _ _,.Ml hb hp.1 hι (by simp[lU,dj])⟩
  ·exact hp.elim
 ·rename_i sz l p
  obtain⟨b,o,cs,hv,hl,mF,hm,hc⟩:=hr.fp
  exact⟨_,_,hp,by rw[hv];exact key _ _,.QK hl mF hm hc (by simp[lU,dj];omega)⟩
 ·exact hp.elim
theorem B0 {t e:TypeId} {x i:Operand} {y j:AX} {G:Bool} {K:PV->Prop} {n:Nat} (hx:gN x=some y) (hi:gN i=some j) (hs:iB nt ds s Γ a) (hG:G=true)
  (hu:P.underlying t=some (.slice e)) (hn:gT P e=some n) (he:ev G s (.indexA (.sl n) y j) K):iS P Γ w (Instr.indexAt t (a.eval x) (a.eval i)) K:=by
 simp only[ev]at he
 obtain⟨p,hp,hr⟩:=cU hx hs hG he
 obtain⟨q,hq,nU⟩:=cU hi hs hG hp
 obtain⟨k,m,hm,hK⟩:=gY hq nU
 rw[hm]
 have key:∀b o (len cap:Nat),0≤m->m<len->(Instr.indexAt t (.slice (some ⟨b,o,none⟩) len cap) (.int k m)).run P w= .ok (.pointer (some ⟨b,o+m.toNat*n,none⟩)) w:=by
  intro b o len cap h0 h1
  simp only[Instr.indexAt,asIntOf,bJ,Sem.run_pure,run_underlying hu,rJ]
  rw[if_pos ⟨h0,h1⟩]
  simp[run_sizeOf hn,jN]
 split at hK
 ·rename_i bL l clip
  obtain⟨⟨rfl,h0,h1⟩,hK⟩:=hK
  obtain⟨ad,bF,cs,hv,hl,mF,hc,hk,hb⟩:=hr.sl
  obtain⟨b,o,rfl,gG,TK,lH⟩:=hb (by intro h;subst h;simp at h1;omega)
  rw[hv]
  exact⟨_,_,hK,key _ _ _ _ h0 h1,.QK hl mF ⟨gG,TK⟩ lH (by simp[dj])⟩
 ·rename_i kk p off len aE bL c
  split at hK
  ·rename_i blk hb
   obtain⟨⟨h1,rfl,h2,h3⟩,hK⟩:=hK
   rw[←hs.bx]at hb
   obtain⟨ad,bF,hv,ed⟩:=hr.rs hb h1
   unfold jC at ed
   cases hι:Γ.ι kk with
   |none=>rw[hι]at ed;omega
   |
    some b=>
    rw[hι]at ed
    obtain⟨h4,h5,_⟩:=ed
    rcases h5 with h5|rfl
    ·omega
    rw[hv]
    exact⟨_,_,hK,key _ _ _ _ h2 h3,.Ml hb h1 hι (by simp[lU,dj,Nat.add_mul];omega)⟩
  ·exact hK.elim
 ·exact hK.elim
theorem QL {t e:TypeId} {x:Operand} {y:AX} {G:Bool} {K:PV->Prop} {n sz:Nat} (hx:gN x=some y) (hs:iB nt ds s Γ a) (hG:G=true)
  (hu:P.underlying t=some (.array n e)) (he:ev G s (.s2a n sz y) K):iS P Γ w (Instr.arrayAt t (a.eval x)) K:=by
 simp only[ev]at he
 obtain⟨p,hp,hr⟩:=cU hx hs hG he
 have key:∀(ad:Option Addr) (len cap:Nat),n≤len->(Instr.arrayAt t (.slice ad len cap)).run P w= .ok (.pointer ad) w:=by
  intro ad len cap h
  simp only[Instr.arrayAt,bJ,run_underlying hu,rJ]
  rw[if_neg (by omega)];rfl
 split at hp
 ·rename_i bL l clip
  obtain⟨⟨rfl,h0,h1⟩,hK⟩:=hp
  obtain⟨ad,bF,cs,hv,hl,mF,hc,hk,hb⟩:=hr.sl
  obtain⟨b,o,rfl,gG,TK,lH⟩:=hb (by intro h;subst h;simp at h1;omega)
  rw[hv]
  exact⟨_,_,hK,key _ _ _ h1,.QK hl mF ⟨gG,TK⟩ lH (by simp[dj])⟩
 ·rename_i kk p off len aE bL c
  split at hp
  ·rename_i blk hb
   obtain⟨⟨h1,rfl,h2,h3⟩,hK⟩:=hp
   rw[←hs.bx]at hb
   obtain⟨ad,bF,hv,ed⟩:=hr.rs hb h1
   unfold jC at ed
   cases hι:Γ.ι kk with
   |none=>rw[hι]at ed;omega
   |
    some b=>
    rw[hι]at ed
    obtain⟨h4,h5,_⟩:=ed
    rcases h5 with h5|rfl
    ·omega
    rw[hv]
    exact⟨_,_,hK,key _ _ _ h3,.Ml hb h1 hι (by simp[lU,dj])⟩
  ·exact hp.elim
 ·exact hp.elim
theorem B3 {t e:TypeId} {x i:Operand} {y j:AX} {G:Bool} {K:PV->Prop} {len n:Nat} (hx:gN x=some y) (hi:gN i=some j) (hs:iB nt ds s Γ a) (hG:G=true)
  (hu:P.underlying t=some (.array len e)) (hn:gT P e=some n) (he:ev G s (.indexA (.ar len n) y j) K):iS P Γ w (Instr.indexAt t (a.eval x) (a.eval i)) K:=by
 simp only[ev]at he
 obtain⟨p,hp,hr⟩:=cU hx hs hG he
 obtain⟨q,hq,nU⟩:=cU hi hs hG hp
 obtain⟨k,m,hm,⟨h0,h1⟩,hK⟩:=gY hq nU
 rw[hm]
 have key:∀b o,(Instr.indexAt t (.pointer (some ⟨b,o,none⟩)) (.int k m)).run P w= .ok (.pointer (some ⟨b,o+m.toNat*n,none⟩)) w:=by
  intro b o
  simp only[Instr.indexAt,asIntOf,bJ,Sem.run_pure,run_underlying hu,rJ,Instr.sureAddr]
  rw[if_pos ⟨h0,h1⟩]
  simp[run_sizeOf hn,jN]
 split at hK
 ·rename_i k p aE
  split at hK
  ·rename_i blk hb
   rw[←hs.bx]at hb
   obtain⟨b,hι,hv⟩:=hr.pt hb hK.1
   exact⟨_,_,hK.2,by rw[hv];exact key _ _,.Ml hb hK.1 hι (by simp[lU,dj])⟩
  ·exact hK.elim
 ·rename_i sz l p
  obtain⟨b,o,cs,hv,hl,mF,hm,hc⟩:=hr.fp
  exact⟨_,_,hK,by rw[hv];exact key _ _,.QK hl mF hm hc (by simp[lU,dj];omega)⟩
 ·exact hK.elim
end Go.Ab
namespace Go.Ab
variable [eE]
variable {P:Program} {nt:Nat} {ds:List Deferred} {s:St} {Γ:Cx} {a:Act} {w:World}
theorem aP.gd {b:Bool} {p:PV} {v:Value} (h:aP Γ (.gd b p) v) (hb:b=true):aP Γ p v:=by
 rw[aP]at h;exact h.1 hb
theorem Mm {c x y:Operand} {c' x' y':AX} {G:Bool} {K:PV->Prop} (hc:gN c=some c') (hx:gN x=some x') (hy:gN y=some y') (hs:iB nt ds s Γ a) (hG:G=true)
  (he:ev G s (.pick c' x' y') K):iS P Γ w (do Pure.pure (if←asBool (a.eval c)then a.eval x else a.eval y)) K:=by
 simp only[ev]at he
 obtain⟨p,hp,hr⟩:=cU hc hs hG he
 have rx:=wU hx hs
 have ry:=wU hy hs
 split at hp
 ·rename_i b
  have hb:=hr.bl
  have key:((do Pure.pure (if←asBool (a.eval c)then a.eval x else a.eval y):Sem Value)).run P w= .ok (if b then a.eval x else a.eval y) w:=by
   rw[hb];simp[asBool]
  split at hp<;>rename_i e1 e2<;>(try rw[e1]at rx)<;>(try rw[e2]at ry)
  ·refine⟨_,_,hp,key,?_⟩
   rw[rx.bl,ry.bl];cases b<;>exact j3
  ·refine⟨_,_,hp.2,key,?_⟩
   cases b with
   |true=>rw[rx.bl];exact j3
   |false=>rw[(ry.gd (hp.1 rfl)).bl];exact j3
  ·refine⟨_,_,hp.2,key,?_⟩
   cases b with
   |false=>rw[ry.bl];exact j3
   |true=>rw[(rx.gd (hp.1 rfl)).bl];exact j3
  ·refine⟨_,_,hp.2,key,?_⟩
   cases b with
   |false=>rw[(ry.gd (hp.1.2 rfl)).bl];exact j3
   |true=>rw[(rx.gd (hp.1.1 rfl)).bl];exact j3
  ·refine⟨_,_,hp.2,key,?_⟩
   rw[hp.1,rx.bl];exact j3
  ·refine⟨_,_,hp.2,key,?_⟩
   rw[hp.1,ry.bl];exact j3
  ·exact hp.elim
 ·exact hp.elim
theorem WR {op:UnOp} {x:Operand} {y:AX} {G:Bool} {K:PV->Prop} (hx:gN x=some y) (hs:iB nt ds s Γ a) (hG:G=true) (he:ev G s (.un op y) K):
  iS P Γ w (Op.unary op (a.eval x)) K:=by
 simp only[ev]at he
 obtain⟨p,hp,hr⟩:=cU hx hs hG he
 split at hp
 ·exact⟨_,_,hp,by rw[hr.bl];rfl,j3⟩
 ·exact⟨_,_,hp,by rw[hr.int];rfl,en⟩
 ·exact⟨_,_,hp,by rw[hr.int];rfl,en⟩
 ·exact hp.elim
theorem J7 {t d:TypeId} {k k':IntKind} {x:Operand} {y:AX} {G:Bool} {K:PV->Prop} (hx:gN x=some y) (hs:iB nt ds s Γ a) (hG:G=true)
  (ht:P.underlying t=some (.int k')) (hd:P.underlying d=some (.int k)) (he:ev G s (.convI k y) K):iS P Γ w (convert t d (a.eval x)) K:=by
 simp only[ev]at he
 obtain⟨p,hp,hr⟩:=cU hx hs hG he
 obtain⟨k2,n,hv,hK⟩:=gY hp hr
 exact⟨_,_,hK,by rw[hv];simp[convert,run_underlying ht,run_underlying hd,Conv.intToInt],en⟩
theorem uZ {p:PV} {l:List PV} {bs:List UInt8} (h:iV (p::l)=some bs):∃n r,p= .int .u8 n∧0≤n∧n<256∧iV l=some r∧bs=UInt8.ofNat n.toNat::r:=by
 cases p<;>(try (simp only[iV,reduceCtorEq]at h;done))
 rename_i k n
 cases k<;>(try (simp only[iV,reduceCtorEq]at h;done))
 simp only[iV]at h
 split at h
 ·rename_i hn
  split at h
  ·rename_i r hr
   simp only[sJ]at h
   exact⟨n,r,rfl,hn.1,hn.2,hr,h.symm⟩
  ·exact absurd h (by simp)
 ·exact absurd h (by simp)
theorem r8:∀ {l:List PV} {bs:List UInt8},iV l=some bs->bs.length=l.length
 |[],bs,h=>by simp[iV]at h;subst h;rfl
 |
  p::l,bs,h=>by
  obtain⟨n,r,_,_,_,hr,rfl⟩:=uZ h
  simp[r8 hr]
theorem E6 {l:List PV}:∀ {bs:List UInt8} {cs:List Value},aF Γ l cs->iV l=some bs->cs.length=bs.length∧∀(i:Nat) c,cs[i]? =some c->∃n,c= .int .u8 n∧∃b,bs[i]? =some b∧b=UInt8.ofNat n.toNat:=by
 induction l with
 |nil=>intro bs cs h hb;cases h;simp[iV]at hb;subst hb;simp
 |
  cons p l ih=>
  intro bs cs h hb
  obtain⟨n,r,rfl,h0,h1,hr,rfl⟩:=uZ hb
  cases h with
  |
   int k n hl=>
   obtain⟨i1,i2⟩:=ih hl hr
   refine⟨by simp[i1],λi c hc=> ?_⟩
   cases i with
   |zero=>simp at hc;subst hc;exact⟨n,rfl,_,by simp,rfl⟩
   |succ i=>simp at hc;simpa using i2 i c hc
theorem pA {p:PV} {v:Value} {K:Nat->List PV->Prop} (hs:iB nt ds s Γ a) (h:content s p K) (hr:aP Γ p v):
  ∃sz l cs ad bF,K sz l∧v= .slice ad l.length bF∧aF Γ l cs∧(l≠[]->∃b o,ad=some ⟨b,o,none⟩∧∀i c,cs[i]? =some c->cell Γ.heap b (o+i)=some c)∧l.length≤bF∧∀x∈l,x.width=sz:=by
 unfold content at h
 split at h
 ·rename_i sz l clip
  obtain⟨ad,bF,cs,hv,hl,hw,hc,hk,hb⟩:=hr.sl
  exact⟨sz,l,cs,ad,bF,h,hv,hl,λfB=>let ⟨b,o,h1,_,_,h4⟩:=hb fB;⟨b,o,h1,h4⟩,hc,hw⟩
 ·rename_i k p off len aE sz c
  split at h
  ·rename_i bL l hb
   obtain⟨⟨h1,rfl,rfl,h4⟩,hK⟩:=h
   rw[←hs.bx]at hb
   obtain⟨ad,bF,hv,ed⟩:=hr.rs hb (by simpa[bh.aE]using h1)
   have lB:=hs.mem.blk k _ hb
   obtain⟨hw,iQ,lB⟩:=lB
   unfold jC at ed
   have hlen:((l.drop off).take len).length=len:=by simp;omega
   cases hι:Γ.ι k with
   |
    none=>
    rw[hι]at ed lB
    obtain⟨rfl,rfl,_⟩:=ed
    exact⟨sz,_,[],ad,0,hK,by rw[hlen];exact hv,by simpa using aF.nil,by simp,by simp,by simp⟩
   |
    some b=>
    rw[hι]at ed lB
    obtain⟨c',e,cs,rest,h5,h6,h7,_⟩:=lB
    obtain⟨h8,h9,_⟩:=ed
    have BY:cs.length=l.length*sz:=by rw[h7.length,bY hw]
    have Pj:aF Γ ((l.drop off).take len) ((cs.drop (off*sz)).take (len*sz)):=by
     have e1:l=l.take off++((l.drop off).take len++(l.drop off).drop len):=by rw[List.take_append_drop,List.take_append_drop]
     rw[e1]at h7
     obtain⟨c1,v1,rfl,r1,r2⟩:=h7.split
     obtain⟨c2,v2,rfl,r3,r4⟩:=r2.split
     have l1:c1.length=off*sz:=by rw[r1.length,bY (λx hx=>hw x (List.mem_of_mem_take hx))];simp;rw[Nat.min_eq_left (by omega)]
     have l2:c2.length=len*sz:=by rw[r3.length,bY (λx hx=>hw x (List.mem_of_mem_drop (List.mem_of_mem_take hx))),hlen]
     rw[←l1,←l2];simpa using r3
    refine⟨sz,_,_,ad,bF,hK,by rw[hlen];exact hv,Pj,λfB=> ?_,by rw[hlen];exact h8,λx hx=>hw x (List.mem_of_mem_drop (List.mem_of_mem_take hx))⟩
    have:0<len:=by
     rcases Nat.eq_zero_or_pos len with h|h
     ·subst h;simp at fB
     ·exact h
    rcases h9 with h9|rfl
    ·omega
    refine⟨b,_,rfl,?_⟩
    have:=mQ (lW h5 cs rest h6) (off*sz) (len*sz)
    simpa[dj]using this
  ·rename_i v' hb
   split at h
   ·rename_i bL n l IE
    obtain⟨⟨h1,rfl,h4⟩,hK⟩:=h
    rw[←hs.bx]at hb
    obtain⟨ad,bF,hv,ed⟩:=hr.rs hb (by simpa[bh.aE]using h1)
    unfold jC at ed
    cases hι:Γ.ι k with
    |
     none=>
     have lB:=hs.mem.blk k _ hb
     obtain⟨b,_,_,h5,_⟩:=lB
     rw[hι]at h5;exact absurd h5 (by simp)
    |
     some b=>
     rw[hι]at ed
     obtain⟨h8,h9,_⟩:=ed
     obtain⟨cs,Cp,BH⟩:=hs.mem.at hb hι (by simpa[mL]using IE)
     obtain⟨hl,hn,hw⟩:=Cp.oG
     have hlen:((l.drop off).take len).length=len:=by simp;omega
     have Pj:aF Γ ((l.drop off).take len) ((cs.drop (off*sz)).take (len*sz)):=by
      have e1:l=l.take off++((l.drop off).take len++(l.drop off).drop len):=by rw[List.take_append_drop,List.take_append_drop]
      rw[e1]at hl
      obtain⟨c1,v1,rfl,r1,r2⟩:=hl.split
      obtain⟨c2,v2,rfl,r3,r4⟩:=r2.split
      have l1:c1.length=off*sz:=by rw[r1.length,bY (λx hx=>hw x (List.mem_of_mem_take hx))];simp;rw[Nat.min_eq_left (by omega)]
      have l2:c2.length=len*sz:=by rw[r3.length,bY (λx hx=>hw x (List.mem_of_mem_drop (List.mem_of_mem_take hx))),hlen]
      rw[←l1,←l2];simpa using r3
     refine⟨sz,_,_,ad,bF,hK,by rw[hlen];exact hv,Pj,λfB=> ?_,by rw[hlen];exact h8,λx hx=>hw x (List.mem_of_mem_drop (List.mem_of_mem_take hx))⟩
     have:0<len:=by
      rcases Nat.eq_zero_or_pos len with h|h
      ·subst h;simp at fB
      ·exact h
     rcases h9 with h9|rfl
     ·omega
     refine⟨b,_,rfl,?_⟩
     exact mQ BH (off*sz) (len*sz)
   ·exact h.elim
  ·exact h.elim
 ·exact h.elim
theorem Mn {f:Value->ByteArray->Sem (ForInStep ByteArray)} (hf:∀n s,f (.int .u8 n) s=Pure.pure (ForInStep.yield (s.push (UInt8.ofNat n.toNat)))):∀(cs:List Value) (bs:List UInt8) (acc:ByteArray),cs.length=bs.length->(∀(i:Nat) c,cs[i]? =some c->∃n,c= .int .u8 n∧∃b,bs[i]? =some b∧b=UInt8.ofNat n.toNat)->
  ∃r:ByteArray,(forIn (m:=Sem) cs acc f).run P w= .ok r w∧r.data.toList=acc.data.toList++bs:=by
 intro cs
 induction cs with
 |
  nil=>
  intro bs acc hl _
  have:bs=[]:=by simpa using hl.symm
  subst this
  exact⟨acc,by simp,by simp⟩
 |
  cons c cs ih=>
  intro bs acc hl h
  obtain⟨n,rfl,b,hb,rfl⟩:=h 0 c rfl
  cases bs with
  |nil=>simp at hl
  |
   cons b bs=>
   simp at hb;subst hb
   obtain⟨r,tw,nU⟩:=ih bs (acc.push (UInt8.ofNat n.toNat)) (by simpa using hl) (λi c hc=>by simpa using h (i+1) c (by simpa using hc))
   refine⟨r,?_,by rw[nU];simp⟩
   simp only[List.forIn_cons,hf,bJ,Sem.run_pure,rJ]
   exact tw
theorem J8 {t d e:TypeId} {x:Operand} {y:AX} {G:Bool} {K:PV->Prop} (hx:gN x=some y) (hs:iB nt ds s Γ a) (hw:w.heap=Γ.heap) (hG:G=true)
  (ht:P.underlying t=some (.slice e)) (hd:P.underlying d=some .string) (hee:P.underlying e=some (.int .u8)) (he:ev G s (.convS y) K):iS P Γ w (convert t d (a.eval x)) K:=by
 simp only[ev]at he
 obtain⟨p,hp,hr⟩:=cU hx hs hG he
 obtain⟨sz,l,cs,ad,bF,⟨rfl,hK⟩,hv,hl,lH,hle,_⟩:=pA hs hp hr
 split at hK
 ·rename_i bs EL
  obtain⟨h1,h2⟩:=E6 hl EL
  have hlen:l.length=cs.length:=by rw[h1,r8 EL]
  have key:∃r:ByteArray,(Conv.bytesToString (a.eval x)).run P w= .ok (.string r) w∧r.data.toList=bs:=by
   rw[hv]
   cases LQ:l with
   |
    nil=>
    subst LQ
    simp at hlen
    have avH:bs=[]:=by
     simp[iV]at EL;exact EL
    subst avH
    refine⟨.empty,?_,rfl⟩
    cases ad with
    |none=>rfl
    |
     some ad=>
     simp only[Conv.bytesToString,List.length_nil,loadCells,loadCellsFrom,bJ,Sem.run_pure,rJ]
     simp
   |
    cons z zs=>
    obtain⟨b,o,rfl,hc⟩:=lH (by simp[LQ])
    rw[←LQ,hlen]
    simp only[Conv.bytesToString,bJ]
    rw[run_loadCells_list w ⟨b,o,none⟩ cs (λj v hj=>by rw[jN,cell?_eq,hw];exact hc j v hj)]
    simp only[rJ,←Array.forIn_toList]
    generalize hf:(λ(c:Value) (__s:ByteArray)=>(_:Sem (ForInStep ByteArray)))=f
    obtain⟨r,tw,nU⟩:=Mn (P:=P) (w:=w) (f:=f) (by intro n s;rw[←hf]) cs bs .empty h1 h2
    exact⟨r,by rw[tw];rfl,by simpa using nU⟩
  obtain⟨r,tw,nU⟩:=key
  refine⟨_,_,hK,?_,wV nU⟩
  rw[hv]at tw⊢
  simp[convert,run_underlying ht,run_underlying hd,run_underlying hee,tw]
 ·exact hK.elim
end Go.Ab
namespace Go.Ab
variable [eE]
variable {P:Program} {nt:Nat} {ds:List Deferred} {s:St} {Γ:Cx} {a:Act} {w:World}
theorem mi {x:Option Operand} {y:Option AX} (h:BU x=some y):(x=none∧y=none)∨∃o z,x=some o∧y=some z∧gN o=some z:=by
 cases x with
 |none=>simp[BU]at h;exact .inl ⟨rfl,h.symm⟩
 |
  some o=>
  simp only[BU]at h
  split at h
  ·rename_i z hz;simp only[sJ]at h;exact .inr ⟨o,z,rfl,h.symm,hz⟩
  ·exact absurd h (by simp)
theorem r9 {G b:Bool} {lo hi:Option Operand} {GS lO:Option AX} {len cap uM:Nat} {K:Nat->Nat->Prop} (hl:BU lo=some GS) (hh:BU hi=some lO) (hs:iB nt ds s Γ a) (hG:G=true)
  (Cq:cap≤uM) (hle:len≤cap) (h:jM G s GS lO len cap K):
  ∃l h,K l h∧l≤h∧h≤cap∧(Instr.sliceBounds b len uM (lo.map a.eval) (hi.map a.eval) none).run P w= .ok (l,h,uM) w:=by
 unfold jM at h
 rcases mi hh with⟨rfl,rfl⟩|⟨ho,hz,rfl,rfl,hhx⟩<;>rcases mi hl with⟨rfl,rfl⟩|⟨lo1,lz,rfl,rfl,hlx⟩<;>simp only at h
 ·exact⟨0,len,h,Nat.zero_le _,hle,rfl⟩
 ·obtain⟨p,hp,hr⟩:=cU hlx hs hG h
  obtain⟨k,n,hv,⟨h0,h1⟩,hK⟩:=gY hp hr
  refine⟨n.toNat,len,hK,by omega,hle,?_⟩
  simp only[Instr.sliceBounds,Option.map_none,Option.map_some,hv,Instr.sliceBound,asIntOf,bJ,Sem.run_pure,rJ]
  rw[if_pos ⟨h0,h1⟩];rfl
 ·obtain⟨p,hp,hr⟩:=cU hhx hs hG h
  obtain⟨k,n,hv,⟨h0,h1⟩,hK⟩:=gY hp hr
  refine⟨0,n.toNat,hK,Nat.zero_le _,by omega,?_⟩
  simp only[Instr.sliceBounds,Option.map_none,Option.map_some,hv,Instr.sliceBound,asIntOf,bJ,Sem.run_pure,rJ]
  rw[if_pos ⟨h0,by omega⟩];rfl
 ·obtain⟨p,hp,hr⟩:=cU hhx hs hG h
  obtain⟨k,n,hv,⟨h0,h1⟩,hK⟩:=gY hp hr
  obtain⟨p2,tc,nU⟩:=cU hlx hs hG hK
  obtain⟨k2,n2,px,⟨h2,h3⟩,xY⟩:=gY tc nU
  refine⟨n2.toNat,n.toNat,xY,by omega,by omega,?_⟩
  simp only[Instr.sliceBounds,Option.map_some,hv,px,Instr.sliceBound,asIntOf,bJ,Sem.run_pure,rJ]
  rw[if_pos ⟨h0,by omega⟩]
  simp only[Sem.run_pure,rJ]
  rw[if_pos ⟨h2,by omega⟩];rfl
theorem u0 {G:Bool} {lo hi:Option Operand} {GS lO:Option AX} {mo:Operand} {m:Int} {km:IntKind} {len uM:Nat} {K:Nat->Nat->Prop} (hl:BU lo=some GS) (hh:BU hi=some lO) (hhi:lO.isSome=true) (hs:iB nt ds s Γ a) (hG:G=true)
  (hm:a.eval mo= .int km m) (Pk:0≤m) (Qw:m≤uM) (h:jM G s GS lO len m.toNat K):
  ∃l h,K l h∧l≤h∧h≤m.toNat∧(Instr.sliceBounds true len uM (lo.map a.eval) (hi.map a.eval) (some (a.eval mo))).run P w= .ok (l,h,m.toNat) w:=by
 unfold jM at h
 rcases mi hh with⟨rfl,rfl⟩|⟨ho,hz,rfl,rfl,hhx⟩
 ·simp at hhi
 rcases mi hl with⟨rfl,rfl⟩|⟨lo1,lz,rfl,rfl,hlx⟩<;>simp only at h
 ·obtain⟨p,hp,hr⟩:=cU hhx hs hG h
  obtain⟨k,n,hv,⟨h0,h1⟩,hK⟩:=gY hp hr
  refine⟨0,n.toNat,hK,Nat.zero_le _,by omega,?_⟩
  simp only[Instr.sliceBounds,Option.map_none,Option.map_some,hv,hm,Instr.sliceBound,asIntOf,bJ,Sem.run_pure,rJ]
  rw[if_pos ⟨Pk,Qw⟩]
  simp only[Sem.run_pure,rJ]
  rw[if_pos ⟨h0,by omega⟩];rfl
 ·obtain⟨p,hp,hr⟩:=cU hhx hs hG h
  obtain⟨k,n,hv,⟨h0,h1⟩,hK⟩:=gY hp hr
  obtain⟨p2,tc,nU⟩:=cU hlx hs hG hK
  obtain⟨k2,n2,px,⟨h2,h3⟩,xY⟩:=gY tc nU
  refine⟨n2.toNat,n.toNat,xY,by omega,by omega,?_⟩
  simp only[Instr.sliceBounds,Option.map_some,hv,px,hm,Instr.sliceBound,asIntOf,bJ,Sem.run_pure,rJ]
  rw[if_pos ⟨Pk,Qw⟩]
  simp only[Sem.run_pure,rJ]
  rw[if_pos ⟨h0,by omega⟩]
  simp only[Sem.run_pure,rJ]
  rw[if_pos ⟨h2,by omega⟩];rfl
theorem B4 {t:TypeId} {x:Operand} {lo hi mx:Option Operand} {x':AX} {GS lO Mb:Option AX} {G:Bool} {K:PV->Prop} (hx:gN x=some x') (hl:BU lo=some GS) (hh:BU hi=some lO) (hm:BU mx=some Mb)
  (hs:iB nt ds s Γ a) (hG:G=true) (hu:P.underlying t=some .string) (he:ev G s (.slice .str x' GS lO Mb) K):
  iS P Γ w (Instr.sliceAt t (a.eval x) (lo.map a.eval) (hi.map a.eval) (mx.map a.eval)) K:=by
 simp only[ev]at he
 obtain⟨p,hp,hr⟩:=cU hx hs hG he
 split at hp
 ·rename_i bs
  obtain⟨str,hv,hd⟩:=hr.str
  obtain⟨hmx,hp⟩:=hp
  rcases mi hm with⟨rfl,rfl⟩|⟨o,z,rfl,rfl,_⟩
  rotate_left
  ·simp at hmx
  have iQ:bs.length=str.size:=by rw[←hd];exact Array.length_toList
  obtain⟨l,h,hK,h1,h2,h3⟩:=r9 (P:=P) (w:=w) (b:=false) hl hh hs hG (Nat.le_refl _) (Nat.le_refl _) hp
  refine⟨_,.string (str.extract l h),hK,?_,wV ?_⟩
  ·rw[hv]
   rw[iQ]at h3
   simp only[Instr.sliceAt,Instr.slice,bJ,run_underlying hu,rJ,Option.map_none,Option.isSome_none,fJ,if_false,h3]
   rfl
  ·rw[←hd]
   simp[List.drop_take]
 ·exact hp.elim
theorem aF.sub {l:List PV} {sz:Nat} {cs:List Value} (h:aF Γ l cs) (hw:∀x∈l,x.width=sz) (lo hi:Nat) (IF:lo≤hi) (hhi:hi≤l.length):
  aF Γ ((l.take hi).drop lo) ((cs.drop (lo*sz)).take ((hi-lo)*sz)):=by
 have e0:(l.take hi).drop lo=(l.drop lo).take (hi-lo):=by rw[List.drop_take]
 rw[e0]
 have e1:l=l.take lo++((l.drop lo).take (hi-lo)++(l.drop lo).drop (hi-lo)):=by rw[List.take_append_drop,List.take_append_drop]
 rw[e1]at h
 obtain⟨c1,v1,rfl,r1,r2⟩:=h.split
 obtain⟨c2,v2,rfl,r3,r4⟩:=r2.split
 have l1:c1.length=lo*sz:=by rw[r1.length,bY (λx hx=>hw x (List.mem_of_mem_take hx))];simp;rw[Nat.min_eq_left (by omega)]
 have l2:c2.length=(hi-lo)*sz:=by rw[r3.length,bY (λx hx=>hw x (List.mem_of_mem_drop (List.mem_of_mem_take hx)))];simp;rw[Nat.min_eq_left (by omega)]
 rw[←l1,←l2];simpa using r3
theorem Mo {sz:Nat} {l:List PV} {cs:List Value} {ad:Option Addr} {BI:Nat} {clip:Bool} (hl:aF Γ l cs) (hw:∀x∈l,x.width=sz) (lo hi:Nat) (IF:lo≤hi) (hhi:hi≤l.length)
  (hb:l≠[]->∃b o,ad=some ⟨b,o,none⟩∧b<Γ.heap.size∧¬Γ.own b∧∀i c,cs[i]? =some c->cell Γ.heap b (o+i)=some c)
  (hc:hi-lo≤BI) (Pl:clip=true->BI=hi-lo):
  aP Γ (.sl sz ((l.take hi).drop lo) clip) (.slice (if BI=0 then ad else ad.map (·.add (lo*sz))) (hi-lo) BI):=by
 have hlen:((l.take hi).drop lo).length=hi-lo:=by simp;omega
 have:=aF.sl (Γ:=Γ) sz ((l.take hi).drop lo) clip (if BI=0 then ad else ad.map (·.add (lo*sz))) BI (hl.sub hw lo hi IF hhi) (λx hx=>hw x (List.mem_of_mem_take (List.mem_of_mem_drop hx)))
  (by rw[hlen];exact hc) (by rw[hlen];exact Pl) (λfB=>by
   have ky:0<hi-lo:=by
    rcases Nat.eq_zero_or_pos (hi-lo)with h|h
    ·exact absurd (List.eq_nil_of_length_eq_zero (by omega)) fB
    ·exact h
   obtain⟨b,o,rfl,h1,h2,h3⟩:=hb (by intro h;subst h;simp at hhi;omega)
   rw[if_neg (by omega)]
   exact⟨b,o+lo*sz,by simp[jN],h1,h2,mQ h3 (lo*sz) ((hi-lo)*sz)⟩) .nil
 rw[hlen]at this
 simpa only[aP]using this
theorem Dz {t e:TypeId} {x:Operand} {lo hi mx:Option Operand} {x':AX} {GS lO Mb:Option AX} {G:Bool} {K:PV->Prop} {n:Nat} (hx:gN x=some x') (hl:BU lo=some GS) (hh:BU hi=some lO) (hm:BU mx=some Mb)
  (hmh:Mb.isSome=true->lO.isSome=true) (hs:iB nt ds s Γ a) (hG:G=true) (hu:P.underlying t=some (.slice e)) (hn:gT P e=some n) (he:ev G s (.slice (.sl n) x' GS lO Mb) K):
  iS P Γ w (Instr.sliceAt t (a.eval x) (lo.map a.eval) (hi.map a.eval) (mx.map a.eval)) K:=by
 simp only[ev]at he
 obtain⟨p,hp,hr⟩:=cU hx hs hG he
 have key:∀(ad:Option Addr) (len cap l h m:Nat),(Instr.sliceBounds true len cap (lo.map a.eval) (hi.map a.eval) (mx.map a.eval)).run P w= .ok (l,h,m) w->
   (Instr.sliceAt t (.slice ad len cap) (lo.map a.eval) (hi.map a.eval) (mx.map a.eval)).run P w= .ok (.slice (if m=l then ad else ad.map (·.add (l*n))) (h-l) (m-l)) w:=by
  intro ad len cap l h m hb
  simp only[Instr.sliceAt,Instr.slice,bJ,run_underlying hu,rJ,hb,run_sizeOf hn]
  rfl
 have ifeq:∀(ad:Option Addr) (l m:Nat),l≤m->(if m=l then ad else ad.map (·.add (l*n)))=if m-l=0 then ad else ad.map (·.add (l*n)):=by
  intro ad l m h;by_cases h':m=l
  ·simp[h']
  ·rw[if_neg h',if_neg (by omega)]
 split at hp
 ·rename_i bL l clip
  obtain⟨ad,bF,cs,hv,hL,hw,hc,hk,hb⟩:=hr.sl
  rcases mi hm with⟨rfl,rfl⟩|⟨mo,mz,rfl,rfl,hmz⟩
  ·obtain⟨lo1,Cr,⟨rfl,hK⟩,h1,h2,h3⟩:=r9 (P:=P) (w:=w) (b:=true) (uM:=bF) hl hh hs hG hc (Nat.le_refl _) hp
   refine⟨_,_,hK,by rw[hv];exact key _ _ _ _ _ _ h3,?_⟩
   rw[ifeq _ _ _ (by omega)]
   exact Mo hL hw lo1 Cr h1 h2 hb (by omega) (λtx=>by simp at tx;have:=hk tx.1;omega)
  ·simp only at hp
   obtain⟨q,hq,nU⟩:=cU hmz hs hG hp
   obtain⟨km,m,hmv,⟨Pk,Qw⟩,hK⟩:=gY hq nU
   obtain⟨lo1,Cr,⟨rfl,hK⟩,h1,h2,h3⟩:=u0 (P:=P) (w:=w) (uM:=bF) hl hh (hmh rfl) hs hG hmv Pk (by omega) hK
   refine⟨_,_,hK,by rw[hv];exact key _ _ _ _ _ _ h3,?_⟩
   rw[ifeq _ _ _ (by omega)]
   exact Mo hL hw lo1 Cr h1 (by omega) hb (by omega) (λtx=>by simp at tx;omega)
 ·rename_i k p off len aE bL c
  split at hp
  ·rename_i blk hb
   obtain⟨⟨h1,rfl⟩,hp⟩:=hp
   rw[←hs.bx]at hb
   obtain⟨ad,bF,hv,ed⟩:=hr.rs hb h1
   have hlen:len≤bF:=by
    unfold jC at ed
    split at ed<;>omega
   have Hc:nX c len bF:=by
    unfold jC at ed
    split at ed
    ·exact ed.2.2
    ·exact ed.2.2.1
   have hcx:z9 c off len aE≤bF:=by
    cases c<;>simp only[z9]<;>try exact hlen
    simp only[nX]at Hc
    split<;>omega
   have tx:len≤z9 c off len aE:=by
    cases c<;>simp only[z9]<;>try exact Nat.le_refl _
    split<;>omega
   have mk:∀(lo1 Cr m:Nat) (c':jA),lo1≤Cr->Cr≤m->m≤bF->nX c' (Cr-lo1) (m-lo1)->(c'= .tip->c= .tip∧m=bF)->
     aP Γ (.rs k p (off+lo1) (Cr-lo1) aE bL c') (.slice (if m-lo1=0 then ad else ad.map (·.add (lo1*bL))) (Cr-lo1) (m-lo1)):=by
    intro lo1 Cr m c' g1 g3 g4 g5 g6
    simp only[aP]
    refine .rs k p _ _ aE bL c' _ blk ⟨hb,by omega⟩ rfl (λ_=>⟨_,_,rfl,?_⟩) .nil
    unfold jC at ed⊢
    cases hι:Γ.ι k with
    |none=>rw[hι]at ed;exact⟨by omega,by omega,g5⟩
    |
     some b=>
     rw[hι]at ed
     obtain⟨o1,o2,o3,o4⟩:=ed
     refine⟨by omega,?_,g5,λhc=> ?_⟩
     ·by_cases hz:m-lo1=0
      ·exact .inl hz
      ·right
       rw[if_neg hz]
       rcases o2 with o2|rfl
       ·omega
       ·simp[jN,Nat.add_mul];omega
     ·obtain⟨g7,g8⟩:=g6 hc
      obtain⟨q1,cs,e',q2,q3⟩:=o4 g7
      refine⟨q1,cs,e',q2,?_⟩
      rw[←q3,g8];congr 1;omega
   rcases mi hm with⟨rfl,rfl⟩|⟨mo,mz,rfl,rfl,hmz⟩
   ·obtain⟨lo1,Cr,hK,g1,g2,g3⟩:=r9 (P:=P) (w:=w) (b:=true) (uM:=bF) hl hh hs hG hcx tx hp
    refine⟨_,_,hK,by rw[hv];exact key _ _ _ _ _ _ g3,?_⟩
    rw[ifeq _ _ _ (by omega)]
    refine mk lo1 Cr bF _ g1 (by omega) (Nat.le_refl _) ?_ (λhc=> ?_)
    ·cases c with
     |tip=>trivial
     |any=>trivial
     |full n=>simp only[Dv,nX]at Hc⊢;omega
     |
      clip=>
      simp only[Dv,nX,z9]at Hc⊢g2
      by_cases e:Cr=len
      ·simp[e];omega
      ·simp[e]
    ·cases c<;>simp only[Dv]at hc
     ·exact⟨rfl,rfl⟩
     ·split at hc<;>cases hc
     ·cases hc
     ·cases hc
   ·simp only at hp
    obtain⟨q,hq,nU⟩:=cU hmz hs hG hp
    obtain⟨km,m,hmv,⟨Pk,Qw⟩,hK⟩:=gY hq nU
    obtain⟨lo1,Cr,hK,g1,g2,g3⟩:=u0 (P:=P) (w:=w) (uM:=bF) hl hh (hmh rfl) hs hG hmv Pk (by omega) hK
    refine⟨_,_,hK,by rw[hv];exact key _ _ _ _ _ _ g3,?_⟩
    rw[ifeq _ _ _ (by omega)]
    refine mk lo1 Cr m.toNat _ g1 g2 (by omega) ?_ (λhc=> ?_)
    ·split
     ·simp only[nX];omega
     ·trivial
    ·split at hc<;>simp at hc
  ·exact hp.elim
 ·exact hp.elim
theorem DA {t e:TypeId} {x:Operand} {lo hi mx:Option Operand} {x':AX} {GS lO Mb:Option AX} {G:Bool} {K:PV->Prop} {len n:Nat} (hx:gN x=some x') (hl:BU lo=some GS) (hh:BU hi=some lO) (hm:BU mx=some Mb)
  (hs:iB nt ds s Γ a) (hG:G=true) (hu:P.underlying t=some (.array len e)) (hn:gT P e=some n) (he:ev G s (.slice (.ar len n) x' GS lO Mb) K):
  iS P Γ w (Instr.sliceAt t (a.eval x) (lo.map a.eval) (hi.map a.eval) (mx.map a.eval)) K:=by
 simp only[ev]at he
 obtain⟨p,hp,hr⟩:=cU hx hs hG he
 split at hp
 ·rename_i k p aE
  split at hp
  ·rename_i blk hb
   obtain⟨h1,hmx,hp⟩:=hp
   rw[←hs.bx]at hb
   obtain⟨b,hι,hv⟩:=hr.pt hb h1
   rcases mi hm with⟨rfl,rfl⟩|⟨mo,mz,rfl,rfl,hmz⟩
   rotate_left
   ·simp at hmx
   obtain⟨lo1,Cr,hK,g1,g2,g3⟩:=r9 (P:=P) (w:=w) (b:=false) (uM:=len) hl hh hs hG (Nat.le_refl _) (Nat.le_refl _) hp
   refine⟨_,.slice (some (if len=lo1 then⟨b,dj p,none⟩else Addr.add ⟨b,dj p,none⟩ (lo1*n))) (Cr-lo1) (len-lo1),hK,?_,?_⟩
   ·rw[hv]
    simp only[Instr.sliceAt,bJ,run_underlying hu,rJ,Instr.sureAddr,Sem.run_pure,Option.map_none,g3,run_sizeOf hn]
   ·simp only[aP]
    refine .rs k p _ _ aE n _ _ blk ⟨hb,by omega⟩ rfl (λ_=>⟨_,_,rfl,?_⟩) .nil
    unfold jC
    rw[hι]
    refine⟨by omega,?_,?_,λhc=> ?_⟩
    ·by_cases hz:len=lo1
     ·left;omega
     ·right;simp[hz,jN]
    ·split
     ·simp only[nX];omega
     ·trivial
    ·split at hc<;>simp at hc
  ·exact hp.elim
 ·rename_i z l q
  split at hp
  ·rename_i z' n' l' hu'
   obtain⟨⟨rfl,rfl,hmx⟩,hp⟩:=hp
   obtain⟨b,o,cs,hv,hL,mF,Mc,hc⟩:=hr.fp
   obtain⟨h4,h5⟩:=Ad hL mF hu'
   obtain⟨h6,h7,h8⟩:=aF.oG h5
   rcases mi hm with⟨rfl,rfl⟩|⟨mo,mz,rfl,rfl,hmz⟩
   rotate_left
   ·simp at hmx
   obtain⟨lo1,Cr,hK,g1,g2,g3⟩:=r9 (P:=P) (w:=w) (b:=false) (uM:=n') hl hh hs hG (Nat.le_refl _) (Nat.le_refl _) hp
   refine⟨_,.slice (some (if n'=lo1 then⟨b,o+dj q,none⟩else Addr.add ⟨b,o+dj q,none⟩ (lo1*z'))) (Cr-lo1) (n'-lo1),hK,?_,?_⟩
   ·rw[hv]
    simp only[Instr.sliceAt,bJ,run_underlying hu,rJ,Instr.sureAddr,Sem.run_pure,Option.map_none,g3,run_sizeOf hn]
   ·have hm:=Mo (ad:=some ⟨b,o+dj q,none⟩) (BI:=n'-lo1) (clip:=decide (Cr=n')) h6 h8 lo1 Cr g1 (by omega) (λ_=>⟨b,o+dj q,rfl,Mc.1,Mc.2,mQ hc (dj q) _⟩) (by omega) (λh=>by simp at h;omega)
    have e:(if n'-lo1=0 then some (⟨b,o+dj q,none⟩:Addr)else((some (⟨b,o+dj q,none⟩:Addr)).map (·.add (lo1*z'))))=some (if n'=lo1 then⟨b,o+dj q,none⟩else Addr.add ⟨b,o+dj q,none⟩ (lo1*z')):=by
     by_cases hz:n'=lo1
     ·simp[hz]
     ·rw[if_neg (by omega),if_neg hz];rfl
    rw[e]at hm
    exact hm
  ·exact hp.elim
 ·exact hp.elim
end Go.Ab
namespace Go.Ab
variable [eE]
variable {P:Program} {nt:Nat} {ds:List Deferred} {s:St} {Γ:Cx} {a:Act} {w:World}
theorem nq {x:Sh} {p:PV} (h:fits x p=true):p.isAgg=x.agg:=by
 cases x<;>cases p<;>simp[fits]at h<;>rfl
theorem qV {x:Sh} {p:PV} (h:fits x p=true):p.width=pj x:=by
 cases x<;>cases p<;>simp only[fits,fJ,aJ,decide_eq_true_eq]at h<;>(try rfl)
 ·simp only[PV.width,pj];exact h.1
 ·simp only[PV.width,pj];rw[h.1.1,h.1.2.1]
theorem qi {t:TypeId} {p:PV} {cs c1 rest pre:List Value} {o:Nat} (hr:aF Γ [p] c1) (hc:cs=pre++(c1++rest)) (ho:pre.length=o) (hg:lV P t=some p.isAgg) (hn:gT P t=some p.width):
  ∃v,(part t cs.toArray o).run P w= .ok v w∧aP Γ p v:=by
 have hl:=hr.iR
 subst hc
 cases ha:p.isAgg with
 |
  true=>
  refine⟨.agg c1.toArray,?_,aP.rZ hr ha⟩
  rw[ha]at hg
  simp only[part,bJ,sH hg,rJ,if_true,run_sizeOf hn,Sem.run_pure]
  congr 2
  apply Array.ext'
  simp[←hl,←ho]
 |
  false=>
  have h1:p.width=1:=by cases p<;>simp[PV.isAgg]at ha<;>rfl
  rw[h1]at hl
  obtain⟨v,rfl⟩:=List.length_eq_one_iff.1 hl
  refine⟨v,?_,aP.Dy hr ha⟩
  rw[ha]at hg
  simp only[part,bJ,sH hg,rJ,fJ,if_false]
  have:(pre++([v]++rest)).toArray[o]? =some v:=by
   simp[←ho]
  rw[this];rfl
def EqAt (P:Program) (Γ:Cx) (d:Nat) (t:TypeId) (x:Sh):Prop:=
 ∀(w:World) (p q:PV) (v u:Value),fits x p=true->fits x q=true->aP Γ p v->aP Γ q u->(Op.equalIn d t v u).run P w= .ok (PV.beq p q) w
theorem Ct {d:Nat} {xs ys:List Value}:∀(fs:List Field) (l:List Sh) (ps qs:List PV) (pre1 pre2 c1 c2:List Value) (o:Nat) (w:World),
  xs=pre1++c1->ys=pre2++c2->pre1.length=o->pre2.length=o->aF Γ ps c1->aF Γ qs c2->jd l ps=true->jd l qs=true->
  fs.all (λf=>f.name != "_")=true->fs.map (·.offset)=Dx o l->fs.map (λf=>gT P f.type)=l.map (λx=>some (pj x))->
  fs.map (λf=>lV P f.type)=l.map (λx=>some x.agg)->(∀(i:Nat) f x,fs[i]? =some f->l[i]? =some x->EqAt P Γ d f.type x)->
  (Op.eqFields d xs.toArray ys.toArray fs).run P w= .ok (PV.oH ps qs) w
 |
  [],l,ps,qs,pre1,pre2,c1,c2,o,w,hx,hy,TL,ho2,h1,h2,f1,f2,hn,GU,iQ,hag,fu=>by
  cases l with
  |nil=>cases ps<;>cases qs<;>simp[jd]at f1 f2;simp[Op.eqFields,PV.oH]
  |cons=>simp at iQ
 |
  f::fs,l,ps,qs,pre1,pre2,c1,c2,o,w,hx,hy,TL,ho2,h1,h2,f1,f2,hn,GU,iQ,hag,fu=>by
  cases l with
  |nil=>simp at iQ
  |
   cons x l=>
   cases ps with
   |nil=>simp[jd]at f1
   |
    cons p ps=>
    cases qs with
    |nil=>simp[jd]at f2
    |
     cons q qs=>
     simp only[jd,aJ]at f1 f2
     simp only[List.map_cons,List.cons.injEq,Dx]at GU iQ hag
     simp only[List.all_cons,aJ]at hn
     obtain⟨a1,b1,rfl,r1,r2⟩:=h1.oF
     obtain⟨a2,b2,rfl,r3,r4⟩:=h2.oF
     have wp:=qV f1.1
     have wq:=qV f2.1
     have ap:=nq f1.1
     have aq:=nq f2.1
     have amy:lV P f.type=some x.agg:=hag.1
     obtain⟨v,hv,Wu⟩:=qi (P:=P) (w:=w) (t:=f.type) r1 hx (TL.trans GU.1.symm) (by rw[ap];exact amy) (by rw[wp];exact iQ.1)
     obtain⟨u,hu,hu'⟩:=qi (P:=P) (w:=w) (t:=f.type) r3 hy (ho2.trans GU.1.symm) (by rw[aq];exact amy) (by rw[wq];exact iQ.1)
     have he:=fu 0 f x rfl rfl w p q v u f1.1 f2.1 Wu hu'
     have ih:=Ct (xs:=xs) (ys:=ys) fs l ps qs (pre1++a1) (pre2++a2) b1 b2 (o+pj x) w (by rw[hx];simp) (by rw[hy];simp) (by simp[TL,r1.iR,wp]) (by simp[ho2,r3.iR,wq]) r2 r4 f1.2 f2.2 hn.2 GU.2 iQ.2 hag.2
      (λi g y hg hy=>fu (i+1) g y (by simpa using hg) (by simpa using hy))
     have fB:f.name≠ "_" :=by simpa using hn.1
     simp only[Op.eqFields,fB,ne_eq,not_false_eq_true,if_true,bJ,hv,hu,he,rJ,PV.oH]
     by_cases hb:PV.beq p q=true
     ·simpa[hb]using ih
     ·simp[hb]
theorem Mp {d len n:Nat} {t:TypeId} {e:Sh} {xs ys:List Value} (hn:n=pj e) (hg:lV P t=some e.agg) (hz:gT P t=some n) (heq:EqAt P Γ d t e):
  ∀
   (ps qs:List PV) (pre1 pre2 c1 c2:List Value) (i:Nat) (w:World),xs=pre1++c1->ys=pre2++c2->pre1.length=i*n->pre2.length=i*n->aF Γ ps c1->aF Γ qs c2->lj e ps=true->lj e qs=true->
   ps.length=len->qs.length=len->
   (forIn (m:=Sem) (List.range' i len 1) ((none,()):Option Bool×Unit) λi __s=>do
      let __do_lift←part t xs.toArray (i*n)
      let __do_lift_1←part t ys.toArray (i*n)
      let __do_lift←Op.equalIn d t __do_lift __do_lift_1
      if(!__do_lift)=true then pure (ForInStep.done (some false,()))else pure (ForInStep.yield (none,()))).run P w= .ok (if PV.oH ps qs then none else some false,()) w:=by
 induction len with
 |
  zero=>
  intro ps qs pre1 pre2 c1 c2 i w _ _ _ _ _ _ _ _ l1 l2
  have e1:=List.eq_nil_of_length_eq_zero l1
  have e2:=List.eq_nil_of_length_eq_zero l2
  subst e1 e2
  simp[PV.oH]
 |
  succ len ih=>
  intro ps qs pre1 pre2 c1 c2 i w hx hy TL ho2 h1 h2 f1 f2 l1 l2
  cases ps with
  |nil=>simp at l1
  |
   cons p ps=>
   cases qs with
   |nil=>simp at l2
   |
    cons q qs=>
    simp only[lj,aJ]at f1 f2
    obtain⟨a1,b1,rfl,r1,r2⟩:=h1.oF
    obtain⟨a2,b2,rfl,r3,r4⟩:=h2.oF
    have wp:=qV f1.1
    have wq:=qV f2.1
    have ap:=nq f1.1
    have aq:=nq f2.1
    obtain⟨v,hv,Wu⟩:=qi (P:=P) (w:=w) (t:=t) r1 hx TL (by rw[ap];exact hg) (by rw[wp,←hn];exact hz)
    obtain⟨u,hu,hu'⟩:=qi (P:=P) (w:=w) (t:=t) r3 hy ho2 (by rw[aq];exact hg) (by rw[wq,←hn];exact hz)
    have he:=heq w p q v u f1.1 f2.1 Wu hu'
    have ih':=ih ps qs (pre1++a1) (pre2++a2) b1 b2 (i+1) w (by rw[hx];simp) (by rw[hy];simp) (by simp[TL,r1.iR,wp,Nat.add_mul];omega) (by simp[ho2,r3.iR,wq,Nat.add_mul];omega) r2 r4 f1.2 f2.2 (by simpa using l1) (by simpa using l2)
    simp only[List.range'_succ,List.forIn_cons,bJ,hv,hu,he,rJ,PV.oH]
    by_cases hb:PV.beq p q=true
    ·simpa[hb]using ih'
    ·simp[hb]
theorem Mq:∀(n:Nat) {t:TypeId} {x:Sh} (d:Nat),n≤d->Aa P n t=some x->EqAt P Γ d t x:=by
 intro n
 induction n with
 |zero=>intro t x d _ h;simp[Aa]at h
 |
  succ n ih=>
  intro t x d hd h w p q v u fp fq hp hq
  obtain⟨d,rfl⟩:∃d',d=d'+1:=⟨d-1,by omega⟩
  simp only[Aa]at h
  split at h<;>(try (simp only[sJ,reduceCtorEq]at h;try subst h))
  ·rename_i hu
   cases p<;>simp[fits]at fp
   cases q<;>simp[fits]at fq
   rw[hp.bl,hq.bl,run_equalIn_bool' w d t _ _ hu];rfl
  ·rename_i k hu
   cases p<;>simp[fits]at fp
   cases q<;>simp[fits]at fq
   subst fp fq
   rw[hp.int,hq.int,run_equalIn_int w d t _ _ _ _ hu];rfl
  ·rename_i hu
   cases p<;>simp[fits]at fp
   cases q<;>simp[fits]at fq
   obtain⟨s1,rfl,rfl⟩:=hp.str
   obtain⟨s2,rfl,rfl⟩:=hq.str
   rw[run_equalIn_string w d t _ _ hu,r7,r7];rfl
  ·rename_i fs hu
   split at h
   ·rename_i l hl
    split at h
    ·rename_i BJ
     obtain⟨c1,c2,c3,c4,c5⟩:=BJ
     simp only[sJ]at h
     subst h
     cases p<;>simp only[fits,fJ,aJ,decide_eq_true_eq]at fp
     cases q<;>simp only[fits,fJ,aJ,decide_eq_true_eq]at fq
     rename_i w1 m1 w2 m2
     obtain⟨cs,rfl,hc⟩:=hp.cells rfl
     obtain⟨ds,rfl,GV⟩:=hq.cells rfl
     have hf:P.fieldsOf t=fs:=by simp[Program.fieldsOf,hu]
     rw[run_equalIn_struct w d t _ _ (by rw[hf];exact hu) c1,hf]
     rw[Ct (xs:=cs) (ys:=ds) fs.toList l m1 m2 [] [] cs ds 0 w rfl rfl rfl rfl hc.tP.1 GV.tP.1 fp.2 fq.2 c2 c3 c4 c5]
     ·rfl
     ·intro i f y TM hyi
      refine ih d (by omega) ?_
      have:=allM_get hl TM
      rw[hyi]at this
      exact this
    ·exact absurd h (by simp)
   ·exact absurd h (by simp)
  ·rename_i k e hu
   split at h
   ·rename_i x' hx'
    split at h
    ·rename_i BJ
     simp only[sJ]at h
     subst h
     cases p<;>simp only[fits,fJ,aJ,decide_eq_true_eq]at fp
     cases q<;>simp only[fits,fJ,aJ,decide_eq_true_eq]at fq
     rename_i z1 n1 m1 z2 n2 m2
     obtain⟨cs,rfl,hc⟩:=hp.cells rfl
     obtain⟨ds,rfl,GV⟩:=hq.cells rfl
     have hg:lV P e=some x'.agg:=BJ.2
     have:=Mp (P:=P) (Γ:=Γ) (d:=d) (len:=k) (n:=pj x') (t:=e) (e:=x') (xs:=cs) (ys:=ds) rfl hg BJ.1 (ih d (by omega) hx') m1 m2 [] [] cs ds 0 w rfl rfl (by simp) (by simp) hc.oG.1 GV.oG.1 fp.2 fq.2 fp.1.2.2 fq.1.2.2
     simp only[Op.equalIn,bJ,run_underlying hu,rJ,run_sizeOf BJ.1]
     rw[Std.Legacy.Range.forIn_eq_forIn_range']
     simp only[Std.Legacy.Range.size,Nat.sub_zero,Nat.add_sub_cancel,Nat.div_one]
     rw[this]
     simp only[PV.beq]
     cases PV.oH m1 m2<;>rfl
    ·exact absurd h (by simp)
   ·exact absurd h (by simp)
where
 allM_get {α β:Type} {f:α->Option β}:∀ {l:List α} {m:List β},allM f l=some m->∀ {i:Nat} {x:α},l[i]? =some x->f x=m[i]?
  |[],m,h,i,x,hi=>by simp at hi
  |
   y::l,m,h,i,x,hi=>by
   simp only[allM]at h
   split at h
   ·rename_i z k hz hk
    simp only[sJ]at h
    subst h
    cases i with
    |zero=>simp at hi;subst hi;simpa using hz
    |succ i=>simp at hi;simpa using allM_get hk hi
   ·exact absurd h (by simp)
end Go.Ab
namespace Go.Ab
variable [eE]
variable {P:Program} {nt:Nat} {ds:List Deferred} {s:St} {Γ:Cx} {a:Act} {w:World}
theorem Cu:∀(vs:List Value) (k off:Nat) (cells:Array Value),off+k+vs.length≤cells.size->
  ((vs.zipIdx k).foldl (λ(cs:Array Value) (x:Value×Nat)=>cs.setIfInBounds (off+x.2) x.1) cells).toList=bX cells.toList (off+k) vs
 |[],k,off,cells,_=>by simp[bX]
 |
  v::vs,k,off,cells,h=>by
  simp only[List.zipIdx_cons,List.foldl_cons,List.length_cons]at h⊢
  rw[Cu vs (k+1) off _ (by simp;omega)]
  rw[Array.toList_setIfInBounds]
  have gG:off+k<cells.toList.length:=by simp;omega
  obtain⟨A,c,B,hA,nV⟩:∃A c B,A.length=off+k∧cells.toList=A++c::B:=
   ⟨cells.toList.take (off+k),cells.toList[off+k],cells.toList.drop (off+k+1),by rw[lJ];omega,by rw[List.getElem_cons_drop,List.take_append_drop]⟩
  rw[nV,←hA,List.set_append_right (h:=Nat.le_refl _)]
  rw[show off+(k+1)=A.length+1 by omega]
  simp only[Nat.sub_self,List.set_cons_zero,bX,List.length_cons]
  have e1:(A++v::B).take (A.length+1)=A++[v]:=by rw[List.take_append,tJ (by omega)];simp
  have e2:(A++v::B).drop (A.length+1+vs.length)=B.drop vs.length:=by
   rw[List.drop_append,List.drop_eq_nil_of_le (by omega),show A.length+1+vs.length-A.length=vs.length+1 by omega];simp
  have e3:(A++c::B).drop (A.length+(vs.length+1))=B.drop vs.length:=by
   rw[←List.drop_drop];simp
  rw[e1,e2,e3]
  simp
theorem yK {l:List PV} {i j:Nat} {q p:PV} (hq:l[i]? =some q) (hw:p.width=q.width):az ((l.set i p).take j)=az (l.take j):=by
 by_cases Me:i<j
 ·have:(l.set i p).take j=(l.take j).set i p:=by rw[List.take_set]
  rw[this]
  exact zZ (by rw[List.getElem?_take_of_lt Me];exact hq) hw
 ·rw[List.take_set_of_le (by omega)]
theorem vc:∀(ps:List (Nat×PV)) (vs:List (Nat×Value)) (place:Nat->Option (Nat×Nat)) (l l':List PV) (cells:Array Value),
  aF Γ l cells.toList->dT l ps=some l'->ps.length=vs.length->(∀(i:Nat) j p k v,ps[i]? =some (j,p)->vs[i]? =some (k,v)->j=k∧aP Γ p v)->
  (∀i q,l[i]? =some q->place i=some (az (l.take i),q.width))->∃Pm,Instr.fill place cells vs=some Pm∧aF Γ l' Pm.toList
 |
  [],vs,place,l,l',cells,h,hs,hl,hv,hp=>by
  have:vs=[]:=by simpa using hl.symm
  subst this
  simp[dT]at hs;subst hs
  exact⟨cells,rfl,h⟩
 |
  (i,p)::ps,vs,place,l,l',cells,h,hs,hl,hv,hp=>by
  cases vs with
  |nil=>simp at hl
  |
   cons x vs=>
   obtain⟨k,v⟩:=x
   obtain⟨rfl,hr⟩:=hv 0 i p k v rfl rfl
   simp only[dT]at hs
   split at hs
   ·rename_i q hq
    split at hs
    ·rename_i hw
     have hc:=hr.Ac hw.2
     have tx:=hc.iR
     have iQ:v.cells.size=q.width:=by rw[←hw.1,←tx];simp
     have hwl:=wS hq
     have hle:=h.length
     have yf:az (l.take i)+q.width≤cells.size:=by rw[←Array.length_toList,hle];exact hwl
     have lg:=h.set hq hc hw.1
     have BK:(v.cells.zipIdx.foldl (λcs (c,j)=>cs.setIfInBounds (az (l.take i)+j) c) cells).toList=bX cells.toList (az (l.take i)) v.cells.toList:=by
      have:=Cu v.cells.toList 0 (az (l.take i)) cells (by simp;omega)
      rw[←Array.foldl_toList,Array.toList_zipIdx]
      simpa using this
     obtain⟨c',h1,h2⟩:=vc ps vs place (l.set i p) l' (v.cells.zipIdx.foldl (λcs (c,j)=>cs.setIfInBounds (az (l.take i)+j) c) cells) (by rw[BK];exact lg) hs (by simpa using hl)
      (λj n p' k v' a b=>hv (j+1) n p' k v' (by simpa using a) (by simpa using b)) (λj q' hq'=>by
       rw[yK hq hw.1]
       rw[List.getElem?_set]at hq'
       split at hq'
       ·rename_i Me;subst Me
        split at hq'
        ·simp at hq';subst hq';rw[hw.1];exact hp i q hq
        ·simp at hq'
       ·exact hp j q' hq')
     refine⟨c',?_,h2⟩
     simp only[Instr.fill,hp i q hq]
     rw[if_neg (by simp[iQ];omega)]
     exact h1
    ·exact absurd hs (by simp)
   ·exact absurd hs (by simp)
theorem E7:∀(l:List PV) (o:Nat) (fs:List (Nat×Nat)),fs=J6 o l->∀(i:Nat) q,l[i]? =some q->fs[i]? =some (o+az (l.take i),q.width)
 |[],o,fs,h,i,q,hq=>by simp at hq
 |
  p::l,o,fs,h,i,q,hq=>by
  subst h
  cases i with
  |zero=>simp at hq;subst hq;simp[J6,az]
  |
   succ i=>
   simp only[List.getElem?_cons_succ]at hq
   have:=E7 l (o+p.width) _ rfl i q hq
   simpa[J6,az,Nat.add_assoc]using this
mutual
theorem IQ:∀(p:PV) (vs rest:List Value),yJ p vs=some rest->∃cs,vs=cs++rest∧aF Γ [p] cs
 |
  .bl x,vs,rest,h=>by
  cases vs with
  |nil=>simp[yJ]at h
  |
   cons v r=>
   cases v<;>simp only[yJ,reduceCtorEq]at h
   split at h<;>simp at h
   subst_vars;exact⟨[_],rfl,.bl _ .nil⟩
 |
  .int k n,vs,rest,h=>by
  cases vs with
  |nil=>simp[yJ]at h
  |
   cons v r=>
   cases v<;>simp only[yJ,reduceCtorEq]at h
   split at h
   ·rename_i hc;obtain⟨rfl,rfl⟩:=hc;simp at h;subst h;exact⟨[_],rfl,.int _ _ .nil⟩
   ·simp at h
 |
  .str l,vs,rest,h=>by
  cases vs with
  |nil=>simp[yJ]at h
  |
   cons v r=>
   cases v<;>simp only[yJ,reduceCtorEq]at h
   split at h
   ·rename_i hc;simp at h;subst h;exact⟨[_],rfl,.str _ _ hc .nil⟩
   ·simp at h
 |
  .np,vs,rest,h=>by
  unfold yJ at h
  split at h<;>simp_all
  subst_vars;exact⟨[_],rfl,.np .nil⟩
 |
  .sl sz l c,vs,rest,h=>by
  cases l with
  |cons=>simp[yJ]at h
  |
   nil=>
   cases vs with
   |nil=>simp[yJ]at h
   |
    cons v r=>
    unfold yJ at h
    split at h
    case h_5=>
     simp only[sJ]at h
     subst h
     rename_i heq
     simp only[List.cons.injEq]at heq
     obtain⟨rfl,rfl⟩:=heq
     exact⟨[_],rfl,.sl sz [] c none 0 .nil (by simp) (Nat.le_refl _) (λ_=>rfl) (λh=>absurd rfl h) .nil⟩
    all_goals simp_all
 |
  .nf,vs,rest,h=>by
  unfold yJ at h
  split at h<;>simp_all
  subst_vars;exact⟨[_],rfl,.nf .nil⟩
 |
  .ni,vs,rest,h=>by
  unfold yJ at h
  split at h<;>simp_all
  subst_vars;exact⟨[_],rfl,.ni .nil⟩
 |
  .st w l,vs,rest,h=>by
  simp only[yJ]at h
  split at h
  ·rename_i r hr
   split at h
   ·rename_i hw
    simp at h;subst h
    obtain⟨cs,rfl,hc⟩:=Ae l vs r hr
    exact⟨cs,rfl,hc.st1 (by simp at hw;omega)⟩
   ·simp at h
  ·simp at h
 |
  .ar sz n l,vs,rest,h=>by
  simp only[yJ]at h
  split at h
  ·rename_i r hr
   split at h
   ·rename_i hw
    simp at h;subst h
    obtain⟨cs,rfl,hc⟩:=Ae l vs r hr
    exact⟨cs,rfl,hc.Ud hw.1 (by simpa using hw.2)⟩
   ·simp at h
  ·simp at h
 | .un,vs,rest,h=>by simp[yJ]at h
 | .tup _,vs,rest,h=>by simp[yJ]at h
 | .rs ..,vs,rest,h=>by simp[yJ]at h
 | .pt ..,vs,rest,h=>by simp[yJ]at h
 | .fp ..,vs,rest,h=>by simp[yJ]at h
 | .fn ..,vs,rest,h=>by simp[yJ]at h
 | .gd ..,vs,rest,h=>by simp[yJ]at h
 | .ifc ..,vs,rest,h=>by simp[yJ]at h
theorem Ae:∀(l:List PV) (vs rest:List Value),J4 l vs=some rest->∃cs,vs=cs++rest∧aF Γ l cs
 |[],vs,rest,h=>by simp[J4]at h;subst h;exact⟨[],rfl,.nil⟩
 |
  p::l,vs,rest,h=>by
  simp only[J4]at h
  split at h
  ·rename_i ws hws
   obtain⟨c1,rfl,h1⟩:=IQ p vs ws hws
   obtain⟨c2,rfl,h2⟩:=Ae l ws rest h
   exact⟨c1++c2,by simp,h1.cons h2⟩
  ·simp at h
end
theorem lP {t:TypeId} {z:PV} (h:zeroOf P t=some z):∃v,(∀w,(zeroValue t).run P w= .ok v w)∧aF Γ [z] v.cells.toList∧gT P t=some z.width∧aP Γ z v∧v.cells.size=z.width:=by
 replace h:=J5 h
 unfold kT at h
 split at h
 ·rename_i z' i hz hi
  split at h
  ·rename_i v hv
   split at h
   ·rename_i hc
    split at h
    ·rename_i hw
     obtain⟨cs,e,hr⟩:=IQ (Γ:=Γ) z' _ _ hc
     rw[List.append_nil]at e
     rw[←e]at hr
     have hz':z'=z∧aP Γ z' v:=by
      cases ha:z'.isAgg<;>rw[ha]at h
      ·cases v<;>simp only[sJ,reduceCtorEq]at h<;>exact⟨h,aP.Dy (by simpa[Value.cells]using hr) ha⟩
      ·cases v<;>simp only[sJ,reduceCtorEq]at h
       exact⟨h,aP.rZ (by simpa[Value.cells]using hr) ha⟩
     obtain⟨rfl,Dm⟩:=hz'
     exact⟨v,λw=>by simp[zeroValue,typeInfo,hi,hv],hr,by simp[gT,hi,hw],Dm,by rw[←hr.iR];simp⟩
    ·simp at h
   ·simp at h
  ·simp at h
 ·simp at h
theorem wW {t:TypeId} {parts:Array (Nat×Operand)} {k:AK} {G:Bool} {K:PV->Prop} (hk:lv P false (.build t parts)=some k) (hs:iB nt ds s Γ a) (hG:G=true) (he:ev G s k K):
  iS P Γ w (Instr.build t (parts.map λp=>(p.1,a.eval p.2))) K:=by
 simp only[lv]at hk
 split at hk
 ·rename_i sw l ps fs hz tv hu
  split at hk
  ·rename_i hc
   simp only[sJ]at hk;subst hk
   simp only[ev]at he
   obtain⟨qs,hq,hlen,fu⟩:=zb hs hG tv he
   obtain⟨v,hv,hr,_,_,_⟩:=lP (Γ:=Γ) hz
   split at hq
   ·rename_i l' rT
    have rU:∀i q,l[i]? =some q->((fs.map λf=>(f.offset,P.cellsOf f.type))[i]? :Option (Nat×Nat))=some (az (l.take i),q.width):=by
     intro i q hi
     have:=E7 l 0 _ hc.1 i q hi
     rw[Nat.zero_add]at this
     rw[←Array.getElem?_toList,Array.toList_map]
     exact this
    obtain⟨cells,h1,h2⟩:=vc (Γ:=Γ) qs (parts.toList.map λp=>(p.1,a.eval p.2)) (λi=>(fs.map λf=>(f.offset,P.cellsOf f.type))[i]?) l l' v.cells hr.tP.1 rT (by simp[hlen])
     (λi j p k u h3 h4=>by
      rw[List.getElem?_map,mJ]at h4
      obtain⟨⟨k',x⟩,h5,h6⟩:=h4
      simp only[Prod.mk.injEq]at h6
      obtain⟨rfl,rfl⟩:=h6
      exact fu i j p k' x h3 h5) rU
    have Wv:cells.toList.length=sw:=by
     have e1:=h2.length
     have e2:=hr.tP
     rw[e1,setParts_widths rT,←e2.1.length,e2.2]
    refine⟨_,.agg cells,hq,?_,⟨cells.toList,by simp,h2.st1 Wv⟩⟩
    have avJ:(fs.mapM λf=>do Pure.pure (f.offset,←sizeOf f.type):Sem (Array (Nat×Nat))).run P w= .ok (fs.map λf=>(f.offset,P.cellsOf f.type)) w:=run_mapM fs hc.2
    simp only[Instr.build,bJ,hv,rJ,run_underlying hu,avJ]
    rw[Array.toList_map,h1];rfl
   ·exact hq.elim
  ·simp at hk
 ·rename_i sz n l ps len e hz tv hu
  split at hk
  ·rename_i hc
   simp only[sJ]at hk;subst hk
   simp only[ev]at he
   obtain⟨qs,hq,hlen,fu⟩:=zb hs hG tv he
   obtain⟨v,hv,hr,_,_,_⟩:=lP (Γ:=Γ) hz
   split at hq
   ·rename_i l' rT
    obtain⟨tw,nU,hr3⟩:=hr.oG
    obtain⟨cells,h1,h2⟩:=vc (Γ:=Γ) qs (parts.toList.map λp=>(p.1,a.eval p.2)) (λi=>some (i*sz,sz)) l l' v.cells tw rT (by simp[hlen])
     (λi j p k u h3 h4=>by
      rw[List.getElem?_map,mJ]at h4
      obtain⟨⟨k',x⟩,h5,h6⟩:=h4
      simp only[Prod.mk.injEq]at h6
      obtain⟨rfl,rfl⟩:=h6
      exact fu i j p k' x h3 h5)
     (λi q hi=>by
      have hil:=(List.getElem?_eq_some_iff.1 hi).1
      rw[iG hr3 (by omega),hr3 q (List.mem_of_getElem? hi)])
    refine⟨_,.agg cells,hq,?_,⟨cells.toList,by simp,h2.Ud (by rw[setParts_length rT,nU]) (setParts_width rT hr3)⟩⟩
    simp only[Instr.build,bJ,hv,rJ,run_underlying hu,run_sizeOf hc]
    rw[Array.toList_map,h1];rfl
   ·exact hq.elim
  ·simp at hk
 ·simp at hk
where
 setParts_length:∀ {ps:List (Nat×PV)} {l l':List PV},dT l ps=some l'->l'.length=l.length
  |[],l,l',h=>by simp[dT]at h;rw[h]
  |
   (i,p)::ps,l,l',h=>by
   simp only[dT]at h
   split at h
   ·split at h
    ·rw[setParts_length h];simp
    ·simp at h
   ·simp at h
 setParts_widths:∀ {ps:List (Nat×PV)} {l l':List PV},dT l ps=some l'->az l'=az l
  |[],l,l',h=>by simp[dT]at h;rw[h]
  |
   (i,p)::ps,l,l',h=>by
   simp only[dT]at h
   split at h
   ·rename_i q hq
    split at h
    ·rename_i hw
     rw[setParts_widths h,zZ hq hw.1]
    ·simp at h
   ·simp at h
 setParts_width {sz:Nat}:∀ {ps:List (Nat×PV)} {l l':List PV},dT l ps=some l'->(∀x∈l,x.width=sz)->∀x∈l',x.width=sz
  |[],l,l',h,hw=>by simp[dT]at h;rw[←h];exact hw
  |
   (i,p)::ps,l,l',h,hw=>by
   simp only[dT]at h
   split at h
   ·rename_i q hq
    split at h
    ·rename_i Pn
     exact setParts_width h (pV hw (by rw[Pn.1];exact hw q (List.mem_of_getElem? hq)))
    ·simp at h
   ·simp at h
 run_mapM (fs:Array Field) (h:fs.toList.all (λf=>(P.info? f.type).isSome)=true):(fs.mapM λf=>do Pure.pure (f.offset,←sizeOf f.type):Sem (Array (Nat×Nat))).run P w= .ok (fs.map λf=>(f.offset,P.cellsOf f.type)) w:=by
  have key:∀(l:List Field),l.all (λf=>(P.info? f.type).isSome)=true->(l.mapM λf=>do Pure.pure (f.offset,←sizeOf f.type):Sem (List (Nat×Nat))).run P w= .ok (l.map λf=>(f.offset,P.cellsOf f.type)) w:=by
   intro l
   induction l with
   |nil=>intro _;rfl
   |
    cons f l ih=>
    intro hl
    simp only[List.all_cons,aJ]at hl
    obtain⟨i,hi⟩:=Option.isSome_iff_exists.1 hl.1
    have iQ:gT P f.type=some i.size:=by simp[gT,hi]
    simp only[List.mapM_cons,bJ,run_sizeOf iQ,rJ,Sem.run_pure,ih hl.2,List.map_cons]
    simp[Program.cellsOf,hi]
  rw[Array.mapM_eq_mapM_toList]
  simp only[Sem.run_map,key fs.toList h,rJ]
  congr 1
  apply Array.ext'
  simp
end Go.Ab
namespace Go.Ab
variable [eE]
variable {P:Program} {nt:Nat} {ds:List Deferred} {s:St} {Γ:Cx} {a:Act} {w:World}
theorem QM {args:List Operand} {tys:List TypeId} {k:AK} {ty:TypeId} {G:Bool} {K:PV->Prop} (hk:dB P .cap args tys=some k) (hs:iB nt ds s Γ a) (hG:G=true) (he:ev G s k K):
  iS P Γ w (Builtin.cap_ tys.toArray ty (args.map a.eval).toArray) K:=by
 unfold dB at hk
 split at hk<;>(try contradiction)
 rename_i x t _
 split at hk<;>simp only[sJ,reduceCtorEq]at hk
 rename_i e y hu hx
 subst hk
 simp only[ev]at he
 obtain⟨p,hp,hr⟩:=cU hx hs hG he
 split at hp
 ·rename_i k p off len aE sz n
  split at hp
  ·rename_i blk hb
   rw[←hs.bx]at hb
   obtain⟨ad,bF,hv,ed⟩:=hr.rs hb hp.1
   have Hc:bF=n:=by
    unfold jC at ed
    split at ed
    ·exact ed.2.2
    ·exact ed.2.2.1
   subst Hc
   exact⟨_,goInt bF,hp.2,by simp[Builtin.cap_,run_underlying hu,hv],en⟩
  ·exact hp.elim
 ·exact hp.elim
theorem QN {args:List Operand} {tys:List TypeId} {k:AK} {ty:TypeId} {G:Bool} {K:PV->Prop} (hk:dB P .len args tys=some k) (hs:iB nt ds s Γ a) (hG:G=true) (he:ev G s k K):
  iS P Γ w (Builtin.len_ tys.toArray ty (args.map a.eval).toArray) K:=by
 unfold dB at hk
 split at hk<;>(try contradiction)
 ·rename_i x t _
  split at hk
  ·rename_i y hu hx
   simp only[sJ]at hk;subst hk
   simp only[ev]at he
   obtain⟨p,hp,hr⟩:=cU hx hs hG he
   split at hp
   ·rename_i bs
    obtain⟨str,hv,hd⟩:=hr.str
    refine⟨_,goInt bs.length,hp,?_,en⟩
    have:bs.length=str.size:=by rw[←hd];exact Array.length_toList
    simp[Builtin.len_,run_underlying hu,hv,this]
   ·exact hp.elim
  ·rename_i e y hu hx
   simp only[sJ]at hk;subst hk
   simp only[ev]at he
   obtain⟨p,hp,hr⟩:=cU hx hs hG he
   split at hp
   ·rename_i sz l c
    obtain⟨ad,bF,cs,hv,_⟩:=hr.sl
    exact⟨_,goInt l.length,hp,by simp[Builtin.len_,run_underlying hu,hv],en⟩
   ·rename_i k p off len aE sz c
    split at hp
    ·rename_i blk hb
     rw[←hs.bx]at hb
     obtain⟨ad,bF,hv,_⟩:=hr.rs hb hp.1
     exact⟨_,goInt len,hp.2,by simp[Builtin.len_,run_underlying hu,hv],en⟩
    ·exact hp.elim
   ·exact hp.elim
  ·rename_i n e y hu hx
   simp only[sJ]at hk;subst hk
   simp only[ev]at he
   exact⟨_,goInt n,he,by simp[Builtin.len_,run_underlying hu],en⟩
  ·rename_i arr y hu hx
   split at hk
   ·rename_i n e hu2
    simp only[sJ]at hk;subst hk
    simp only[ev]at he
    exact⟨_,goInt n,he,by simp[Builtin.len_,run_underlying hu,run_underlying hu2],en⟩
   ·simp at hk
  ·simp at hk
theorem Mr {mx:Bool} {args:List Operand} {tys:List TypeId} {l:List AX} {ty:TypeId} {G:Bool} {K:PV->Prop} (hx:qU args=some l) (hs:iB nt ds s Γ a) (hG:G=true) (he:ev G s (.mm mx l) K):
  iS P Γ w (if mx then Builtin.max_ tys.toArray ty (args.map a.eval).toArray else Builtin.min_ tys.toArray ty (args.map a.eval).toArray) K:=by
 simp only[ev]at he
 obtain⟨ps,hp,hlen,fu⟩:=uY hs hG hx he
 have key:∀(ps:List PV) (vs:List Value) (k:IntKind) (m:Int) (K:Int->Prop),mh mx m ps K->ps.length=vs.length->(∀(i:Nat) p v,ps[i]? =some p->vs[i]? =some v->aP Γ p v)->
   ∃n,K n∧(vs.foldlM (if mx then Builtin.max2 else Builtin.min2) (.int k m)).run P w= .ok (.int k n) w:=by
  intro ps
  induction ps with
  |
   nil=>
   intro vs k m K h hl _
   have:vs=[]:=by simpa using hl.symm
   subst this
   exact⟨m,h,rfl⟩
  |
   cons p ps ih=>
   intro vs k m K h hl hv
   cases vs with
   |nil=>simp at hl
   |
    cons v vs=>
    simp only[mh]at h
    obtain⟨k2,n,px,h⟩:=gY h (hv 0 p v rfl rfl)
    obtain⟨r,h1,h2⟩:=ih vs k _ K h (by simpa using hl) (λi p v a b=>hv (i+1) p v (by simpa using a) (by simpa using b))
    refine⟨r,h1,?_⟩
    subst px
    simp only[List.foldlM_cons,bJ]
    cases mx
    ·have:(Builtin.min2 (.int k m) (.int k2 n)).run P w= .ok (.int k (min m n)) w:=by
      simp only[Builtin.min2,Sem.run_pure]
      congr 2
      split<;>omega
     simp only[fJ,if_false]at h2⊢
     rw[this];exact h2
    ·have:(Builtin.max2 (.int k m) (.int k2 n)).run P w= .ok (.int k (max m n)) w:=by
      simp only[Builtin.max2,Sem.run_pure]
      congr 2
      split<;>omega
     simp only[if_true]at h2⊢
     rw[this];exact h2
 split at hp
 ·rename_i k m ps
  cases args with
  |nil=>simp at hlen
  |
   cons x args=>
   have hx0:=(fu 0 _ x rfl rfl).int
   obtain⟨n,hn,jl⟩:=key ps (args.map a.eval) k m _ hp (by simpa using hlen) (λi p v h1 h2=>by
    rw[List.getElem?_map,mJ]at h2
    obtain⟨o,h2,rfl⟩:=h2
    exact fu (i+1) p o (by simpa using h1) (by simpa using h2))
   refine⟨_,_,hn,?_,en⟩
   cases mx
   ·simpa[Builtin.min_,hx0]using jl
   ·simpa[Builtin.max_,hx0]using jl
 ·exact hp.elim
theorem Ms {p:PV} {v:Value} (h:aP Γ p v) (ha:p.isAgg=false) (hc:p.bp=true):aF Γ [p] [v]:=by
 cases p<;>simp[PV.isAgg,PV.bp]at ha hc<;>exact h
theorem E8 {ps:List PV} {vs:List Value} (hl:ps.length=vs.length) (h:∀(i:Nat) p v,ps[i]? =some p->vs[i]? =some v->aP Γ p v)
  (ha:ps.all (λp=> !p.isAgg&&p.bp)=true):aF Γ ps vs:=by
 induction ps generalizing vs with
 |nil=>
      have:vs=[]:=by simpa using hl.symm
      subst this;exact .nil
 |
  cons p ps ih=>
  cases vs with
  |nil=>simp at hl
  |
   cons v vs=>
   simp only[List.all_cons,aJ,Bool.not_eq_true']at ha
   exact(Ms (h 0 p v rfl rfl) ha.1.1 ha.1.2).cons (ih (by simpa using hl) (λi p v h1 h2=>h (i+1) p v (by simpa using h1) (by simpa using h2)) ha.2)
theorem ve {t:TypeId} {x y:Value} {b:Bool} (h:(Op.equalIn 10000 t x y).run P w= .ok b w)
  (h1:binOp .eql t x y=(do Pure.pure (.bool (←Op.equal t x y)))) (h2:binOp .neq t x y=(do Pure.pure (.bool (!(←Op.equal t x y))))):
  ∀o,(o= .eql∨o= .neq)->(binOp o t x y).run P w= .ok (.bool (if o= .eql then b else !b)) w:=by
 intro o ho
 have h':(Op.equal t x y).run P w= .ok b w:=h
 rcases ho with rfl|rfl
 ·rw[h1];simp only[bJ,h',rJ];rfl
 ·rw[h2];simp only[bJ,h',rJ];rfl
theorem J9 {t:TypeId} {x y:Bool} (h:P.underlying t=some .bool):(Op.equalIn 10000 t (.bool x) (.bool y)).run P w= .ok (x==y) w:=run_equalIn_bool' w 9999 t x y h
theorem DB {d:Nat} {t e:TypeId} (h:P.underlying t=some (.pointer e)):(Op.equalIn (d+1) t (.pointer none) (.pointer none)).run P w= .ok true w:=by
 simp only[Op.equalIn,bJ,run_underlying h,rJ];rfl
theorem DC {d:Nat} {t e:TypeId} {ad:Addr} (h:P.underlying t=some (.pointer e)):(Op.equalIn (d+1) t (.pointer (some ad)) (.pointer none)).run P w= .ok false w:=by
 simp only[Op.equalIn,bJ,run_underlying h,rJ];rfl
theorem E9 {t e:TypeId} (h:P.underlying t=some (.pointer e)):(Op.equalIn 10000 t (.pointer none) (.pointer none)).run P w= .ok true w:=DB (d:=9999) h
theorem yg {t e:TypeId} {ad:Addr} (h:P.underlying t=some (.pointer e)):(Op.equalIn 10000 t (.pointer (some ad)) (.pointer none)).run P w= .ok false w:=DC (d:=9999) h
theorem Fa {n:Nat} {t:TypeId} {sh:Sh} (h:Aa P n t=some sh) (hu:(∃fs,P.underlying t=some (.struct fs))∨∃k e,P.underlying t=some (.array k e)):sh.agg=true:=by
 cases n with
 |zero=>simp[Aa]at h
 |
  succ n=>
  rcases hu with⟨fs,hu⟩|⟨k,e,hu⟩
  ·simp only[Aa,hu]at h
   split at h
   ·split at h
    ·simp only[sJ]at h;subst h;rfl
    ·simp at h
   ·simp at h
  ·simp only[Aa,hu]at h
   split at h
   ·split at h
    ·simp only[sJ]at h;subst h;rfl
    ·simp at h
   ·simp at h
theorem Ka {op:BinOp} {t:TypeId} {x y:Operand} {yt:TypeId} {k:AK} {own:Bool} {G:Bool} {K:PV->Prop} (hk:lv P own (.binOp op t x y yt)=some k) (hs:iB nt ds s Γ a) (hG:G=true) (he:ev G s k K):
  iS P Γ w (do eqGuard op t x y (a.eval x) (a.eval y);binOp op t (a.eval x) (a.eval y)) K:=by
 simp only[lv]at hk
 split at hk
 ·rename_i p q hx hy
  have fin:∀ {et:ET} {K:PV->Prop},ev G s (.bin op et p q) K->∃u v,qh s op et u v K∧aP Γ u (a.eval x)∧aP Γ v (a.eval y):=by
   intro et K he
   simp only[ev]at he
   obtain⟨u,hu,zQ⟩:=cU hx hs hG he
   obtain⟨v,hv,Dm⟩:=cU hy hs hG hu
   exact⟨u,v,hv,zQ,Dm⟩
  have plain:∀ {K:PV->Prop},ev G s (.bin op .no p q) K->iS P Γ w (do eqGuard op t x y (a.eval x) (a.eval y);binOp op t (a.eval x) (a.eval y)) K:=by
   intro K he
   obtain⟨u,v,hb,zQ,Dm⟩:=fin he
   simp only[qh]at hb
   split at hb
   ·rw[zQ.int,Dm.int]
    rw[eqGuard_at_int]
    exact QI hb.1 hb.2
   ·obtain⟨b1,uK,IG⟩:=zQ.str
    obtain⟨b2,px,LR⟩:=Dm.str
    rw[uK,px,eqGuard_at_string]
    rw[←IG,←LR]at hb
    exact QJ hb
   ·exact hb.elim
  have eqrun:∀ {b:Bool} {K:PV->Prop},(op= .eql∨op= .neq)->tQ op b K->
    (∀o,(o= .eql∨o= .neq)->(binOp o t (a.eval x) (a.eval y)).run P w= .ok (.bool (if o= .eql then b else !b)) w)->(eqGuard op t x y (a.eval x) (a.eval y)).run P w= .ok () w->
    iS P Γ w (do eqGuard op t x y (a.eval x) (a.eval y);binOp op t (a.eval x) (a.eval y)) K:=by
   intro b K ho hb jl hg
   rcases ho with rfl|rfl
   ·exact⟨_,_,hb,by simp only[bJ,hg,rJ,jl .eql (.inl rfl)];rfl,j3⟩
   ·exact⟨_,_,hb,by simp only[bJ,hg,rJ,jl .neq (.inr rfl)];rfl,j3⟩
  split at hk
  ·rename_i ho
   split at hk
   ·simp only[sJ]at hk;subst hk;exact plain he
   ·simp only[sJ]at hk;subst hk;exact plain he
   ·rename_i hu
    simp only[sJ]at hk;subst hk
    obtain⟨u,v,hb,zQ,Dm⟩:=fin he
    simp only[qh]at hb
    split at hb
    ·rw[zQ.bl,Dm.bl]at eqrun⊢
     refine eqrun ho hb (ve (J9 hu) rfl rfl) (by rw[eqGuard_at_bool];rfl)
    ·exact hb.elim
   ·rename_i e hu
    simp only[sJ]at hk;subst hk
    obtain⟨u,v,hb,zQ,Dm⟩:=fin he
    simp only[qh]at hb
    split at hb
    ·rw[zQ.np,Dm.np]at eqrun⊢
     refine eqrun ho hb (ve (E9 hu) rfl rfl) (by rw[eqGuard_at_pointer];rfl)
    ·split at hb
     ·rename_i blk hg
      rw[←hs.bx]at hg
      obtain⟨b,hι,hv⟩:=zQ.pt hg hb.1
      rw[hv,Dm.np]at eqrun⊢
      refine eqrun ho hb.2 (ve (yg hu) rfl rfl) (by rw[eqGuard_at_pointer];rfl)
     ·exact hb.elim
    ·obtain⟨b,o,cs,hv,_⟩:=zQ.fp
     rw[hv,Dm.np]at eqrun⊢
     refine eqrun ho hb (ve (yg hu) rfl rfl) (by rw[eqGuard_at_pointer];rfl)
    ·exact hb.elim
   ·split at hk
    ·simp only[sJ]at hk;subst hk;simp[ev]at he
    ·simp at hk
   ·rename_i fs hu
    split at hk
    ·rename_i hgd
     split at hk
     ·rename_i sh EM
      simp only[sJ]at hk;subst hk
      obtain⟨u,v,hb,zQ,Dm⟩:=fin he
      simp only[qh]at hb
      have Po:sh.agg=true:=Fa EM (.inl ⟨_,hu⟩)
      obtain⟨c1,uK,_⟩:=zQ.cells (by rw[nq hb.1.1];exact Po)
      obtain⟨c2,px,_⟩:=Dm.cells (by rw[nq hb.1.2];exact Po)
      have he2:=Mq (P:=P) (Γ:=Γ) 20 10000 (by omega) EM w u v _ _ hb.1.1 hb.1.2 zQ Dm
      rw[uK,px]at eqrun he2⊢
      refine eqrun ho hb.2 (λo ho=> ?_) (run_eqGuard_agg w op t x y _ _ hgd)
      rcases ho with rfl|rfl
      ·rw[run_eql_struct,he2];rfl
      ·rw[run_neq_struct,he2];rfl
     ·simp at hk
    ·simp at hk
   ·rename_i n e hu
    split at hk
    ·rename_i hgd
     split at hk
     ·rename_i sh EM
      simp only[sJ]at hk;subst hk
      obtain⟨u,v,hb,zQ,Dm⟩:=fin he
      simp only[qh]at hb
      have Po:sh.agg=true:=Fa EM (.inr ⟨_,_,hu⟩)
      obtain⟨c1,uK,_⟩:=zQ.cells (by rw[nq hb.1.1];exact Po)
      obtain⟨c2,px,_⟩:=Dm.cells (by rw[nq hb.1.2];exact Po)
      have he2:=Mq (P:=P) (Γ:=Γ) 20 10000 (by omega) EM w u v _ _ hb.1.1 hb.1.2 zQ Dm
      rw[uK,px]at eqrun he2⊢
      refine eqrun ho hb.2 (λo ho=> ?_) (run_eqGuard_agg w op t x y _ _ hgd)
      rcases ho with rfl|rfl
      ·rw[run_eql_struct,he2];rfl
      ·rw[run_neq_struct,he2];rfl
     ·simp at hk
    ·simp at hk
   ·simp at hk
  ·simp only[sJ]at hk;subst hk;exact plain he
 ·simp at hk
end Go.Ab
namespace Go.Ab
variable [eE]
variable {P:Program} {nt:Nat} {ds:List Deferred} {s:St} {Γ:Cx} {a:Act} {w:World}
theorem jG.rep {p:PV} {v:Value} (h:jG Γ p v):aP Γ p v:=by
 cases p<;>first|exact h|(simp only[jG]at h;cases h)
theorem kx.get:∀ {l:List PV} {vs:List Value},kx Γ l vs->∀ {i:Nat} {p:PV},l[i]? =some p->∃v,vs[i]? =some v∧jG Γ p v
 |[],vs,h,i,p,hp=>by simp at hp
 |q::l,[],h,i,p,hp=>by simp[kx]at h
 |
  q::l,v::vs,h,i,p,hp=>by
  simp only[kx]at h
  cases i with
  |zero=>simp at hp;subst hp;exact⟨v,by simp,h.1⟩
  |succ i=>simp at hp;simpa using kx.get h.2 hp
theorem Kb {t e:TypeId} {x i:Operand} {y j:AX} {G g:Bool} {K:PV->Prop} {len n:Nat} (hx:gN x=some y) (hi:gN i=some j) (hs:iB nt ds s Γ a) (hG:G=true)
  (hu:P.underlying t=some (.array len e)) (hg:lV P e=some g) (hn:gT P e=some n) (he:ev G s (.index g len n y j) K):iS P Γ w (Instr.index t (a.eval x) (a.eval i)) K:=by
 simp only[ev]at he
 obtain⟨p,hp,hr⟩:=cU hx hs hG he
 obtain⟨q,hq,nU⟩:=cU hi hs hG hp
 obtain⟨k,m,hm,hK⟩:=gY hq nU
 split at hK
 ·rename_i sz n' l
  split at hK
  ·rename_i c hc
   obtain⟨⟨h0,h1,rfl,rfl,h4⟩,hK⟩:=hK
   obtain⟨cs,hv,BH⟩:=hr.cells rfl
   obtain⟨hl,hlen,hw⟩:=BH.oG
   have tx:=hw c (List.mem_of_getElem? hc)
   have y0:=(List.getElem?_eq_some_iff.1 hc).1
   obtain⟨c1,v1,c2,rfl,l1,r3⟩:∃c1 v1 c2,cs=c1++(c2++v1)∧c1.length=m.toNat*sz∧aF Γ [c] c2:=by
    have e1:l=l.take m.toNat++l[m.toNat]::l.drop (m.toNat+1):=by rw[List.getElem_cons_drop,List.take_append_drop]
    rw[e1]at hl
    obtain⟨c1,u1,rfl,r1,r2⟩:=hl.split
    obtain⟨c2,v2,rfl,r3,r4⟩:=r2.oF
    refine⟨c1,v2,c2,rfl,?_,?_⟩
    ·rw[r1.length,iG hw (by omega)]
    ·rw[gJ y0]at hc;simp only[sJ]at hc;rw[hc]at r3;exact r3
   obtain⟨v,uK,px⟩:=qi (P:=P) (w:=w) (t:=e) (o:=m.toNat*sz) r3 rfl l1 (by rw[h4];exact hg) (by rw[tx];exact hn)
   refine⟨c,v,hK,?_,px⟩
   rw[hv,hm]
   simp only[Instr.index,asIntOf,bJ,Sem.run_pure,run_underlying hu,rJ]
   rw[if_pos ⟨h0,h1⟩]
   simp only[bJ,run_sizeOf hn,rJ]
   exact uK
  ·exact hK.elim
 ·exact hK.elim
theorem Hd {t:TypeId} {x i:Operand} {y j:AX} {G:Bool} {K:PV->Prop} (hx:gN x=some y) (hi:gN i=some j) (hs:iB nt ds s Γ a) (hG:G=true)
  (hu:P.underlying t=some .string) (he:ev G s (.indexS y j) K):iS P Γ w (Instr.index t (a.eval x) (a.eval i)) K:=by
 simp only[ev]at he
 obtain⟨p,hp,hr⟩:=cU hx hs hG he
 obtain⟨q,hq,nU⟩:=cU hi hs hG hp
 obtain⟨k,m,hm,hK⟩:=gY hq nU
 split at hK
 ·rename_i bs
  split at hK
  ·rename_i c hc
   obtain⟨str,hv,hd⟩:=hr.str
   refine⟨_,_,hK.2,?_,en⟩
   rw[hv,hm]
   have:str[m.toNat]? =some c:=by
    rw[←hd]at hc
    rw[Array.getElem?_toList]at hc
    obtain⟨gG,he⟩:=Array.getElem?_eq_some_iff.1 hc
    rw[getElem?_pos str m.toNat gG]
    exact congrArg some he
   simp only[Instr.index,asIntOf,bJ,Sem.run_pure,run_underlying hu,rJ]
   rw[if_pos hK.1,this];rfl
  ·exact hK.elim
 ·exact hK.elim
theorem Kc {t:TypeId} {x:Operand} {y:AX} {G g:Bool} {K:PV->Prop} {i n:Nat} {fs:Array Field} {f:Field} (hx:gN x=some y) (hs:iB nt ds s Γ a) (hG:G=true)
  (hu:P.underlying t=some (.struct fs)) (hf:fs[i]? =some f) (hg:lV P f.type=some g) (hn:gT P f.type=some n) (he:ev G s (.field i f.offset g n y) K):
  iS P Γ w (Instr.field t (a.eval x) i) K:=by
 simp only[ev]at he
 obtain⟨p,hp,hr⟩:=cU hx hs hG he
 split at hp
 ·rename_i sw l
  split at hp
  ·rename_i c hc
   obtain⟨⟨h1,h2,h3⟩,hK⟩:=hp
   obtain⟨cs,hv,BH⟩:=hr.cells rfl
   obtain⟨hl,hlen⟩:=BH.tP
   have y0:=(List.getElem?_eq_some_iff.1 hc).1
   obtain⟨c1,v1,c2,rfl,l1,r3⟩:∃c1 v1 c2,cs=c1++(c2++v1)∧c1.length=f.offset∧aF Γ [c] c2:=by
    have e1:l=l.take i++l[i]::l.drop (i+1):=by rw[List.getElem_cons_drop,List.take_append_drop]
    rw[e1]at hl
    obtain⟨c1,u1,rfl,r1,r2⟩:=hl.split
    obtain⟨c2,v2,rfl,r3,r4⟩:=r2.oF
    refine⟨c1,v2,c2,rfl,?_,?_⟩
    ·rw[r1.length,h1]
    ·rw[gJ y0]at hc;simp only[sJ]at hc;rw[hc]at r3;exact r3
   obtain⟨v,uK,px⟩:=qi (P:=P) (w:=w) (t:=f.type) (o:=f.offset) r3 rfl l1 (by rw[h3];exact hg) (by rw[h2];exact hn)
   refine⟨c,v,hK,?_,px⟩
   rw[hv]
   simp only[Instr.field,bJ,run_underlying hu,rJ,hf,asAgg,Sem.run_pure]
   exact uK
  ·exact hp.elim
 ·exact hp.elim
theorem Fb {x:Operand} {y:AX} {G:Bool} {K:PV->Prop} {i:Nat} (hx:gN x=some y) (hs:iB nt ds s Γ a) (he:ev G s (.extract i y) K):
  iS P Γ w (Instr.extract (a.eval x) i) K:=by
 simp only[ev]at he
 have hr:=wU hx hs
 split at he
 ·rename_i l hl
  rw[hl]at hr
  simp only[aP]at hr
  obtain⟨vs,hv,fu⟩:=hr
  split at he
  ·rename_i p hp
   obtain⟨v,uK,px⟩:=fu.get hp
   exact⟨p,v,he,by rw[hv];simp[Instr.extract,uK],px.rep⟩
  ·exact he.elim
 ·exact he.elim
theorem He {f:Fn} {x z:Array Operand} {y u:List AX} {G:Bool} {K:PV->Prop} (hx:qU x.toList=some y) (hz:qU z.toList=some u) (hs:iB nt ds s Γ a) (hG:G=true) (he:ev G s (.mkFunc f y u) K):
  iS P Γ w (Instr.makeFunc f (x.map a.eval) (z.map a.eval)) K:=by
 simp only[ev]at he
 obtain⟨ps,hp,hlen,fu⟩:=uY hs hG hx he
 obtain⟨qs,hq,Pp,amz⟩:=uY hs hG hz hp
 obtain⟨⟨h1,h2⟩,hK⟩:=hq
 have r1:aF Γ ps (x.toList.map a.eval):=E8 (by simpa using hlen) (λi p v h3 h4=>by
  rw[List.getElem?_map,mJ]at h4
  obtain⟨o,h4,rfl⟩:=h4
  exact fu i p o h3 h4) h1
 have r2:aF Γ qs (z.toList.map a.eval):=E8 (by simpa using Pp) (λi p v h3 h4=>by
  rw[List.getElem?_map,mJ]at h4
  obtain⟨o,h4,rfl⟩:=h4
  exact amz i p o h3 h4) h2
 refine⟨_,.func f (x.map a.eval) (z.map a.eval),hK,rfl,?_⟩
 simp only[aP]
 have:=aF.fn (Γ:=Γ) f ps qs r1 r2 (λp hp=>by have:=List.all_eq_true.1 h1 p hp;simp at this;exact this.1) (λp hp=>by have:=List.all_eq_true.1 h2 p hp;simp at this;exact this.1) .nil
 have e1:(x.toList.map a.eval).toArray=x.map a.eval:=by apply Array.ext';simp
 have e2:(z.toList.map a.eval).toArray=z.map a.eval:=by apply Array.ext';simp
 rw[e1,e2]at this
 exact this
theorem DD {o:Oper} {x:Operand} {y:AX} {G:Bool} {K:PV->Prop} (ho:o.op= .nilCheck x) (hx:gN x=some y) (hs:iB nt ds s Γ a) (hG:G=true) (he:ev G s (.nilCheck y) K):
  ∃p v,K p∧(execOp a.eval o).run P w= .ok (.value v) w∧aP Γ p v:=by
 simp only[ev]at he
 obtain⟨p,hp,hr⟩:=cU hx hs hG he
 split at hp
 ·split at hp
  ·rename_i blk hb
   have hr':=hr
   rw[←hs.bx]at hb
   obtain⟨b,hι,hv⟩:=hr'.pt hb hp.1
   exact⟨_,_,hp.2,by simp only[execOp,ho];rw[hv];rfl,by rw[←hv];exact hr⟩
  ·exact hp.elim
 ·obtain⟨b,o',cs,hv,_⟩:=aP.fp hr
  exact⟨_,_,hp,by simp only[execOp,ho];rw[hv];rfl,by rw[←hv];exact hr⟩
 ·obtain⟨fs,cs,hv,_⟩:=aP.fn hr
  exact⟨_,_,hp,by simp only[execOp,ho];rw[hv];rfl,by rw[←hv];exact hr⟩
 ·exact hp.elim
theorem iS.exec {o:Oper} {x:Sem Value} {K:PV->Prop} (h:iS P Γ w x K) (he:execOp a.eval o=(do Pure.pure (.value (←x)))):
  ∃p v,K p∧(execOp a.eval o).run P w= .ok (.value v) w∧aP Γ p v:=by
 obtain⟨p,v,hK,hr,hv⟩:=h
 exact⟨p,v,hK,by rw[he];simp[hr],hv⟩
theorem wX {t:TypeId} {i:TypeInfo} (h:P.info? t=some i):gT P t=some i.size:=by simp[gT,h]
theorem Af {o:Oper} {k:AK} {own G:Bool} {K:PV->Prop} (hk:lv P own o.op=some k) (hs:iB nt ds s Γ a) (hw:w.heap=Γ.heap) (hG:G=true) (he:ev G s k K):
  ∃p v,K p∧(execOp a.eval o).run P w= .ok (.value v) w∧aP Γ p v:=by
 obtain⟨dst,op,ty,pos,after,guard⟩:=o
 cases op with
 |
  move x=>
  simp only[lv]at hk
  split at hk<;>simp only[sJ,reduceCtorEq]at hk
  rename_i y hx;subst hk
  simp only[ev]at he
  obtain⟨p,hp,hr⟩:=cU hx hs hG he
  exact⟨p,_,hp,rfl,hr⟩
 |
  assign x=>
  simp only[lv]at hk
  split at hk<;>simp only[sJ,reduceCtorEq]at hk
  rename_i y hx;subst hk
  simp only[ev]at he
  obtain⟨p,hp,hr⟩:=cU hx hs hG he
  exact⟨p,_,hp,rfl,hr⟩
 |
  pick c x y=>
  simp only[lv]at hk
  split at hk<;>simp only[sJ,reduceCtorEq]at hk
  rename_i c' x' y' hc hx hy;subst hk
  obtain⟨p,v,h1,h2,h3⟩:=Mm (P:=P) (w:=w) hc hx hy hs hG he
  refine⟨p,v,h1,?_,h3⟩
  simp only[execOp]
  simp only[bJ]at h2⊢
  cases hb:(asBool (a.eval c)).run P w with
  |
   ok b w'=>
   rw[hb]at h2
   simp only[rJ,Sem.run_pure,Result.ok.injEq]at h2⊢
   exact⟨by rw[h2.1],h2.2⟩
  |halt h w'=>rw[hb]at h2;simp at h2
 |
  build t parts=>
  have E1:lv P false (.build t parts)=some k:=hk
  exact(wW (P:=P) (w:=w) E1 hs hG he).exec rfl
 |
  load t x=>
  simp only[lv]at hk
  split at hk
  ·rename_i g n y hg hn hx
   split at hk<;>simp only[sJ,reduceCtorEq]at hk
   subst hk
   exact(E5 hx hs hw hG hg hn he).exec rfl
  ·simp at hk
 |
  nilCheck x=>
  simp only[lv]at hk
  split at hk<;>simp only[sJ,reduceCtorEq]at hk
  rename_i y hx;subst hk
  exact DD rfl hx hs hG he
 |
  binOp op t x y yt=>
  exact(Ka (P:=P) (w:=w) hk hs hG he).exec rfl
 |
  unOp op t x=>
  simp only[lv]at hk
  split at hk<;>simp only[sJ,reduceCtorEq]at hk
  rename_i y hx;subst hk
  exact(WR hx hs hG he).exec rfl
 |
  convert t d x=>
  simp only[lv]at hk
  split at hk
  ·rename_i k1 k2 y h1 h2 hx
   simp only[sJ]at hk;subst hk
   exact(J7 hx hs hG h1 h2 he).exec rfl
  ·rename_i e y h1 h2 hx
   split at hk<;>simp only[sJ,reduceCtorEq]at hk
   rename_i h3;subst hk
   exact(J8 hx hs hw hG h1 h2 h3 he).exec rfl
  ·split at hk<;>simp only[sJ,reduceCtorEq]at hk
   subst hk;simp[ev]at he
  ·split at hk
   ·split at hk<;>simp only[sJ,reduceCtorEq]at hk
    subst hk;simp[ev]at he
   ·simp at hk
  ·simp at hk
 |
  makeFunc f x z=>
  simp only[lv]at hk
  split at hk<;>simp only[sJ,reduceCtorEq]at hk
  rename_i p q hx hz;subst hk
  exact(He hx hz hs hG he).exec rfl
 |
  slice t x lo hi mx=>
  simp only[lv]at hk
  split at hk
  ·rename_i y GS lO Mb hu hx hl hh hm
   simp only[sJ]at hk;subst hk
   exact(B4 hx hl hh hm hs hG hu he).exec rfl
  ·rename_i e y GS lO Mb hu hx hl hh hm
   split at hk
   ·rename_i n hn
    split at hk<;>simp only[sJ,reduceCtorEq]at hk
    rename_i hmh;subst hk
    exact(Dz hx hl hh hm hmh hs hG hu hn he).exec rfl
   ·simp at hk
  ·rename_i n e y GS lO Mb hu hx hl hh hm
   split at hk<;>simp only[sJ,reduceCtorEq]at hk
   rename_i sz hn;subst hk
   exact(DA hx hl hh hm hs hG hu hn he).exec rfl
  ·simp at hk
 |makeMap t r=>simp[lv]at hk
 |lookup t m x ok=>simp[lv]at hk
 |mapUpdate t m x y=>simp[lv]at hk
 |
  sliceToArrayPointer t x=>
  simp only[lv]at hk
  split at hk
  ·rename_i n e y hu hx
   split at hk<;>simp only[sJ,reduceCtorEq]at hk
   subst hk
   exact(QL hx hs hG hu he).exec rfl
  ·simp at hk
 |
  fieldAddr t x i=>
  simp only[lv]at hk
  split at hk
  ·rename_i fs y hu hx
   split at hk
   ·rename_i f hf
    split at hk<;>simp only[sJ,reduceCtorEq]at hk
    rename_i m hn;subst hk
    exact(Hb hx hs hG hu hf hn he).exec rfl
   ·simp at hk
  ·simp at hk
 |
  field t x i=>
  simp only[lv]at hk
  split at hk
  ·rename_i fs y hu hx
   split at hk
   ·rename_i f hf
    split at hk
    ·rename_i g n hg hn
     split at hk<;>simp only[sJ,reduceCtorEq]at hk
     subst hk
     exact(Kc hx hs hG hu hf hg hn he).exec rfl
    ·simp at hk
   ·simp at hk
  ·simp at hk
 |
  indexAddr t x i=>
  simp only[lv]at hk
  split at hk
  ·rename_i e y j hu hx hi
   split at hk<;>simp only[sJ,reduceCtorEq]at hk
   rename_i n hn;subst hk
   exact(B0 hx hi hs hG hu hn he).exec rfl
  ·rename_i len e y j hu hx hi
   split at hk<;>simp only[sJ,reduceCtorEq]at hk
   rename_i n hn;subst hk
   exact(B3 hx hi hs hG hu hn he).exec rfl
  ·simp at hk
 |
  index t x i=>
  simp only[lv]at hk
  split at hk
  ·rename_i len e y j hu hx hi
   split at hk
   ·rename_i g n hg hn
    split at hk<;>simp only[sJ,reduceCtorEq]at hk
    subst hk
    exact(Kb hx hi hs hG hu hg hn he).exec rfl
   ·simp at hk
  ·rename_i y j hu hx hi
   simp only[sJ]at hk;subst hk
   exact(Hd hx hi hs hG hu he).exec rfl
  ·simp at hk
 |
  extract x i=>
  simp only[lv]at hk
  split at hk<;>simp only[sJ,reduceCtorEq]at hk
  rename_i y hx;subst hk
  exact(Fb hx hs he).exec rfl
 |
  call c=>
  obtain⟨callee,args,tys⟩:=c
  obtain⟨args⟩:=args
  obtain⟨tys⟩:=tys
  cases callee with
  |
   value f=>
   simp only[lv]at hk
   split at hk<;>simp only[sJ,reduceCtorEq]at hk
   subst hk
   simp[ev]at he
  |invoke r m=>simp[lv]at hk
  |
   builtin b=>
   simp only[lv]at hk
   have hex:∀(x:Sem Value) (c:Array Bool),builtin b tys.toArray ty c ((args.map a.eval).toArray)=(do Pure.pure (.value (←x)))->iS P Γ w x K->
     c=(args.toArray.map λ| .const _=>true|_=>false)->
     ∃p v,K p∧(execOp a.eval {dst:=dst,op:= .call {callee:= .builtin b,args:=args.toArray,argTypes:=tys.toArray},type:=ty,pos:=pos,after:=after,guard:=guard}).run P w= .ok (.value v) w∧aP Γ p v:=by
    intro x c hx hy hc
    refine hy.exec ?_
    have e:Array.map a.eval args.toArray=(args.map a.eval).toArray:=by simp
    simp only[execOp,resolve,e]
    rw[←hx,hc]
    rfl
   cases b with
   |len=>exact hex _ _ rfl (QN (P:=P) (w:=w) (ty:=ty) hk hs hG he) rfl
   |cap=>exact hex _ _ rfl (QM (P:=P) (w:=w) (ty:=ty) hk hs hG he) rfl
   |
    min=>
    unfold dB at hk
    simp only at hk
    split at hk<;>simp only[sJ,reduceCtorEq]at hk
    rename_i l hl;subst hk
    exact hex _ _ rfl (by simpa using Mr (P:=P) (w:=w) (ty:=ty) (tys:=tys) hl hs hG he) rfl
   |
    max=>
    unfold dB at hk
    simp only at hk
    split at hk<;>simp only[sJ,reduceCtorEq]at hk
    rename_i l hl;subst hk
    exact hex _ _ rfl (by simpa using Mr (P:=P) (w:=w) (ty:=ty) (tys:=tys) hl hs hG he) rfl
   |
    append=>
    unfold dB at hk
    split at hk<;>(try contradiction)
    repeat (split at hk<;>(try contradiction))
    all_goals first|(simp only[sJ]at hk;subst hk;simp[ev]at he;done)|(simp at hk;done)|(split at hk<;>first|(simp only[sJ]at hk;subst hk;simp[ev]at he;done)|(simp at hk;done))
   |
    copy=>
    unfold dB at hk
    split at hk<;>(try contradiction)
    repeat (split at hk<;>(try contradiction))
    all_goals (simp only[sJ]at hk;subst hk;simp[ev]at he)
   |
    clear=>
    unfold dB at hk
    split at hk<;>(try contradiction)
    repeat (split at hk<;>(try contradiction))
    all_goals (simp only[sJ]at hk;subst hk;simp[ev]at he)
   |_=>unfold dB at hk;split at hk<;>contradiction
 |
  alloc t=>
  simp only[lv]at hk
  split at hk<;>simp only[sJ,reduceCtorEq]at hk
  subst hk;simp[ev]at he
 |
  box t x=>
  simp only[lv]at hk
  split at hk<;>simp only[sJ,reduceCtorEq]at hk
  subst hk;simp[ev]at he
 |
  buildSlice t n parts=>
  simp only[lv]at hk
  repeat (split at hk<;>(try contradiction))
  all_goals (simp only[sJ]at hk;subst hk;simp[ev]at he)
 |
  makeSlice t l c=>
  simp only[lv]at hk
  repeat (split at hk<;>(try contradiction))
  all_goals (simp only[sJ]at hk;subst hk;simp[ev]at he)
 |
  store t x y=>
  simp only[lv]at hk
  split at hk<;>simp only[sJ,reduceCtorEq]at hk
  subst hk;simp[ev]at he
 |_=>simp[lv]at hk
end Go.Ab
