/- Each quiet operation does what its abstract reading says. No condition. -/
import Derived.Test.YtjkfnhhekobfgaaGreatDoorA1
set_option linter.all false
namespace Go.Ab
variable [eJ]
variable {P:Program} {nt:Nat} {ds:List Deferred} {s:St} {Γ:Cx} {a:Act} {w:World}
theorem aO.int {k:IntKind} {n:Int} {v:Value} (h:aO Γ (.int k n) v):v= .int k n:=by
 simp only[aO]at h;cases h;rfl
theorem aO.bl {x:Bool} {v:Value} (h:aO Γ (.bl x) v):v= .bool x:=by
 simp only[aO]at h;cases h;rfl
theorem aO.str {l:List UInt8} {v:Value} (h:aO Γ (.str l) v):∃s:ByteArray,v= .string s∧s.data.toList=l:=by
 simp only[aO]at h;cases h with|str l s h _=>exact⟨s,rfl,h⟩
theorem aO.np {v:Value} (h:aO Γ .np v):v= .pointer none:=by
 simp only[aO]at h;cases h;rfl
theorem aO.nf {v:Value} (h:aO Γ .nf v):v= .nilFunc:=by
 simp only[aO]at h;cases h;rfl
theorem aO.pt {k aQ:Nat} {p:List Step} {v:Value} {blk:bX} (h:aO Γ (.pt k p aQ) v) (hg:get Γ.bx k=some blk) (ht:aQ=blk.aQ):
  ∃b,Γ.ι k=some b∧v= .pointer (some ⟨b,du p,none⟩):=by
 simp only[aO]at h
 cases h with
 |
  pt k p aQ v cI ko h1 hv _=>
  rw[hg]at ko
  obtain⟨h2,h3⟩:=ko
  cases h2
  exact hv ht
theorem aO.rs {k off len aQ sz:Nat} {c:kY} {p:List Step} {v:Value} {blk:bX} (h:aO Γ (.rs k p off len aQ sz c) v) (hg:get Γ.bx k=some blk) (ht:aQ=blk.aQ):
  ∃a bC,v= .slice a len bC∧iT Γ k p off len sz c a bC:=by
 simp only[aO]at h
 cases h with
 |
  rs k p off len aQ sz c v cI ko h1 hv _=>
  rw[hg]at ko
  obtain⟨h2,h3⟩:=ko
  cases h2
  exact hv ht
theorem aO.fp {sz:Nat} {l:List PV} {p:List Step} {v:Value} (h:aO Γ (.fp sz l p) v):
  ∃b o cs,v= .pointer (some ⟨b,o+du p,none⟩)∧aG Γ l cs∧(∀x∈l,x.width=sz)∧(b<Γ.heap.size∧¬Γ.own b)∧∀i c,cs[i]? =some c->cell Γ.heap b (o+i)=some c:=by
 simp only[aO]at h
 cases h with
 | @fp _ _ cs sz l p b o hl hw hm hc _=>exact⟨b,o,cs,rfl,hl,hw,hm,hc⟩
theorem aO.sl {sz:Nat} {l:List PV} {clip:Bool} {v:Value} (h:aO Γ (.sl sz l clip) v):
  ∃
   a bC cs,v= .slice a l.length bC∧aG Γ l cs∧(∀x∈l,x.width=sz)∧l.length≤bC∧(clip=true->bC=l.length)∧
   (l≠[]->∃b o,a=some ⟨b,o,none⟩∧b<Γ.heap.size∧¬Γ.own b∧∀i c,cs[i]? =some c->cell Γ.heap b (o+i)=some c):=by
 simp only[aO]at h
 cases h with
 | @sl _ _ cs sz l clip a bC hl hw hc hk hb _=>exact⟨a,bC,cs,rfl,hl,hw,hc,hk,hb⟩
theorem aO.fn {f:Fn} {first cap:List PV} {v:Value} (h:aO Γ (.fn f first cap) v):
  ∃fs cs:List Value,v= .func f fs.toArray cs.toArray∧aG Γ first fs∧aG Γ cap cs∧(∀x∈first,x.isAgg=false)∧(∀x∈cap,x.isAgg=false):=by
 simp only[aO]at h
 cases h with
 | @fn _ _ fs cs f first cap h1 h2 h3 h4 _=>exact⟨fs,cs,rfl,h1,h2,h3,h4⟩
theorem aO.qw {p:PV} {cs:List Value} (h:aG Γ [p] cs) (bS:p.isAgg=true):aO Γ p (.agg cs.toArray):=by
 cases p<;>simp[PV.isAgg]at bS
 ·exact⟨cs,rfl,h⟩
 ·exact⟨cs,rfl,h⟩
theorem aO.A4 {p:PV} {v:Value} (h:aG Γ [p] [v]) (bS:p.isAgg=false):aO Γ p v:=by
 cases p<;>simp[PV.isAgg]at bS<;>first|exact h|trivial|(cases h;done)
theorem aO.cells {p:PV} {v:Value} (h:aO Γ p v) (bS:p.isAgg=true):∃cs:List Value,v= .agg cs.toArray∧aG Γ [p] cs:=by
 cases p<;>simp[PV.isAgg]at bS
 ·exact h
 ·exact h
theorem aO.xo {p:PV} {v:Value} (h:aO Γ p v) (hc:p.bG=true):aG Γ [p] v.cells.toList:=by
 cases p<;>simp[PV.bG]at hc
 case st w l=>obtain⟨cs,rfl,h⟩:=h;simpa[Value.cells]using h
 case ar sz n l=>obtain⟨cs,rfl,h⟩:=h;simpa[Value.cells]using h
 all_goals
  simp only[aO]at h
  have h1:=h.one v (by simp)
  have:v.cells= #[v]:=by cases v<;>simp_all [fN,Value.cells]
  rw[this];exact h
theorem MZ {v:Value} {p:PV} (h:trV v=some p):aO Γ p v:=by
 unfold trV at h
 split at h<;>simp only[sJ,reduceCtorEq]at h<;>subst h<;>simp only[aO]
 ·exact .bl _ .nil
 ·exact .int _ _ .nil
 ·exact .str _ _ rfl .nil
 ·exact .np .nil
 ·exact .sl 0 [] true none 0 .nil (by simp) (Nat.le_refl _) (λ_=>rfl) (λh=>absurd rfl h) .nil
 ·exact .nf .nil
 ·exact .ni .nil
theorem uB {x:Operand} {y:AX} (h:iW x=some y) (hs:gK nt ds s Γ a):aO Γ (vx s y) (a.eval x):=by
 cases x with
 |
  tmp t=>
  simp only[iW,sJ]at h
  subst h
  simp only[vx,Act.eval]
  cases hg:get s.env t with
  |none=>simp[aO]
  |some p=>simpa using hs.env t p hg
 |
  const v=>
  simp only[iW]at h
  split at h
  ·rename_i p hp
   simp only[sJ]at h;subst h
   exact MZ hp
  ·exact absurd h (by simp)
 |global g=>simp[iW]at h
 |
  func f=>
  simp only[iW,sJ]at h
  subst h
  simp only[vx,Act.eval,aO]
  simpa using aG.fn (Γ:=Γ) (fs:=[]) (cs:=[]) (.func f) [] [] .nil .nil (by simp) (by simp) .nil
theorem cW {g:Bool} {x:Operand} {y:AX} {K:PV->Prop} (h:iW x=some y) (hs:gK nt ds s Γ a) (hg:g=true) (hv:vg g s y K):
  ∃p,K p∧aO Γ p (a.eval x):=by
 have hr:=uB h hs
 unfold vg at hv
 split at hv
 ·rename_i b p hb
  rw[hb]at hr
  exact⟨p,hv.2,by rw[aO]at hr;exact hr.1 (hv.1 hg)⟩
 ·exact⟨_,hv,hr⟩
theorem tg {g:Bool} (hs:gK nt ds s Γ a) (hg:g=true):∀ {xs:List Operand} {ys:List AX} {K:List PV->Prop},tf xs=some ys->sY g s ys K->
  ∃ps,K ps∧ps.length=xs.length∧∀(i:Nat) p x,ps[i]? =some p->xs[i]? =some x->aO Γ p (a.eval x)
 |
  [],ys,K,h,hv=>by
  simp only[tf,sJ]at h;subst h
  exact⟨[],hv,rfl,by simp⟩
 |
  x::xs,ys,K,h,hv=>by
  simp only[tf]at h
  split at h
  ·rename_i y l hy hl
   simp only[sJ]at h;subst h
   obtain⟨p,hp,hr⟩:=cW hy hs hg hv
   obtain⟨ps,Cb,hlen,dM⟩:=tg hs hg hl hp
   refine⟨p::ps,Cb,by simp[hlen],λi q z h1 h2=> ?_⟩
   cases i with
   |zero=>simp at h1 h2;subst h1 h2;exact hr
   |succ i=>simp at h1 h2;exact dM i q z h1 h2
  ·exact absurd h (by simp)
theorem wR {g:Bool} (hs:gK nt ds s Γ a) (hg:g=true):∀ {xs:List (Nat×Operand)} {ys:List (Nat×AX)} {K:List (Nat×PV)->Prop},pr xs=some ys->y9 g s ys K->
  ∃ps,K ps∧ps.length=xs.length∧∀(i:Nat) j p k x,ps[i]? =some (j,p)->xs[i]? =some (k,x)->j=k∧aO Γ p (a.eval x)
 |
  [],ys,K,h,hv=>by
  simp only[pr,sJ]at h;subst h
  exact⟨[],hv,rfl,by simp⟩
 |
  (n,x)::xs,ys,K,h,hv=>by
  simp only[pr]at h
  split at h
  ·rename_i y l hy hl
   simp only[sJ]at h;subst h
   obtain⟨p,hp,hr⟩:=cW hy hs hg hv
   obtain⟨ps,Cb,hlen,dM⟩:=wR hs hg hl hp
   refine⟨(n,p)::ps,Cb,by simp[hlen],λi j q k z h1 h2=> ?_⟩
   cases i with
   |zero=>simp at h1 h2;obtain⟨rfl,rfl⟩:=h1;obtain⟨rfl,rfl⟩:=h2;exact⟨rfl,hr⟩
   |succ i=>simp at h1 h2;exact dM i j q k z h1 h2
  ·exact absurd h (by simp)
theorem fX {p:PV} {K:Int->Prop} {v:Value} (h:mS p K) (hr:aO Γ p v):∃k n,v= .int k n∧K n:=by
 unfold mS at h
 split at h
 ·exact⟨_,_,hr.int,h⟩
 ·exact h.elim
def ia (P:Program) (Γ:Cx) (w:World) (x:Sem Value) (K:PV->Prop):Prop:=
 ∃p v,K p∧x.run P w= .ok v w∧aO Γ p v
theorem ia.pure {K:PV->Prop} {p:PV} {v:Value} (h:K p) (hr:aO Γ p v):ia P Γ w (Pure.pure v) K:=⟨p,v,h,rfl,hr⟩
theorem jG {x:Bool}:aO Γ (.bl x) (.bool x):=by simp only[aO];exact .bl _ .nil
theorem dS {k:IntKind} {n:Int}:aO Γ (.int k n) (.int k n):=by simp only[aO];exact .int _ _ .nil
theorem I4 {b:ByteArray}:aO Γ (.str b.data.toList) (.string b):=by simp only[aO];exact .str _ _ rfl .nil
theorem oE {b:ByteArray} {l:List UInt8} (h:b.data.toList=l):aO Γ (.str l) (.string b):=by subst h;exact I4
theorem toList_data (b:ByteArray):b.toList=b.data.toList:=by rw[ByteArray.toList_eq]
theorem M0 {op:BinOp} {t:TypeId} {k k':IntKind} {m n:Int} {K:PV->Prop} (hk:op= .shl∨op= .shr∨k=k') (h:ot op k m n K):
  ia P Γ w (binOp op t (.int k m) (.int k' n)) K:=by
 rcases hk with rfl|rfl|rfl
 ·obtain⟨h1,h2⟩:=h
  refine⟨_,_,h2,?_,dS⟩
  simp only[binOp,Op.shift]
  rw[if_neg (by omega)];rfl
 ·obtain⟨h1,h2⟩:=h
  refine⟨_,_,h2,?_,dS⟩
  simp only[binOp,Op.shift]
  rw[if_neg (by omega)];rfl
 ·cases op<;>simp only[ot]at h
  case quo=>exact⟨_,_,h.2,by simp[binOp,Op.intDiv,h.1],dS⟩
  case rem=>exact⟨_,_,h.2,by simp[binOp,Op.intDiv,h.1],dS⟩
  case shl=>exact⟨_,_,h.2,by simp only[binOp,Op.shift];rw[if_neg (by omega)];rfl,dS⟩
  case shr=>exact⟨_,_,h.2,by simp only[binOp,Op.shift];rw[if_neg (by omega)];rfl,dS⟩
  case andNot=>exact⟨_,_,h,by rw[binOp_andNot];rfl,dS⟩
  case and=>exact⟨_,_,h,by rw[binOp_and];rfl,dS⟩
  case or=>exact⟨_,_,h,by rw[binOp_or];rfl,dS⟩
  case xor=>exact⟨_,_,h,by rw[binOp_xor];rfl,dS⟩
  case add=>exact⟨_,_,h,by rw[binOp_add];rfl,dS⟩
  case sub=>exact⟨_,_,h,by rw[binOp_sub];rfl,dS⟩
  case mul=>exact⟨_,_,h,by rw[binOp_mul];rfl,dS⟩
  all_goals exact⟨_,_,h,by simp[binOp,Op.intCmp],jG⟩
theorem M1 {op:BinOp} {t:TypeId} {x y:ByteArray} {K:PV->Prop} (h:uA op x.data.toList y.data.toList K):
  ia P Γ w (binOp op t (.string x) (.string y)) K:=by
 cases op<;>simp only[uA]at h<;>first|exact h.elim|skip
 case add=>
  refine⟨_,_,h.2,?_,oE (b:=x++y) (by simp)⟩
  have:¬((x.size+y.size:Nat):Int)>IntKind.i64.max:=by
   have h1:=h.1
   have e1:x.data.toList.length=x.size:=Array.length_toList
   have e2:y.data.toList.length=y.size:=Array.length_toList
   have e3:IntKind.i64.max=9223372036854775807:=by decide
   omega
  simp only[binOp,Op.stringOp]
  rw[if_neg this];rfl
 all_goals
  refine⟨_,_,h,?_,jG⟩
  simp[binOp,Op.stringOp,toList_data]
end Go.Ab
namespace Go.Ab
variable [eJ]
variable {P:Program} {nt:Nat} {ds:List Deferred} {s:St} {Γ:Cx} {a:Act} {w:World}
theorem xp {l:List PV} {sz:Nat} {p:List Step} {u:PV} {cs:List Value} (h:aG Γ l cs) (hw:∀x∈l,x.width=sz) (hg:jN (.arr sz l) p=some u):
  du p+u.width≤cs.length∧aG Γ [u] ((cs.drop (du p)).take u.width):=by
 cases p with
 |nil=>simp[jN]at hg
 |
  cons x p=>
  cases x with
  |f i o=>simp[jN]at hg
  |
   i j s=>
   simp only[jN]at hg
   split at hg
   ·rename_i hs
    subst hs
    split at hg
    ·rename_i c hc
     have h3:=h.at hc
     obtain⟨h4,h5⟩:=oD p h3 hg
     have h6:=h3.hZ
     have:=xl h hc (by omega) rfl h5
     have hj:=(List.getElem?_eq_some_iff.1 hc).1
     rw[gQ hw (by omega)]at this
     simpa[du]using this
    ·exact absurd hg (by simp)
   ·exact absurd hg (by simp)
  |
   w o n s=>
   simp only[jN]at hg
   split at hg
   ·rename_i hs
    obtain⟨rfl,hs⟩:=hs
    obtain⟨h1,h2⟩:=h.wO hw hs
    have uu:=h1.P9 (sz:=s) (n:=n) (by rw[lJ,List.length_drop,Nat.min_eq_left (by omega)]) (λx hx=>hw x (List.mem_of_mem_drop (List.mem_of_mem_take hx)))
    obtain⟨h3,h4⟩:=oD p uu hg
    rw[lJ,List.length_drop]at h3
    rw[kb _ _ _ _ _ (by omega)]at h4
    refine⟨by simp only[du];omega,by simpa only[du]using h4⟩
   ·exact absurd hg (by simp)
theorem lE {heap:Array Obj} {b o:Nat} {cs:List Value} (h:∀i c,cs[i]? =some c->cell heap b (o+i)=some c) (p n:Nat):
  ∀i c,((cs.drop p).take n)[i]? =some c->cell heap b (o+p+i)=some c:=by
 intro i c hc
 rw[List.getElem?_take]at hc
 split at hc
 ·rw[List.getElem?_drop]at hc
  have:=h _ _ hc
  rwa [Nat.add_assoc]
 ·exact absurd hc (by simp)
theorem kO {heap:Array Obj} {b:Nat} {c:Array Value} {e:TypeId} {fr:Nat×Nat} (h:heap[b]? =some (.cells c e fr)) (cs rest:List Value) (hc:c.toList=cs++rest):
  ∀i x,cs[i]? =some x->cell heap b (0+i)=some x:=by
 intro i x hx
 simp only[cell,h,Nat.zero_add]
 have hi:=(List.getElem?_eq_some_iff.1 hx).1
 rw[←Array.getElem?_toList,hc,List.getElem?_append_left hi,hx]
theorem Mem.at (hm:Mem Γ) {k b:Nat} {blk:bX} {p:List Step} {u:PV} (hg:get Γ.bx k=some blk) (hb:Γ.ι k=some b) (hu:jN blk p=some u):
  ∃cs,aG Γ [u] cs∧∀i c,cs[i]? =some c->cell Γ.heap b (du p+i)=some c:=by
 have h:=hm.blk k blk hg
 cases blk with
 |
  box v=>
  obtain⟨b',c,e,h1,h2,h3⟩:=h
  rw[hb]at h1;cases h1
  obtain⟨h4,h5⟩:=oD p h3 (by simpa[jN]using hu)
  refine⟨_,h5,?_⟩
  have:=lE (kO h2 c.toList [] (by simp)) (du p) u.width
  simpa using this
 |
  arr sz l=>
  obtain⟨h1,h2,h3⟩:=h
  rw[hb]at h3
  obtain⟨c,e,cs,rest,h4,h5,h6,_⟩:=h3
  obtain⟨h7,h8⟩:=xp h6 h1 hu
  refine⟨_,h8,?_⟩
  have:=lE (kO h4 cs rest h5) (du p) u.width
  simpa using this
 |map b0 ks vs l=>simp[jN]at hu
theorem cell?_eq (w:World) (b o:Nat):w.cell? ⟨b,o,none⟩=cell w.heap b o:=by
 simp only[World.cell?,cell]
 split<;>simp_all
theorem qU {t:TypeId} {g:Bool} (h:lZ P t=some g):(isAgg t).run P w= .ok g w:=by
 unfold lZ at h
 split at h<;>simp only[sJ,reduceCtorEq]at h
 ·rename_i fs hu;subst h;simp[isAgg,run_underlying hu]
 ·rename_i n e hu;subst h;simp[isAgg,run_underlying hu]
 ·rename_i d h1 h2 hu;subst h
  simp only[isAgg,bJ,run_underlying hu,rJ]
  try split
  all_goals simp_all
theorem run_sizeOf {t:TypeId} {n:Nat} (h:iL P t=some n):(sizeOf t).run P w= .ok n w:=by
 unfold iL at h
 split at h<;>simp only[sJ,reduceCtorEq]at h
 rename_i i hi;subst h
 simp[sizeOf,typeInfo,hi]
theorem iZ (b o n:Nat):Addr.add ⟨b,o,none⟩ n=⟨b,o+n,none⟩:=by
 simp only[Addr.add];split
 ·subst_vars;rfl
 ·rfl
theorem vF {t:TypeId} {u:PV} {cs:List Value} {b o:Nat} (hr:aG Γ [u] cs) (hc:∀i c,cs[i]? =some c->cell w.heap b (o+i)=some c)
  (hg:lZ P t=some u.isAgg) (hn:iL P t=some u.width):∃v,(loadVar t ⟨b,o,none⟩).run P w= .ok v w∧aO Γ u v:=by
 have hl:=hr.hZ
 cases ha:u.isAgg with
 |
  true=>
  refine⟨.agg cs.toArray,?_,aO.qw hr ha⟩
  rw[ha]at hg
  simp only[loadVar,bJ,qU hg,rJ,if_true,run_sizeOf hn]
  rw[←hl,run_loadCells_list w ⟨b,o,none⟩ cs (λj v hj=>by rw[iZ,cell?_eq];exact hc j v hj)]
  rfl
 |
  false=>
  have h1:u.width=1:=by cases u<;>simp[PV.isAgg]at ha<;>rfl
  rw[h1]at hl
  obtain⟨v,rfl⟩:=List.length_eq_one_iff.1 hl
  refine⟨v,?_,aO.A4 hr ha⟩
  rw[ha]at hg
  have:=hc 0 v rfl
  simp only[loadVar,bJ,qU hg,rJ,fJ,if_false,run_load,cell?_eq]
  rw[Nat.add_zero]at this
  rw[this]
theorem Cs {t:TypeId} {x:Operand} {y:AX} {g:Bool} {G:Bool} {n:Nat} {K:PV->Prop} (hx:iW x=some y) (hs:gK nt ds s Γ a) (hw:w.heap=Γ.heap) (hG:G=true)
  (ha:lZ P t=some g) (hn:iL P t=some n) (he:ev G s (.load g n y) K):ia P Γ w (Instr.loadAt t (a.eval x)) K:=by
 simp only[ev]at he
 obtain⟨p,hp,hr⟩:=cW hx hs hG he
 split at hp
 ·rename_i k p aQ
  split at hp
  ·rename_i blk hb
   split at hp
   ·rename_i u hu
    obtain⟨⟨h1,h2,h3⟩,hK⟩:=hp
    rw[←hs.bx]at hb
    obtain⟨b,hι,hv⟩:=hr.pt hb h1
    obtain⟨cs,zO,yT⟩:=hs.mem.at hb hι hu
    obtain⟨v,yR,kq⟩:=vF (P:=P) (w:=w) (b:=b) (o:=du p) zO (by rw[hw];exact yT) (by rw[h3];exact ha) (by rw[h2];exact hn)
    exact⟨u,v,hK,by rw[hv];simpa[Instr.loadAt,Instr.sureAddr]using yR,kq⟩
   ·exact hp.elim
  ·exact hp.elim
 ·rename_i sz l p
  split at hp
  ·rename_i u hu
   obtain⟨⟨h2,h3⟩,hK⟩:=hp
   obtain⟨b,o,cs,hv,hl,lx,hm,hc⟩:=hr.fp
   obtain⟨h4,h5⟩:=xp hl lx hu
   obtain⟨v,yR,kq⟩:=vF (P:=P) (w:=w) (b:=b) (o:=o+du p) h5 (by rw[hw];exact lE hc (du p) u.width) (by rw[h3];exact ha) (by rw[h2];exact hn)
   exact⟨u,v,hK,by rw[hv];simpa[Instr.loadAt,Instr.sureAddr]using yR,kq⟩
  ·exact hp.elim
 ·exact hp.elim
theorem aO.I5 {k b aQ:Nat} {p:List Step} {blk:bX} (hb:get Γ.bx k=some blk) (ht:aQ=blk.aQ) (hι:Γ.ι k=some b) {o:Nat} (ho:o=du p):
  aO Γ (.pt k p aQ) (.pointer (some ⟨b,o,none⟩)):=by
 subst ho
 simp only[aO]
 exact .pt k p aQ _ blk ⟨hb,by omega⟩ rfl (λ_=>⟨b,hι,rfl⟩) .nil
theorem aO.M3 {sz b o:Nat} {l:List PV} {cs:List Value} {p:List Step} (hl:aG Γ l cs) (hw:∀x∈l,x.width=sz) (hm:b<Γ.heap.size∧¬Γ.own b)
  (hc:∀i c,cs[i]? =some c->cell Γ.heap b (o+i)=some c) {q:Nat} (hq:q=o+du p):aO Γ (.fp sz l p) (.pointer (some ⟨b,q,none⟩)):=by
 subst hq
 simp only[aO]
 exact .fp sz l p b o hl hw hm hc .nil
theorem Ei {t:TypeId} {x:Operand} {y:AX} {G:Bool} {K:PV->Prop} {i m:Nat} {fs:Array Field} {f:Field} (hx:iW x=some y) (hs:gK nt ds s Γ a) (hG:G=true)
  (hu:P.underlying t=some (.struct fs)) (hf:fs[i]? =some f) (hn:iL P f.type=some (m+1)) (he:ev G s (.fieldA i f.offset y) K):
  ia P Γ w (Instr.fieldAt t (a.eval x) i) K:=by
 simp only[ev]at he
 obtain⟨p,hp,hr⟩:=cW hx hs hG he
 have key:∀b o,(Instr.fieldAt t (.pointer (some ⟨b,o,none⟩)) i).run P w= .ok (.pointer (some ⟨b,o+f.offset,none⟩)) w:=by
  intro b o
  simp only[Instr.fieldAt,bJ,run_underlying hu,rJ,hf,Instr.sureAddr,Sem.run_pure,fieldPlace,run_sizeOf hn]
  rw[if_neg (by omega)]
  simp[iZ]
 split at hp
 ·rename_i k p aQ
  split at hp
  ·rename_i blk hb
   rw[←hs.bx]at hb
   obtain⟨b,hι,hv⟩:=hr.pt hb hp.1
   exact⟨_,_,hp.2,by rw[hv];exact key _ _,.I5 hb hp.1 hι (by simp[kN,du])⟩
  ·exact hp.elim
 ·rename_i sz l p
  obtain⟨b,o,cs,hv,hl,lx,hm,hc⟩:=hr.fp
  exact⟨_,_,hp,by rw[hv];exact key _ _,.M3 hl lx hm hc (by simp[kN,du];omega)⟩
 ·exact hp.elim
theorem zh {t e:TypeId} {x i:Operand} {y j:AX} {G:Bool} {K:PV->Prop} {n:Nat} (hx:iW x=some y) (hi:iW i=some j) (hs:gK nt ds s Γ a) (hG:G=true)
  (hu:P.underlying t=some (.slice e)) (hn:iL P e=some n) (he:ev G s (.indexA (.sl n) y j) K):ia P Γ w (Instr.indexAt t (a.eval x) (a.eval i)) K:=by
 simp only[ev]at he
 obtain⟨p,hp,hr⟩:=cW hx hs hG he
 obtain⟨q,hq,mQ⟩:=cW hi hs hG hp
 obtain⟨k,m,hm,hK⟩:=fX hq mQ
 rw[hm]
 have key:∀b o (len cap:Nat),0≤m->m<len->(Instr.indexAt t (.slice (some ⟨b,o,none⟩) len cap) (.int k m)).run P w= .ok (.pointer (some ⟨b,o+m.toNat*n,none⟩)) w:=by
  intro b o len cap h0 h1
  simp only[Instr.indexAt,asIntOf,bJ,Sem.run_pure,run_underlying hu,rJ]
  rw[if_pos ⟨h0,h1⟩]
  simp[run_sizeOf hn,iZ]
 split at hK
 ·rename_i dR l clip
  obtain⟨⟨rfl,h0,h1⟩,hK⟩:=hK
  obtain⟨ad,bC,cs,hv,hl,lx,hc,hk,hb⟩:=hr.sl
  obtain⟨b,o,rfl,dG,PB,kF⟩:=hb (by intro h;subst h;simp at h1;omega)
  rw[hv]
  exact⟨_,_,hK,key _ _ _ _ h0 h1,.M3 hl lx ⟨dG,PB⟩ kF (by simp[du])⟩
 ·rename_i kk p off len aQ dR c
  split at hK
  ·rename_i blk hb
   obtain⟨⟨h1,rfl,h2,h3⟩,hK⟩:=hK
   rw[←hs.bx]at hb
   obtain⟨ad,bC,hv,eE⟩:=hr.rs hb h1
   unfold iT at eE
   cases hι:Γ.ι kk with
   |none=>rw[hι]at eE;omega
   |
    some b=>
    rw[hι]at eE
    obtain⟨h4,h5,_⟩:=eE
    rcases h5 with h5|rfl
    ·omega
    rw[hv]
    exact⟨_,_,hK,key _ _ _ _ h2 h3,.I5 hb h1 hι (by simp[kN,du,Nat.add_mul];omega)⟩
  ·exact hK.elim
 ·exact hK.elim
theorem M4 {t e:TypeId} {x:Operand} {y:AX} {G:Bool} {K:PV->Prop} {n sz:Nat} (hx:iW x=some y) (hs:gK nt ds s Γ a) (hG:G=true)
  (hu:P.underlying t=some (.array n e)) (he:ev G s (.s2a n sz y) K):ia P Γ w (Instr.arrayAt t (a.eval x)) K:=by
 simp only[ev]at he
 obtain⟨p,hp,hr⟩:=cW hx hs hG he
 have key:∀(ad:Option Addr) (len cap:Nat),n≤len->(Instr.arrayAt t (.slice ad len cap)).run P w= .ok (.pointer ad) w:=by
  intro ad len cap h
  simp only[Instr.arrayAt,bJ,run_underlying hu,rJ]
  rw[if_neg (by omega)];rfl
 split at hp
 ·rename_i dR l clip
  obtain⟨⟨rfl,h0,h1⟩,hK⟩:=hp
  obtain⟨ad,bC,cs,hv,hl,lx,hc,hk,hb⟩:=hr.sl
  obtain⟨b,o,rfl,dG,PB,kF⟩:=hb (by intro h;subst h;simp at h1;omega)
  rw[hv]
  exact⟨_,_,hK,key _ _ _ h1,.M3 hl lx ⟨dG,PB⟩ kF (by simp[du])⟩
 ·rename_i kk p off len aQ dR c
  split at hp
  ·rename_i blk hb
   obtain⟨⟨h1,rfl,h2,h3⟩,hK⟩:=hp
   rw[←hs.bx]at hb
   obtain⟨ad,bC,hv,eE⟩:=hr.rs hb h1
   unfold iT at eE
   cases hι:Γ.ι kk with
   |none=>rw[hι]at eE;omega
   |
    some b=>
    rw[hι]at eE
    obtain⟨h4,h5,_⟩:=eE
    rcases h5 with h5|rfl
    ·omega
    rw[hv]
    exact⟨_,_,hK,key _ _ _ h3,.I5 hb h1 hι (by simp[kN,du])⟩
  ·exact hp.elim
 ·exact hp.elim
theorem zi {t e:TypeId} {x i:Operand} {y j:AX} {G:Bool} {K:PV->Prop} {len n:Nat} (hx:iW x=some y) (hi:iW i=some j) (hs:gK nt ds s Γ a) (hG:G=true)
  (hu:P.underlying t=some (.array len e)) (hn:iL P e=some n) (he:ev G s (.indexA (.ar len n) y j) K):ia P Γ w (Instr.indexAt t (a.eval x) (a.eval i)) K:=by
 simp only[ev]at he
 obtain⟨p,hp,hr⟩:=cW hx hs hG he
 obtain⟨q,hq,mQ⟩:=cW hi hs hG hp
 obtain⟨k,m,hm,⟨h0,h1⟩,hK⟩:=fX hq mQ
 rw[hm]
 have key:∀b o,(Instr.indexAt t (.pointer (some ⟨b,o,none⟩)) (.int k m)).run P w= .ok (.pointer (some ⟨b,o+m.toNat*n,none⟩)) w:=by
  intro b o
  simp only[Instr.indexAt,asIntOf,bJ,Sem.run_pure,run_underlying hu,rJ,Instr.sureAddr]
  rw[if_pos ⟨h0,h1⟩]
  simp[run_sizeOf hn,iZ]
 split at hK
 ·rename_i k p aQ
  split at hK
  ·rename_i blk hb
   rw[←hs.bx]at hb
   obtain⟨b,hι,hv⟩:=hr.pt hb hK.1
   exact⟨_,_,hK.2,by rw[hv];exact key _ _,.I5 hb hK.1 hι (by simp[kN,du])⟩
  ·exact hK.elim
 ·rename_i sz l p
  obtain⟨b,o,cs,hv,hl,lx,hm,hc⟩:=hr.fp
  exact⟨_,_,hK,by rw[hv];exact key _ _,.M3 hl lx hm hc (by simp[kN,du];omega)⟩
 ·exact hK.elim
end Go.Ab
namespace Go.Ab
variable [eJ]
variable {P:Program} {nt:Nat} {ds:List Deferred} {s:St} {Γ:Cx} {a:Act} {w:World}
theorem aO.gd {b:Bool} {p:PV} {v:Value} (h:aO Γ (.gd b p) v) (hb:b=true):aO Γ p v:=by
 rw[aO]at h;exact h.1 hb
theorem I6 {c x y:Operand} {c' x' y':AX} {G:Bool} {K:PV->Prop} (hc:iW c=some c') (hx:iW x=some x') (hy:iW y=some y') (hs:gK nt ds s Γ a) (hG:G=true)
  (he:ev G s (.pick c' x' y') K):ia P Γ w (do Pure.pure (if←asBool (a.eval c)then a.eval x else a.eval y)) K:=by
 simp only[ev]at he
 obtain⟨p,hp,hr⟩:=cW hc hs hG he
 have rx:=uB hx hs
 have ry:=uB hy hs
 split at hp
 ·rename_i b
  have hb:=hr.bl
  have key:((do Pure.pure (if←asBool (a.eval c)then a.eval x else a.eval y):Sem Value)).run P w= .ok (if b then a.eval x else a.eval y) w:=by
   rw[hb];simp[asBool]
  split at hp<;>rename_i e1 e2<;>(try rw[e1]at rx)<;>(try rw[e2]at ry)
  ·refine⟨_,_,hp,key,?_⟩
   rw[rx.bl,ry.bl];cases b<;>exact jG
  ·refine⟨_,_,hp.2,key,?_⟩
   cases b with
   |true=>rw[rx.bl];exact jG
   |false=>rw[(ry.gd (hp.1 rfl)).bl];exact jG
  ·refine⟨_,_,hp.2,key,?_⟩
   cases b with
   |false=>rw[ry.bl];exact jG
   |true=>rw[(rx.gd (hp.1 rfl)).bl];exact jG
  ·refine⟨_,_,hp.2,key,?_⟩
   cases b with
   |false=>rw[(ry.gd (hp.1.2 rfl)).bl];exact jG
   |true=>rw[(rx.gd (hp.1.1 rfl)).bl];exact jG
  ·refine⟨_,_,hp.2,key,?_⟩
   rw[hp.1,rx.bl];exact jG
  ·refine⟨_,_,hp.2,key,?_⟩
   rw[hp.1,ry.bl];exact jG
  ·exact hp.elim
 ·exact hp.elim
theorem Sz {op:UnOp} {x:Operand} {y:AX} {G:Bool} {K:PV->Prop} (hx:iW x=some y) (hs:gK nt ds s Γ a) (hG:G=true) (he:ev G s (.un op y) K):
  ia P Γ w (Op.unary op (a.eval x)) K:=by
 simp only[ev]at he
 obtain⟨p,hp,hr⟩:=cW hx hs hG he
 split at hp
 ·exact⟨_,_,hp,by rw[hr.bl];rfl,jG⟩
 ·exact⟨_,_,hp,by rw[hr.int];rfl,dS⟩
 ·exact⟨_,_,hp,by rw[hr.int];rfl,dS⟩
 ·exact hp.elim
theorem Hl {t d:TypeId} {k k':IntKind} {x:Operand} {y:AX} {G:Bool} {K:PV->Prop} (hx:iW x=some y) (hs:gK nt ds s Γ a) (hG:G=true)
  (ht:P.underlying t=some (.int k')) (hd:P.underlying d=some (.int k)) (he:ev G s (.convI k y) K):ia P Γ w (convert t d (a.eval x)) K:=by
 simp only[ev]at he
 obtain⟨p,hp,hr⟩:=cW hx hs hG he
 obtain⟨k2,n,hv,hK⟩:=fX hp hr
 exact⟨_,_,hK,by rw[hv];simp[convert,run_underlying ht,run_underlying hd,Conv.intToInt],dS⟩
theorem th {p:PV} {l:List PV} {bs:List UInt8} (h:ij (p::l)=some bs):∃n r,p= .int .u8 n∧0≤n∧n<256∧ij l=some r∧bs=UInt8.ofNat n.toNat::r:=by
 cases p<;>(try(simp only[ij,reduceCtorEq]at h;done))
 rename_i k n
 cases k<;>(try(simp only[ij,reduceCtorEq]at h;done))
 simp only[ij]at h
 split at h
 ·rename_i hn
  split at h
  ·rename_i r hr
   simp only[sJ]at h
   exact⟨n,r,rfl,hn.1,hn.2,hr,h.symm⟩
  ·exact absurd h (by simp)
 ·exact absurd h (by simp)
theorem qx:∀ {l:List PV} {bs:List UInt8},ij l=some bs->bs.length=l.length
 |[],bs,h=>by simp[ij]at h;subst h;rfl
 |
  p::l,bs,h=>by
  obtain⟨n,r,_,_,_,hr,rfl⟩:=th h
  simp[qx hr]
theorem Ct {l:List PV}:∀ {bs:List UInt8} {cs:List Value},aG Γ l cs->ij l=some bs->cs.length=bs.length∧∀(i:Nat) c,cs[i]? =some c->∃n,c= .int .u8 n∧∃b,bs[i]? =some b∧b=UInt8.ofNat n.toNat:=by
 induction l with
 |nil=>intro bs cs h hb;cases h;simp[ij]at hb;subst hb;simp
 |
  cons p l ih=>
  intro bs cs h hb
  obtain⟨n,r,rfl,h0,h1,hr,rfl⟩:=th hb
  cases h with
  |
   int k n hl=>
   obtain⟨i1,i2⟩:=ih hl hr
   refine⟨by simp[i1],λi c hc=> ?_⟩
   cases i with
   |zero=>simp at hc;subst hc;exact⟨n,rfl,_,by simp,rfl⟩
   |succ i=>simp at hc;simpa using i2 i c hc
theorem nV {p:PV} {v:Value} {K:Nat->List PV->Prop} (hs:gK nt ds s Γ a) (h:content s p K) (hr:aO Γ p v):
  ∃sz l cs ad bC,K sz l∧v= .slice ad l.length bC∧aG Γ l cs∧(l≠[]->∃b o,ad=some ⟨b,o,none⟩∧∀i c,cs[i]? =some c->cell Γ.heap b (o+i)=some c)∧l.length≤bC∧∀x∈l,x.width=sz:=by
 unfold content at h
 split at h
 ·rename_i sz l clip
  obtain⟨ad,bC,cs,hv,hl,hw,hc,hk,hb⟩:=hr.sl
  exact⟨sz,l,cs,ad,bC,h,hv,hl,λbS=>let⟨b,o,h1,_,_,h4⟩:=hb bS;⟨b,o,h1,h4⟩,hc,hw⟩
 ·rename_i k p off len aQ sz c
  split at h
  ·rename_i dR l hb
   obtain⟨⟨h1,rfl,rfl,h4⟩,hK⟩:=h
   rw[←hs.bx]at hb
   obtain⟨ad,bC,hv,eE⟩:=hr.rs hb (by simpa[bX.aQ]using h1)
   have kl:=hs.mem.blk k _ hb
   obtain⟨hw,iq,kl⟩:=kl
   unfold iT at eE
   have hlen:((l.drop off).take len).length=len:=by simp;omega
   cases hι:Γ.ι k with
   |
    none=>
    rw[hι]at eE kl
    obtain⟨rfl,rfl,_⟩:=eE
    exact⟨sz,_,[],ad,0,hK,by rw[hlen];exact hv,by simpa using aG.nil,by simp,by simp,by simp⟩
   |
    some b=>
    rw[hι]at eE kl
    obtain⟨c',e,cs,rest,h5,h6,h7,_⟩:=kl
    obtain⟨h8,h9,_⟩:=eE
    have AT:cs.length=l.length*sz:=by rw[h7.length,b8 hw]
    have Vv:aG Γ ((l.drop off).take len) ((cs.drop (off*sz)).take (len*sz)):=by
     have e1:l=l.take off++((l.drop off).take len++(l.drop off).drop len):=by rw[List.take_append_drop,List.take_append_drop]
     rw[e1]at h7
     obtain⟨c1,v1,rfl,r1,r2⟩:=h7.split
     obtain⟨c2,v2,rfl,r3,r4⟩:=r2.split
     have l1:c1.length=off*sz:=by rw[r1.length,b8 (λx hx=>hw x (List.mem_of_mem_take hx))];simp;rw[Nat.min_eq_left (by omega)]
     have l2:c2.length=len*sz:=by rw[r3.length,b8 (λx hx=>hw x (List.mem_of_mem_drop (List.mem_of_mem_take hx))),hlen]
     rw[←l1,←l2];simpa using r3
    refine⟨sz,_,_,ad,bC,hK,by rw[hlen];exact hv,Vv,λbS=> ?_,by rw[hlen];exact h8,λx hx=>hw x (List.mem_of_mem_drop (List.mem_of_mem_take hx))⟩
    have:0<len:=by
     rcases Nat.eq_zero_or_pos len with h|h
     ·subst h;simp at bS
     ·exact h
    rcases h9 with h9|rfl
    ·omega
    refine⟨b,_,rfl,?_⟩
    have:=lE (kO h5 cs rest h6) (off*sz) (len*sz)
    simpa[du]using this
  ·rename_i v' hb
   split at h
   ·rename_i dR n l FD
    obtain⟨⟨h1,rfl,h4⟩,hK⟩:=h
    rw[←hs.bx]at hb
    obtain⟨ad,bC,hv,eE⟩:=hr.rs hb (by simpa[bX.aQ]using h1)
    unfold iT at eE
    cases hι:Γ.ι k with
    |
     none=>
     have kl:=hs.mem.blk k _ hb
     obtain⟨b,_,_,h5,_⟩:=kl
     rw[hι]at h5;exact absurd h5 (by simp)
    |
     some b=>
     rw[hι]at eE
     obtain⟨h8,h9,_⟩:=eE
     obtain⟨cs,zO,yT⟩:=hs.mem.at hb hι (by simpa[jN]using FD)
     obtain⟨hl,hn,hw⟩:=zO.nv
     have hlen:((l.drop off).take len).length=len:=by simp;omega
     have Vv:aG Γ ((l.drop off).take len) ((cs.drop (off*sz)).take (len*sz)):=by
      have e1:l=l.take off++((l.drop off).take len++(l.drop off).drop len):=by rw[List.take_append_drop,List.take_append_drop]
      rw[e1]at hl
      obtain⟨c1,v1,rfl,r1,r2⟩:=hl.split
      obtain⟨c2,v2,rfl,r3,r4⟩:=r2.split
      have l1:c1.length=off*sz:=by rw[r1.length,b8 (λx hx=>hw x (List.mem_of_mem_take hx))];simp;rw[Nat.min_eq_left (by omega)]
      have l2:c2.length=len*sz:=by rw[r3.length,b8 (λx hx=>hw x (List.mem_of_mem_drop (List.mem_of_mem_take hx))),hlen]
      rw[←l1,←l2];simpa using r3
     refine⟨sz,_,_,ad,bC,hK,by rw[hlen];exact hv,Vv,λbS=> ?_,by rw[hlen];exact h8,λx hx=>hw x (List.mem_of_mem_drop (List.mem_of_mem_take hx))⟩
     have:0<len:=by
      rcases Nat.eq_zero_or_pos len with h|h
      ·subst h;simp at bS
      ·exact h
     rcases h9 with h9|rfl
     ·omega
     refine⟨b,_,rfl,?_⟩
     exact lE yT (off*sz) (len*sz)
   ·exact h.elim
  ·exact h.elim
 ·exact h.elim
theorem I7 {f:Value->ByteArray->Sem (ForInStep ByteArray)} (hf:∀n s,f (.int .u8 n) s=Pure.pure (ForInStep.yield (s.push (UInt8.ofNat n.toNat)))):∀(cs:List Value) (bs:List UInt8) (acc:ByteArray),cs.length=bs.length->(∀(i:Nat) c,cs[i]? =some c->∃n,c= .int .u8 n∧∃b,bs[i]? =some b∧b=UInt8.ofNat n.toNat)->
  ∃r:ByteArray,(forIn (m:=Sem) cs acc f).run P w= .ok r w∧r.data.toList=acc.data.toList++bs:=by
 intro cs
 induction cs with
 |
  nil=>
  intro bs acc hl _
  have:bs=[]:=by simpa using hl.symm
  subst this
  exact⟨acc,by simp,by simp⟩
 |
  cons c cs ih=>
  intro bs acc hl h
  obtain⟨n,rfl,b,hb,rfl⟩:=h 0 c rfl
  cases bs with
  |nil=>simp at hl
  |
   cons b bs=>
   simp at hb;subst hb
   obtain⟨r,rM,mQ⟩:=ih bs (acc.push (UInt8.ofNat n.toNat)) (by simpa using hl) (λi c hc=>by simpa using h (i+1) c (by simpa using hc))
   refine⟨r,?_,by rw[mQ];simp⟩
   simp only[List.forIn_cons,hf,bJ,Sem.run_pure,rJ]
   exact rM
theorem Hm {t d e:TypeId} {x:Operand} {y:AX} {G:Bool} {K:PV->Prop} (hx:iW x=some y) (hs:gK nt ds s Γ a) (hw:w.heap=Γ.heap) (hG:G=true)
  (ht:P.underlying t=some (.slice e)) (hd:P.underlying d=some .string) (hee:P.underlying e=some (.int .u8)) (he:ev G s (.convS y) K):ia P Γ w (convert t d (a.eval x)) K:=by
 simp only[ev]at he
 obtain⟨p,hp,hr⟩:=cW hx hs hG he
 obtain⟨sz,l,cs,ad,bC,⟨rfl,hK⟩,hv,hl,kF,hle,_⟩:=nV hs hp hr
 split at hK
 ·rename_i bs YB
  obtain⟨h1,h2⟩:=Ct hl YB
  have hlen:l.length=cs.length:=by rw[h1,qx YB]
  have key:∃r:ByteArray,(Conv.bytesToString (a.eval x)).run P w= .ok (.string r) w∧r.data.toList=bs:=by
   rw[hv]
   cases xg:l with
   |
    nil=>
    subst xg
    simp at hlen
    have ah8:bs=[]:=by
     simp[ij]at YB;exact YB
    subst ah8
    refine⟨.empty,?_,rfl⟩
    cases ad with
    |none=>rfl
    |
     some ad=>
     simp only[Conv.bytesToString,List.length_nil,loadCells,loadCellsFrom,bJ,Sem.run_pure,rJ]
     simp
   |
    cons z zs=>
    obtain⟨b,o,rfl,hc⟩:=kF (by simp[xg])
    rw[←xg,hlen]
    simp only[Conv.bytesToString,bJ]
    rw[run_loadCells_list w ⟨b,o,none⟩ cs (λj v hj=>by rw[iZ,cell?_eq,hw];exact hc j v hj)]
    simp only[rJ,←Array.forIn_toList]
    generalize hf:(λ(c:Value) (__s:ByteArray)=>(_:Sem (ForInStep ByteArray)))=f
    obtain⟨r,rM,mQ⟩:=I7 (P:=P) (w:=w) (f:=f) (by intro n s;rw[←hf]) cs bs .empty h1 h2
    exact⟨r,by rw[rM];rfl,by simpa using mQ⟩
  obtain⟨r,rM,mQ⟩:=key
  refine⟨_,_,hK,?_,oE mQ⟩
  rw[hv]at rM⊢
  simp[convert,run_underlying ht,run_underlying hd,run_underlying hee,rM]
 ·exact hK.elim
end Go.Ab
namespace Go.Ab
variable [eJ]
variable {P:Program} {nt:Nat} {ds:List Deferred} {s:St} {Γ:Cx} {a:Act} {w:World}
theorem kZ {x:Option Operand} {y:Option AX} (h:A1 x=some y):(x=none∧y=none)∨∃o z,x=some o∧y=some z∧iW o=some z:=by
 cases x with
 |none=>simp[A1]at h;exact .inl ⟨rfl,h.symm⟩
 |
  some o=>
  simp only[A1]at h
  split at h
  ·rename_i z hz;simp only[sJ]at h;exact .inr ⟨o,z,rfl,h.symm,hz⟩
  ·exact absurd h (by simp)
theorem qy {G b:Bool} {lo hi:Option Operand} {DO qo:Option AX} {len cap sU:Nat} {K:Nat->Nat->Prop} (hl:A1 lo=some DO) (hh:A1 hi=some qo) (hs:gK nt ds s Γ a) (hG:G=true)
  (Cc:cap≤sU) (hle:len≤cap) (h:jh G s DO qo len cap K):
  ∃l h,K l h∧l≤h∧h≤cap∧(Instr.sliceBounds b len sU (lo.map a.eval) (hi.map a.eval) none).run P w= .ok (l,h,sU) w:=by
 unfold jh at h
 rcases kZ hh with⟨rfl,rfl⟩|⟨ho,hz,rfl,rfl,hhx⟩<;>rcases kZ hl with⟨rfl,rfl⟩|⟨lo1,lz,rfl,rfl,R7⟩<;>simp only at h
 ·exact⟨0,len,h,Nat.zero_le _,hle,rfl⟩
 ·obtain⟨p,hp,hr⟩:=cW R7 hs hG h
  obtain⟨k,n,hv,⟨h0,h1⟩,hK⟩:=fX hp hr
  refine⟨n.toNat,len,hK,by omega,hle,?_⟩
  simp only[Instr.sliceBounds,Option.map_none,Option.map_some,hv,Instr.sliceBound,asIntOf,bJ,Sem.run_pure,rJ]
  rw[if_pos ⟨h0,h1⟩];rfl
 ·obtain⟨p,hp,hr⟩:=cW hhx hs hG h
  obtain⟨k,n,hv,⟨h0,h1⟩,hK⟩:=fX hp hr
  refine⟨0,n.toNat,hK,Nat.zero_le _,by omega,?_⟩
  simp only[Instr.sliceBounds,Option.map_none,Option.map_some,hv,Instr.sliceBound,asIntOf,bJ,Sem.run_pure,rJ]
  rw[if_pos ⟨h0,by omega⟩];rfl
 ·obtain⟨p,hp,hr⟩:=cW hhx hs hG h
  obtain⟨k,n,hv,⟨h0,h1⟩,hK⟩:=fX hp hr
  obtain⟨p2,Vw,mQ⟩:=cW R7 hs hG hK
  obtain⟨k2,n2,kq,⟨h2,h3⟩,lX⟩:=fX Vw mQ
  refine⟨n2.toNat,n.toNat,lX,by omega,by omega,?_⟩
  simp only[Instr.sliceBounds,Option.map_some,hv,kq,Instr.sliceBound,asIntOf,bJ,Sem.run_pure,rJ]
  rw[if_pos ⟨h0,by omega⟩]
  simp only[Sem.run_pure,rJ]
  rw[if_pos ⟨h2,by omega⟩];rfl
theorem tj {G:Bool} {lo hi:Option Operand} {DO qo:Option AX} {mo:Operand} {m:Int} {km:IntKind} {len sU:Nat} {K:Nat->Nat->Prop} (hl:A1 lo=some DO) (hh:A1 hi=some qo) (hhi:qo.isSome=true) (hs:gK nt ds s Γ a) (hG:G=true)
  (hm:a.eval mo= .int km m) (LZ:0≤m) (yU:m≤sU) (h:jh G s DO qo len m.toNat K):
  ∃l h,K l h∧l≤h∧h≤m.toNat∧(Instr.sliceBounds true len sU (lo.map a.eval) (hi.map a.eval) (some (a.eval mo))).run P w= .ok (l,h,m.toNat) w:=by
 unfold jh at h
 rcases kZ hh with⟨rfl,rfl⟩|⟨ho,hz,rfl,rfl,hhx⟩
 ·simp at hhi
 rcases kZ hl with⟨rfl,rfl⟩|⟨lo1,lz,rfl,rfl,R7⟩<;>simp only at h
 ·obtain⟨p,hp,hr⟩:=cW hhx hs hG h
  obtain⟨k,n,hv,⟨h0,h1⟩,hK⟩:=fX hp hr
  refine⟨0,n.toNat,hK,Nat.zero_le _,by omega,?_⟩
  simp only[Instr.sliceBounds,Option.map_none,Option.map_some,hv,hm,Instr.sliceBound,asIntOf,bJ,Sem.run_pure,rJ]
  rw[if_pos ⟨LZ,yU⟩]
  simp only[Sem.run_pure,rJ]
  rw[if_pos ⟨h0,by omega⟩];rfl
 ·obtain⟨p,hp,hr⟩:=cW hhx hs hG h
  obtain⟨k,n,hv,⟨h0,h1⟩,hK⟩:=fX hp hr
  obtain⟨p2,Vw,mQ⟩:=cW R7 hs hG hK
  obtain⟨k2,n2,kq,⟨h2,h3⟩,lX⟩:=fX Vw mQ
  refine⟨n2.toNat,n.toNat,lX,by omega,by omega,?_⟩
  simp only[Instr.sliceBounds,Option.map_some,hv,kq,hm,Instr.sliceBound,asIntOf,bJ,Sem.run_pure,rJ]
  rw[if_pos ⟨LZ,yU⟩]
  simp only[Sem.run_pure,rJ]
  rw[if_pos ⟨h0,by omega⟩]
  simp only[Sem.run_pure,rJ]
  rw[if_pos ⟨h2,by omega⟩];rfl
theorem zj {t:TypeId} {x:Operand} {lo hi mx:Option Operand} {x':AX} {DO qo IS:Option AX} {G:Bool} {K:PV->Prop} (hx:iW x=some x') (hl:A1 lo=some DO) (hh:A1 hi=some qo) (hm:A1 mx=some IS)
  (hs:gK nt ds s Γ a) (hG:G=true) (hu:P.underlying t=some .string) (he:ev G s (.slice .str x' DO qo IS) K):
  ia P Γ w (Instr.sliceAt t (a.eval x) (lo.map a.eval) (hi.map a.eval) (mx.map a.eval)) K:=by
 simp only[ev]at he
 obtain⟨p,hp,hr⟩:=cW hx hs hG he
 split at hp
 ·rename_i bs
  obtain⟨str,hv,hd⟩:=hr.str
  obtain⟨hmx,hp⟩:=hp
  rcases kZ hm with⟨rfl,rfl⟩|⟨o,z,rfl,rfl,_⟩
  rotate_left
  ·simp at hmx
  have iq:bs.length=str.size:=by rw[←hd];exact Array.length_toList
  obtain⟨l,h,hK,h1,h2,h3⟩:=qy (P:=P) (w:=w) (b:=false) hl hh hs hG (Nat.le_refl _) (Nat.le_refl _) hp
  refine⟨_,.string (str.extract l h),hK,?_,oE ?_⟩
  ·rw[hv]
   rw[iq]at h3
   simp only[Instr.sliceAt,Instr.slice,bJ,run_underlying hu,rJ,Option.map_none,Option.isSome_none,fJ,if_false,h3]
   rfl
  ·rw[←hd]
   simp[List.drop_take]
 ·exact hp.elim
theorem aG.sub {l:List PV} {sz:Nat} {cs:List Value} (h:aG Γ l cs) (hw:∀x∈l,x.width=sz) (lo hi:Nat) (L0:lo≤hi) (hhi:hi≤l.length):
  aG Γ ((l.take hi).drop lo) ((cs.drop (lo*sz)).take ((hi-lo)*sz)):=by
 have e0:(l.take hi).drop lo=(l.drop lo).take (hi-lo):=by rw[List.drop_take]
 rw[e0]
 have e1:l=l.take lo++((l.drop lo).take (hi-lo)++(l.drop lo).drop (hi-lo)):=by rw[List.take_append_drop,List.take_append_drop]
 rw[e1]at h
 obtain⟨c1,v1,rfl,r1,r2⟩:=h.split
 obtain⟨c2,v2,rfl,r3,r4⟩:=r2.split
 have l1:c1.length=lo*sz:=by rw[r1.length,b8 (λx hx=>hw x (List.mem_of_mem_take hx))];simp;rw[Nat.min_eq_left (by omega)]
 have l2:c2.length=(hi-lo)*sz:=by rw[r3.length,b8 (λx hx=>hw x (List.mem_of_mem_drop (List.mem_of_mem_take hx)))];simp;rw[Nat.min_eq_left (by omega)]
 rw[←l1,←l2];simpa using r3
theorem I8 {sz:Nat} {l:List PV} {cs:List Value} {ad:Option Addr} {yV:Nat} {clip:Bool} (hl:aG Γ l cs) (hw:∀x∈l,x.width=sz) (lo hi:Nat) (L0:lo≤hi) (hhi:hi≤l.length)
  (hb:l≠[]->∃b o,ad=some ⟨b,o,none⟩∧b<Γ.heap.size∧¬Γ.own b∧∀i c,cs[i]? =some c->cell Γ.heap b (o+i)=some c)
  (hc:hi-lo≤yV) (L1:clip=true->yV=hi-lo):
  aO Γ (.sl sz ((l.take hi).drop lo) clip) (.slice (if yV=0 then ad else ad.map (·.add (lo*sz))) (hi-lo) yV):=by
 have hlen:((l.take hi).drop lo).length=hi-lo:=by simp;omega
 have:=aG.sl (Γ:=Γ) sz ((l.take hi).drop lo) clip (if yV=0 then ad else ad.map (·.add (lo*sz))) yV (hl.sub hw lo hi L0 hhi) (λx hx=>hw x (List.mem_of_mem_take (List.mem_of_mem_drop hx)))
  (by rw[hlen];exact hc) (by rw[hlen];exact L1) (λbS=>by
   have gF:0<hi-lo:=by
    rcases Nat.eq_zero_or_pos (hi-lo)with h|h
    ·exact absurd (List.eq_nil_of_length_eq_zero (by omega)) bS
    ·exact h
   obtain⟨b,o,rfl,h1,h2,h3⟩:=hb (by intro h;subst h;simp at hhi;omega)
   rw[if_neg (by omega)]
   exact⟨b,o+lo*sz,by simp[iZ],h1,h2,lE h3 (lo*sz) ((hi-lo)*sz)⟩) .nil
 rw[hlen]at this
 simpa only[aO]using this
theorem A5 {t e:TypeId} {x:Operand} {lo hi mx:Option Operand} {x':AX} {DO qo IS:Option AX} {G:Bool} {K:PV->Prop} {n:Nat} (hx:iW x=some x') (hl:A1 lo=some DO) (hh:A1 hi=some qo) (hm:A1 mx=some IS)
  (hmh:IS.isSome=true->qo.isSome=true) (hs:gK nt ds s Γ a) (hG:G=true) (hu:P.underlying t=some (.slice e)) (hn:iL P e=some n) (he:ev G s (.slice (.sl n) x' DO qo IS) K):
  ia P Γ w (Instr.sliceAt t (a.eval x) (lo.map a.eval) (hi.map a.eval) (mx.map a.eval)) K:=by
 simp only[ev]at he
 obtain⟨p,hp,hr⟩:=cW hx hs hG he
 have key:∀(ad:Option Addr) (len cap l h m:Nat),(Instr.sliceBounds true len cap (lo.map a.eval) (hi.map a.eval) (mx.map a.eval)).run P w= .ok (l,h,m) w->
   (Instr.sliceAt t (.slice ad len cap) (lo.map a.eval) (hi.map a.eval) (mx.map a.eval)).run P w= .ok (.slice (if m=l then ad else ad.map (·.add (l*n))) (h-l) (m-l)) w:=by
  intro ad len cap l h m hb
  simp only[Instr.sliceAt,Instr.slice,bJ,run_underlying hu,rJ,hb,run_sizeOf hn]
  rfl
 have ifeq:∀(ad:Option Addr) (l m:Nat),l≤m->(if m=l then ad else ad.map (·.add (l*n)))=if m-l=0 then ad else ad.map (·.add (l*n)):=by
  intro ad l m h;by_cases h':m=l
  ·simp[h']
  ·rw[if_neg h',if_neg (by omega)]
 split at hp
 ·rename_i dR l clip
  obtain⟨ad,bC,cs,hv,hL,hw,hc,hk,hb⟩:=hr.sl
  rcases kZ hm with⟨rfl,rfl⟩|⟨mo,mz,rfl,rfl,R8⟩
  ·obtain⟨lo1,yW,⟨rfl,hK⟩,h1,h2,h3⟩:=qy (P:=P) (w:=w) (b:=true) (sU:=bC) hl hh hs hG hc (Nat.le_refl _) hp
   refine⟨_,_,hK,by rw[hv];exact key _ _ _ _ _ _ h3,?_⟩
   rw[ifeq _ _ _ (by omega)]
   exact I8 hL hw lo1 yW h1 h2 hb (by omega) (λrN=>by simp at rN;have:=hk rN.1;omega)
  ·simp only at hp
   obtain⟨q,hq,mQ⟩:=cW R8 hs hG hp
   obtain⟨km,m,hmv,⟨LZ,yU⟩,hK⟩:=fX hq mQ
   obtain⟨lo1,yW,⟨rfl,hK⟩,h1,h2,h3⟩:=tj (P:=P) (w:=w) (sU:=bC) hl hh (hmh rfl) hs hG hmv LZ (by omega) hK
   refine⟨_,_,hK,by rw[hv];exact key _ _ _ _ _ _ h3,?_⟩
   rw[ifeq _ _ _ (by omega)]
   exact I8 hL hw lo1 yW h1 (by omega) hb (by omega) (λrN=>by simp at rN;omega)
 ·rename_i k p off len aQ dR c
  split at hp
  ·rename_i blk hb
   obtain⟨⟨h1,rfl⟩,hp⟩:=hp
   rw[←hs.bx]at hb
   obtain⟨ad,bC,hv,eE⟩:=hr.rs hb h1
   have hlen:len≤bC:=by
    unfold iT at eE
    split at eE<;>omega
   have Ej:mI c len bC:=by
    unfold iT at eE
    split at eE
    ·exact eE.2.2
    ·exact eE.2.2.1
   have hcx:Cr c off len aQ≤bC:=by
    cases c<;>simp only[Cr]<;>try exact hlen
    simp only[mI]at Ej
    split<;>omega
   have rN:len≤Cr c off len aQ:=by
    cases c<;>simp only[Cr]<;>try exact Nat.le_refl _
    split<;>omega
   have mk:∀(lo1 yW m:Nat) (c':kY),lo1≤yW->yW≤m->m≤bC->mI c' (yW-lo1) (m-lo1)->(c'= .tip->c= .tip∧m=bC)->
     aO Γ (.rs k p (off+lo1) (yW-lo1) aQ dR c') (.slice (if m-lo1=0 then ad else ad.map (·.add (lo1*dR))) (yW-lo1) (m-lo1)):=by
    intro lo1 yW m c' g1 g3 g4 g5 g6
    simp only[aO]
    refine .rs k p _ _ aQ dR c' _ blk ⟨hb,by omega⟩ rfl (λ_=>⟨_,_,rfl,?_⟩) .nil
    unfold iT at eE⊢
    cases hι:Γ.ι k with
    |none=>rw[hι]at eE;exact⟨by omega,by omega,g5⟩
    |
     some b=>
     rw[hι]at eE
     obtain⟨o1,o2,o3,o4⟩:=eE
     refine⟨by omega,?_,g5,λhc=> ?_⟩
     ·by_cases hz:m-lo1=0
      ·exact .inl hz
      ·right
       rw[if_neg hz]
       rcases o2 with o2|rfl
       ·omega
       ·simp[iZ,Nat.add_mul];omega
     ·obtain⟨g7,g8⟩:=g6 hc
      obtain⟨q1,cs,e',q2,q3⟩:=o4 g7
      refine⟨q1,cs,e',q2,?_⟩
      rw[←q3,g8];congr 1;omega
   rcases kZ hm with⟨rfl,rfl⟩|⟨mo,mz,rfl,rfl,R8⟩
   ·obtain⟨lo1,yW,hK,g1,g2,g3⟩:=qy (P:=P) (w:=w) (b:=true) (sU:=bC) hl hh hs hG hcx rN hp
    refine⟨_,_,hK,by rw[hv];exact key _ _ _ _ _ _ g3,?_⟩
    rw[ifeq _ _ _ (by omega)]
    refine mk lo1 yW bC _ g1 (by omega) (Nat.le_refl _) ?_ (λhc=> ?_)
    ·cases c with
     |tip=>trivial
     |any=>trivial
     |full n=>simp only[Eh,mI]at Ej⊢;omega
     |
      clip=>
      simp only[Eh,mI,Cr]at Ej⊢g2
      by_cases e:yW=len
      ·simp[e];omega
      ·simp[e]
    ·cases c<;>simp only[Eh]at hc
     ·exact⟨rfl,rfl⟩
     ·split at hc<;>cases hc
     ·cases hc
     ·cases hc
   ·simp only at hp
    obtain⟨q,hq,mQ⟩:=cW R8 hs hG hp
    obtain⟨km,m,hmv,⟨LZ,yU⟩,hK⟩:=fX hq mQ
    obtain⟨lo1,yW,hK,g1,g2,g3⟩:=tj (P:=P) (w:=w) (sU:=bC) hl hh (hmh rfl) hs hG hmv LZ (by omega) hK
    refine⟨_,_,hK,by rw[hv];exact key _ _ _ _ _ _ g3,?_⟩
    rw[ifeq _ _ _ (by omega)]
    refine mk lo1 yW m.toNat _ g1 g2 (by omega) ?_ (λhc=> ?_)
    ·split
     ·simp only[mI];omega
     ·trivial
    ·split at hc<;>simp at hc
  ·exact hp.elim
 ·exact hp.elim
theorem A6 {t e:TypeId} {x:Operand} {lo hi mx:Option Operand} {x':AX} {DO qo IS:Option AX} {G:Bool} {K:PV->Prop} {len n:Nat} (hx:iW x=some x') (hl:A1 lo=some DO) (hh:A1 hi=some qo) (hm:A1 mx=some IS)
  (hs:gK nt ds s Γ a) (hG:G=true) (hu:P.underlying t=some (.array len e)) (hn:iL P e=some n) (he:ev G s (.slice (.ar len n) x' DO qo IS) K):
  ia P Γ w (Instr.sliceAt t (a.eval x) (lo.map a.eval) (hi.map a.eval) (mx.map a.eval)) K:=by
 simp only[ev]at he
 obtain⟨p,hp,hr⟩:=cW hx hs hG he
 split at hp
 ·rename_i k p aQ
  split at hp
  ·rename_i blk hb
   obtain⟨h1,hmx,hp⟩:=hp
   rw[←hs.bx]at hb
   obtain⟨b,hι,hv⟩:=hr.pt hb h1
   rcases kZ hm with⟨rfl,rfl⟩|⟨mo,mz,rfl,rfl,R8⟩
   rotate_left
   ·simp at hmx
   obtain⟨lo1,yW,hK,g1,g2,g3⟩:=qy (P:=P) (w:=w) (b:=false) (sU:=len) hl hh hs hG (Nat.le_refl _) (Nat.le_refl _) hp
   refine⟨_,.slice (some (if len=lo1 then⟨b,du p,none⟩else Addr.add ⟨b,du p,none⟩ (lo1*n))) (yW-lo1) (len-lo1),hK,?_,?_⟩
   ·rw[hv]
    simp only[Instr.sliceAt,bJ,run_underlying hu,rJ,Instr.sureAddr,Sem.run_pure,Option.map_none,g3,run_sizeOf hn]
   ·simp only[aO]
    refine .rs k p _ _ aQ n _ _ blk ⟨hb,by omega⟩ rfl (λ_=>⟨_,_,rfl,?_⟩) .nil
    unfold iT
    rw[hι]
    refine⟨by omega,?_,?_,λhc=> ?_⟩
    ·by_cases hz:len=lo1
     ·left;omega
     ·right;simp[hz,iZ]
    ·split
     ·simp only[mI];omega
     ·trivial
    ·split at hc<;>simp at hc
  ·exact hp.elim
 ·rename_i z l q
  split at hp
  ·rename_i z' n' l' hu'
   obtain⟨⟨rfl,rfl,hmx⟩,hp⟩:=hp
   obtain⟨b,o,cs,hv,hL,lx,PC,hc⟩:=hr.fp
   obtain⟨h4,h5⟩:=xp hL lx hu'
   obtain⟨h6,h7,h8⟩:=aG.nv h5
   rcases kZ hm with⟨rfl,rfl⟩|⟨mo,mz,rfl,rfl,R8⟩
   rotate_left
   ·simp at hmx
   obtain⟨lo1,yW,hK,g1,g2,g3⟩:=qy (P:=P) (w:=w) (b:=false) (sU:=n') hl hh hs hG (Nat.le_refl _) (Nat.le_refl _) hp
   refine⟨_,.slice (some (if n'=lo1 then⟨b,o+du q,none⟩else Addr.add ⟨b,o+du q,none⟩ (lo1*z'))) (yW-lo1) (n'-lo1),hK,?_,?_⟩
   ·rw[hv]
    simp only[Instr.sliceAt,bJ,run_underlying hu,rJ,Instr.sureAddr,Sem.run_pure,Option.map_none,g3,run_sizeOf hn]
   ·have hm:=I8 (ad:=some ⟨b,o+du q,none⟩) (yV:=n'-lo1) (clip:=decide (yW=n')) h6 h8 lo1 yW g1 (by omega) (λ_=>⟨b,o+du q,rfl,PC.1,PC.2,lE hc (du q) _⟩) (by omega) (λh=>by simp at h;omega)
    have e:(if n'-lo1=0 then some (⟨b,o+du q,none⟩:Addr)else((some (⟨b,o+du q,none⟩:Addr)).map (·.add (lo1*z'))))=some (if n'=lo1 then⟨b,o+du q,none⟩else Addr.add ⟨b,o+du q,none⟩ (lo1*z')):=by
     by_cases hz:n'=lo1
     ·simp[hz]
     ·rw[if_neg (by omega),if_neg hz];rfl
    rw[e]at hm
    exact hm
  ·exact hp.elim
 ·exact hp.elim
end Go.Ab
namespace Go.Ab
variable [eJ]
variable {P:Program} {nt:Nat} {ds:List Deferred} {s:St} {Γ:Cx} {a:Act} {w:World}
theorem ma {x:Sh} {p:PV} (h:fits x p=true):p.isAgg=x.agg:=by
 cases x<;>cases p<;>simp[fits]at h<;>rfl
theorem pv {x:Sh} {p:PV} (h:fits x p=true):p.width=rO x:=by
 cases x<;>cases p<;>simp only[fits,fJ,aJ,decide_eq_true_eq]at h<;>(try rfl)
 ·simp only[PV.width,rO];exact h.1
 ·simp only[PV.width,rO];rw[h.1.1,h.1.2.1]
theorem oF {t:TypeId} {p:PV} {cs c1 rest pre:List Value} {o:Nat} (hr:aG Γ [p] c1) (hc:cs=pre++(c1++rest)) (ho:pre.length=o) (hg:lZ P t=some p.isAgg) (hn:iL P t=some p.width):
  ∃v,(part t cs.toArray o).run P w= .ok v w∧aO Γ p v:=by
 have hl:=hr.hZ
 subst hc
 cases ha:p.isAgg with
 |
  true=>
  refine⟨.agg c1.toArray,?_,aO.qw hr ha⟩
  rw[ha]at hg
  simp only[part,bJ,qU hg,rJ,if_true,run_sizeOf hn,Sem.run_pure]
  congr 2
  apply Array.ext'
  simp[←hl,←ho]
 |
  false=>
  have h1:p.width=1:=by cases p<;>simp[PV.isAgg]at ha<;>rfl
  rw[h1]at hl
  obtain⟨v,rfl⟩:=List.length_eq_one_iff.1 hl
  refine⟨v,?_,aO.A4 hr ha⟩
  rw[ha]at hg
  simp only[part,bJ,qU hg,rJ,fJ,if_false]
  have:(pre++([v]++rest)).toArray[o]? =some v:=by
   simp[←ho]
  rw[this];rfl
def EqAt (P:Program) (Γ:Cx) (d:Nat) (t:TypeId) (x:Sh):Prop:=
 ∀(w:World) (p q:PV) (v u:Value),fits x p=true->fits x q=true->aO Γ p v->aO Γ q u->(Op.equalIn d t v u).run P w= .ok (PV.beq p q) w
theorem zV {d:Nat} {xs ys:List Value}:∀(fs:List Field) (l:List Sh) (ps qs:List PV) (pre1 pre2 c1 c2:List Value) (o:Nat) (w:World),
  xs=pre1++c1->ys=pre2++c2->pre1.length=o->pre2.length=o->aG Γ ps c1->aG Γ qs c2->j7 l ps=true->j7 l qs=true->
  fs.all (λf=>f.name != "_")=true->fs.map (·.offset)=A3 o l->fs.map (λf=>iL P f.type)=l.map (λx=>some (rO x))->
  fs.map (λf=>lZ P f.type)=l.map (λx=>some x.agg)->(∀(i:Nat) f x,fs[i]? =some f->l[i]? =some x->EqAt P Γ d f.type x)->
  (Op.eqFields d xs.toArray ys.toArray fs).run P w= .ok (PV.mF ps qs) w
 |
  [],l,ps,qs,pre1,pre2,c1,c2,o,w,hx,hy,YC,YD,h1,h2,f1,f2,hn,DP,iq,hag,dM=>by
  cases l with
  |nil=>cases ps<;>cases qs<;>simp[j7]at f1 f2;simp[Op.eqFields,PV.mF]
  |cons=>simp at iq
 |
  f::fs,l,ps,qs,pre1,pre2,c1,c2,o,w,hx,hy,YC,YD,h1,h2,f1,f2,hn,DP,iq,hag,dM=>by
  cases l with
  |nil=>simp at iq
  |
   cons x l=>
   cases ps with
   |nil=>simp[j7]at f1
   |
    cons p ps=>
    cases qs with
    |nil=>simp[j7]at f2
    |
     cons q qs=>
     simp only[j7,aJ]at f1 f2
     simp only[List.map_cons,List.cons.injEq,A3]at DP iq hag
     simp only[List.all_cons,aJ]at hn
     obtain⟨a1,b1,rfl,r1,r2⟩:=h1.om
     obtain⟨a2,b2,rfl,r3,r4⟩:=h2.om
     have wp:=pv f1.1
     have wq:=pv f2.1
     have ap:=ma f1.1
     have aq:=ma f2.1
     have acK:lZ P f.type=some x.agg:=hag.1
     obtain⟨v,hv,R9⟩:=oF (P:=P) (w:=w) (t:=f.type) r1 hx (YC.trans DP.1.symm) (by rw[ap];exact acK) (by rw[wp];exact iq.1)
     obtain⟨u,hu,hu'⟩:=oF (P:=P) (w:=w) (t:=f.type) r3 hy (YD.trans DP.1.symm) (by rw[aq];exact acK) (by rw[wq];exact iq.1)
     have he:=dM 0 f x rfl rfl w p q v u f1.1 f2.1 R9 hu'
     have ih:=zV (xs:=xs) (ys:=ys) fs l ps qs (pre1++a1) (pre2++a2) b1 b2 (o+rO x) w (by rw[hx];simp) (by rw[hy];simp) (by simp[YC,r1.hZ,wp]) (by simp[YD,r3.hZ,wq]) r2 r4 f1.2 f2.2 hn.2 DP.2 iq.2 hag.2
      (λi g y hg hy=>dM (i+1) g y (by simpa using hg) (by simpa using hy))
     have bS:f.name≠ "_" :=by simpa using hn.1
     simp only[Op.eqFields,bS,ne_eq,not_false_eq_true,if_true,bJ,hv,hu,he,rJ,PV.mF]
     by_cases hb:PV.beq p q=true
     ·simpa[hb]using ih
     ·simp[hb]
theorem I9 {d len n:Nat} {t:TypeId} {e:Sh} {xs ys:List Value} (hn:n=rO e) (hg:lZ P t=some e.agg) (hz:iL P t=some n) (heq:EqAt P Γ d t e):
  ∀
   (ps qs:List PV) (pre1 pre2 c1 c2:List Value) (i:Nat) (w:World),xs=pre1++c1->ys=pre2++c2->pre1.length=i*n->pre2.length=i*n->aG Γ ps c1->aG Γ qs c2->qv e ps=true->qv e qs=true->
   ps.length=len->qs.length=len->
   (forIn (m:=Sem) (List.range' i len 1) ((none,()):Option Bool×Unit) λi __s=>do
      let __do_lift←part t xs.toArray (i*n)
      let __do_lift_1←part t ys.toArray (i*n)
      let __do_lift←Op.equalIn d t __do_lift __do_lift_1
      if(!__do_lift)=true then pure (ForInStep.done (some false,()))else pure (ForInStep.yield (none,()))).run P w= .ok (if PV.mF ps qs then none else some false,()) w:=by
 induction len with
 |
  zero=>
  intro ps qs pre1 pre2 c1 c2 i w _ _ _ _ _ _ _ _ l1 l2
  have e1:=List.eq_nil_of_length_eq_zero l1
  have e2:=List.eq_nil_of_length_eq_zero l2
  subst e1 e2
  simp[PV.mF]
 |
  succ len ih=>
  intro ps qs pre1 pre2 c1 c2 i w hx hy YC YD h1 h2 f1 f2 l1 l2
  cases ps with
  |nil=>simp at l1
  |
   cons p ps=>
   cases qs with
   |nil=>simp at l2
   |
    cons q qs=>
    simp only[qv,aJ]at f1 f2
    obtain⟨a1,b1,rfl,r1,r2⟩:=h1.om
    obtain⟨a2,b2,rfl,r3,r4⟩:=h2.om
    have wp:=pv f1.1
    have wq:=pv f2.1
    have ap:=ma f1.1
    have aq:=ma f2.1
    obtain⟨v,hv,R9⟩:=oF (P:=P) (w:=w) (t:=t) r1 hx YC (by rw[ap];exact hg) (by rw[wp,←hn];exact hz)
    obtain⟨u,hu,hu'⟩:=oF (P:=P) (w:=w) (t:=t) r3 hy YD (by rw[aq];exact hg) (by rw[wq,←hn];exact hz)
    have he:=heq w p q v u f1.1 f2.1 R9 hu'
    have ih':=ih ps qs (pre1++a1) (pre2++a2) b1 b2 (i+1) w (by rw[hx];simp) (by rw[hy];simp) (by simp[YC,r1.hZ,wp,Nat.add_mul];omega) (by simp[YD,r3.hZ,wq,Nat.add_mul];omega) r2 r4 f1.2 f2.2 (by simpa using l1) (by simpa using l2)
    simp only[List.range'_succ,List.forIn_cons,bJ,hv,hu,he,rJ,PV.mF]
    by_cases hb:PV.beq p q=true
    ·simpa[hb]using ih'
    ·simp[hb]
theorem Ja:∀(n:Nat) {t:TypeId} {x:Sh} (d:Nat),n≤d->zg P n t=some x->EqAt P Γ d t x:=by
 intro n
 induction n with
 |zero=>intro t x d _ h;simp[zg]at h
 |
  succ n ih=>
  intro t x d hd h w p q v u fp fq hp hq
  obtain⟨d,rfl⟩:∃d',d=d'+1:=⟨d-1,by omega⟩
  simp only[zg]at h
  split at h<;>(try(simp only[sJ,reduceCtorEq]at h;try subst h))
  ·rename_i hu
   cases p<;>simp[fits]at fp
   cases q<;>simp[fits]at fq
   rw[hp.bl,hq.bl,run_equalIn_bool' w d t _ _ hu];rfl
  ·rename_i k hu
   cases p<;>simp[fits]at fp
   cases q<;>simp[fits]at fq
   subst fp fq
   rw[hp.int,hq.int,run_equalIn_int w d t _ _ _ _ hu];rfl
  ·rename_i hu
   cases p<;>simp[fits]at fp
   cases q<;>simp[fits]at fq
   obtain⟨s1,rfl,rfl⟩:=hp.str
   obtain⟨s2,rfl,rfl⟩:=hq.str
   rw[run_equalIn_string w d t _ _ hu,toList_data,toList_data];rfl
  ·rename_i fs hu
   split at h
   ·rename_i l hl
    split at h
    ·rename_i uk
     obtain⟨c1,c2,c3,c4,c5⟩:=uk
     simp only[sJ]at h
     subst h
     cases p<;>simp only[fits,fJ,aJ,decide_eq_true_eq]at fp
     cases q<;>simp only[fits,fJ,aJ,decide_eq_true_eq]at fq
     rename_i w1 m1 w2 m2
     obtain⟨cs,rfl,hc⟩:=hp.cells rfl
     obtain⟨ds,rfl,DQ⟩:=hq.cells rfl
     have hf:P.fieldsOf t=fs:=by simp[Program.fieldsOf,hu]
     rw[run_equalIn_struct w d t _ _ (by rw[hf];exact hu) c1,hf]
     rw[zV (xs:=cs) (ys:=ds) fs.toList l m1 m2 [] [] cs ds 0 w rfl rfl rfl rfl hc.sb.1 DQ.sb.1 fp.2 fq.2 c2 c3 c4 c5]
     ·rfl
     ·intro i f y sV hyi
      refine ih d (by omega) ?_
      have:=allM_get hl sV
      rw[hyi]at this
      exact this
    ·exact absurd h (by simp)
   ·exact absurd h (by simp)
  ·rename_i k e hu
   split at h
   ·rename_i x' hx'
    split at h
    ·rename_i uk
     simp only[sJ]at h
     subst h
     cases p<;>simp only[fits,fJ,aJ,decide_eq_true_eq]at fp
     cases q<;>simp only[fits,fJ,aJ,decide_eq_true_eq]at fq
     rename_i z1 n1 m1 z2 n2 m2
     obtain⟨cs,rfl,hc⟩:=hp.cells rfl
     obtain⟨ds,rfl,DQ⟩:=hq.cells rfl
     have hg:lZ P e=some x'.agg:=uk.2
     have:=I9 (P:=P) (Γ:=Γ) (d:=d) (len:=k) (n:=rO x') (t:=e) (e:=x') (xs:=cs) (ys:=ds) rfl hg uk.1 (ih d (by omega) hx') m1 m2 [] [] cs ds 0 w rfl rfl (by simp) (by simp) hc.nv.1 DQ.nv.1 fp.2 fq.2 fp.1.2.2 fq.1.2.2
     simp only[Op.equalIn,bJ,run_underlying hu,rJ,run_sizeOf uk.1]
     rw[Std.Legacy.Range.forIn_eq_forIn_range']
     simp only[Std.Legacy.Range.size,Nat.sub_zero,Nat.add_sub_cancel,Nat.div_one]
     rw[this]
     simp only[PV.beq]
     cases PV.mF m1 m2<;>rfl
    ·exact absurd h (by simp)
   ·exact absurd h (by simp)
where
 allM_get {α β:Type} {f:α->Option β}:∀ {l:List α} {m:List β},allM f l=some m->∀ {i:Nat} {x:α},l[i]? =some x->f x=m[i]?
  |[],m,h,i,x,hi=>by simp at hi
  |
   y::l,m,h,i,x,hi=>by
   simp only[allM]at h
   split at h
   ·rename_i z k hz hk
    simp only[sJ]at h
    subst h
    cases i with
    |zero=>simp at hi;subst hi;simpa using hz
    |succ i=>simp at hi;simpa using allM_get hk hi
   ·exact absurd h (by simp)
end Go.Ab
namespace Go.Ab
variable [eJ]
variable {P:Program} {nt:Nat} {ds:List Deferred} {s:St} {Γ:Cx} {a:Act} {w:World}
theorem zX:∀(vs:List Value) (k off:Nat) (cells:Array Value),off+k+vs.length≤cells.size->
  ((vs.zipIdx k).foldl (λ(cs:Array Value) (x:Value×Nat)=>cs.setIfInBounds (off+x.2) x.1) cells).toList=bU cells.toList (off+k) vs
 |[],k,off,cells,_=>by simp[bU]
 |
  v::vs,k,off,cells,h=>by
  simp only[List.zipIdx_cons,List.foldl_cons,List.length_cons]at h⊢
  rw[zX vs (k+1) off _ (by simp;omega)]
  rw[Array.toList_setIfInBounds]
  have dG:off+k<cells.toList.length:=by simp;omega
  obtain⟨A,c,B,hA,ly⟩:∃A c B,A.length=off+k∧cells.toList=A++c::B:=
   ⟨cells.toList.take (off+k),cells.toList[off+k],cells.toList.drop (off+k+1),by rw[lJ];omega,by rw[List.getElem_cons_drop,List.take_append_drop]⟩
  rw[ly,←hA,List.set_append_right (h:=Nat.le_refl _)]
  rw[show off+(k+1)=A.length+1 by omega]
  simp only[Nat.sub_self,List.set_cons_zero,bU,List.length_cons]
  have e1:(A++v::B).take (A.length+1)=A++[v]:=by rw[List.take_append,tJ (by omega)];simp
  have e2:(A++v::B).drop (A.length+1+vs.length)=B.drop vs.length:=by
   rw[List.drop_append,List.drop_eq_nil_of_le (by omega),show A.length+1+vs.length-A.length=vs.length+1 by omega];simp
  have e3:(A++c::B).drop (A.length+(vs.length+1))=B.drop vs.length:=by
   rw[←List.drop_drop];simp
  rw[e1,e2,e3]
  simp
theorem wx {l:List PV} {i j:Nat} {q p:PV} (hq:l[i]? =some q) (hw:p.width=q.width):av ((l.set i p).take j)=av (l.take j):=by
 by_cases D8:i<j
 ·have:(l.set i p).take j=(l.take j).set i p:=by rw[List.take_set]
  rw[this]
  exact xk (by rw[List.getElem?_take_of_lt D8];exact hq) hw
 ·rw[List.take_set_of_le (by omega)]
theorem tk:∀(ps:List (Nat×PV)) (vs:List (Nat×Value)) (place:Nat->Option (Nat×Nat)) (l l':List PV) (cells:Array Value),
  aG Γ l cells.toList->eh l ps=some l'->ps.length=vs.length->(∀(i:Nat) j p k v,ps[i]? =some (j,p)->vs[i]? =some (k,v)->j=k∧aO Γ p v)->
  (∀i q,l[i]? =some q->place i=some (av (l.take i),q.width))->∃L2,Instr.fill place cells vs=some L2∧aG Γ l' L2.toList
 |
  [],vs,place,l,l',cells,h,hs,hl,hv,hp=>by
  have:vs=[]:=by simpa using hl.symm
  subst this
  simp[eh]at hs;subst hs
  exact⟨cells,rfl,h⟩
 |
  (i,p)::ps,vs,place,l,l',cells,h,hs,hl,hv,hp=>by
  cases vs with
  |nil=>simp at hl
  |
   cons x vs=>
   obtain⟨k,v⟩:=x
   obtain⟨rfl,hr⟩:=hv 0 i p k v rfl rfl
   simp only[eh]at hs
   split at hs
   ·rename_i q hq
    split at hs
    ·rename_i hw
     have hc:=hr.xo hw.2
     have rN:=hc.hZ
     have iq:v.cells.size=q.width:=by rw[←hw.1,←rN];simp
     have L3:=uz hq
     have hle:=h.length
     have za:av (l.take i)+q.width≤cells.size:=by rw[←Array.length_toList,hle];exact L3
     have kE:=h.set hq hc hw.1
     have Cd:(v.cells.zipIdx.foldl (λcs (c,j)=>cs.setIfInBounds (av (l.take i)+j) c) cells).toList=bU cells.toList (av (l.take i)) v.cells.toList:=by
      have:=zX v.cells.toList 0 (av (l.take i)) cells (by simp;omega)
      rw[←Array.foldl_toList,Array.toList_zipIdx]
      simpa using this
     obtain⟨c',h1,h2⟩:=tk ps vs place (l.set i p) l' (v.cells.zipIdx.foldl (λcs (c,j)=>cs.setIfInBounds (av (l.take i)+j) c) cells) (by rw[Cd];exact kE) hs (by simpa using hl)
      (λj n p' k v' a b=>hv (j+1) n p' k v' (by simpa using a) (by simpa using b)) (λj q' Vx=>by
       rw[wx hq hw.1]
       rw[List.getElem?_set]at Vx
       split at Vx
       ·rename_i D8;subst D8
        split at Vx
        ·simp at Vx;subst Vx;rw[hw.1];exact hp i q hq
        ·simp at Vx
       ·exact hp j q' Vx)
     refine⟨c',?_,h2⟩
     simp only[Instr.fill,hp i q hq]
     rw[if_neg (by simp[iq];omega)]
     exact h1
    ·exact absurd hs (by simp)
   ·exact absurd hs (by simp)
theorem Cu:∀(l:List PV) (o:Nat) (fs:List (Nat×Nat)),fs=I3 o l->∀(i:Nat) q,l[i]? =some q->fs[i]? =some (o+av (l.take i),q.width)
 |[],o,fs,h,i,q,hq=>by simp at hq
 |
  p::l,o,fs,h,i,q,hq=>by
  subst h
  cases i with
  |zero=>simp at hq;subst hq;simp[I3,av]
  |
   succ i=>
   simp only[List.getElem?_cons_succ]at hq
   have:=Cu l (o+p.width) _ rfl i q hq
   simpa[I3,av,Nat.add_assoc]using this
mutual
theorem FT:∀(p:PV) (vs rest:List Value),wv p vs=some rest->∃cs,vs=cs++rest∧aG Γ [p] cs
 |
  .bl x,vs,rest,h=>by
  cases vs with
  |nil=>simp[wv]at h
  |
   cons v r=>
   cases v<;>simp only[wv,reduceCtorEq]at h
   split at h<;>simp at h
   subst_vars;exact⟨[_],rfl,.bl _ .nil⟩
 |
  .int k n,vs,rest,h=>by
  cases vs with
  |nil=>simp[wv]at h
  |
   cons v r=>
   cases v<;>simp only[wv,reduceCtorEq]at h
   split at h
   ·rename_i hc;obtain⟨rfl,rfl⟩:=hc;simp at h;subst h;exact⟨[_],rfl,.int _ _ .nil⟩
   ·simp at h
 |
  .str l,vs,rest,h=>by
  cases vs with
  |nil=>simp[wv]at h
  |
   cons v r=>
   cases v<;>simp only[wv,reduceCtorEq]at h
   split at h
   ·rename_i hc;simp at h;subst h;exact⟨[_],rfl,.str _ _ hc .nil⟩
   ·simp at h
 |
  .np,vs,rest,h=>by
  unfold wv at h
  split at h<;>simp_all
  subst_vars;exact⟨[_],rfl,.np .nil⟩
 |
  .sl sz l c,vs,rest,h=>by
  cases l with
  |cons=>simp[wv]at h
  |
   nil=>
   cases vs with
   |nil=>simp[wv]at h
   |
    cons v r=>
    unfold wv at h
    split at h
    case h_5=>
     simp only[sJ]at h
     subst h
     rename_i heq
     simp only[List.cons.injEq]at heq
     obtain⟨rfl,rfl⟩:=heq
     exact⟨[_],rfl,.sl sz [] c none 0 .nil (by simp) (Nat.le_refl _) (λ_=>rfl) (λh=>absurd rfl h) .nil⟩
    all_goals simp_all
 |
  .nf,vs,rest,h=>by
  unfold wv at h
  split at h<;>simp_all
  subst_vars;exact⟨[_],rfl,.nf .nil⟩
 |
  .ni,vs,rest,h=>by
  unfold wv at h
  split at h<;>simp_all
  subst_vars;exact⟨[_],rfl,.ni .nil⟩
 |
  .st w l,vs,rest,h=>by
  simp only[wv]at h
  split at h
  ·rename_i r hr
   split at h
   ·rename_i hw
    simp at h;subst h
    obtain⟨cs,rfl,hc⟩:=xq l vs r hr
    exact⟨cs,rfl,hc.st1 (by simp at hw;omega)⟩
   ·simp at h
  ·simp at h
 |
  .ar sz n l,vs,rest,h=>by
  simp only[wv]at h
  split at h
  ·rename_i r hr
   split at h
   ·rename_i hw
    simp at h;subst h
    obtain⟨cs,rfl,hc⟩:=xq l vs r hr
    exact⟨cs,rfl,hc.P9 hw.1 (by simpa using hw.2)⟩
   ·simp at h
  ·simp at h
 | .un,vs,rest,h=>by simp[wv]at h
 | .tup _,vs,rest,h=>by simp[wv]at h
 | .rs ..,vs,rest,h=>by simp[wv]at h
 | .pt ..,vs,rest,h=>by simp[wv]at h
 | .fp ..,vs,rest,h=>by simp[wv]at h
 | .fn ..,vs,rest,h=>by simp[wv]at h
 | .gd ..,vs,rest,h=>by simp[wv]at h
 | .ifc ..,vs,rest,h=>by simp[wv]at h
theorem xq:∀(l:List PV) (vs rest:List Value),Hj l vs=some rest->∃cs,vs=cs++rest∧aG Γ l cs
 |[],vs,rest,h=>by simp[Hj]at h;subst h;exact⟨[],rfl,.nil⟩
 |
  p::l,vs,rest,h=>by
  simp only[Hj]at h
  split at h
  ·rename_i ws hws
   obtain⟨c1,rfl,h1⟩:=FT p vs ws hws
   obtain⟨c2,rfl,h2⟩:=xq l ws rest h
   exact⟨c1++c2,by simp,h1.cons h2⟩
  ·simp at h
end
theorem kK {t:TypeId} {z:PV} (h:zeroOf P t=some z):∃v,(∀w,(zeroValue t).run P w= .ok v w)∧aG Γ [z] v.cells.toList∧iL P t=some z.width∧aO Γ z v∧v.cells.size=z.width:=by
 replace h:=Hk h
 unfold wQ at h
 split at h
 ·rename_i z' i hz hi
  split at h
  ·rename_i v hv
   split at h
   ·rename_i hc
    split at h
    ·rename_i hw
     obtain⟨cs,e,hr⟩:=FT (Γ:=Γ) z' _ _ hc
     rw[List.append_nil]at e
     rw[←e]at hr
     have hz':z'=z∧aO Γ z' v:=by
      cases ha:z'.isAgg<;>rw[ha]at h
      ·cases v<;>simp only[sJ,reduceCtorEq]at h<;>exact⟨h,aO.A4 (by simpa[Value.cells]using hr) ha⟩
      ·cases v<;>simp only[sJ,reduceCtorEq]at h
       exact⟨h,aO.qw (by simpa[Value.cells]using hr) ha⟩
     obtain⟨rfl,AU⟩:=hz'
     exact⟨v,λw=>by simp[zeroValue,typeInfo,hi,hv],hr,by simp[iL,hi,hw],AU,by rw[←hr.hZ];simp⟩
    ·simp at h
   ·simp at h
  ·simp at h
 ·simp at h
theorem uC {t:TypeId} {parts:Array (Nat×Operand)} {k:AK} {G:Bool} {K:PV->Prop} (hk:kc P false (.build t parts)=some k) (hs:gK nt ds s Γ a) (hG:G=true) (he:ev G s k K):
  ia P Γ w (Instr.build t (parts.map λp=>(p.1,a.eval p.2))) K:=by
 simp only[kc]at hk
 split at hk
 ·rename_i sw l ps fs hz Cb hu
  split at hk
  ·rename_i hc
   simp only[sJ]at hk;subst hk
   simp only[ev]at he
   obtain⟨qs,hq,hlen,dM⟩:=wR hs hG Cb he
   obtain⟨v,hv,hr,_,_,_⟩:=kK (Γ:=Γ) hz
   split at hq
   ·rename_i l' Ce
    have sZ:∀i q,l[i]? =some q->((fs.map λf=>(f.offset,P.cellsOf f.type))[i]? :Option (Nat×Nat))=some (av (l.take i),q.width):=by
     intro i q hi
     have:=Cu l 0 _ hc.1 i q hi
     rw[Nat.zero_add]at this
     rw[←Array.getElem?_toList,Array.toList_map]
     exact this
    obtain⟨cells,h1,h2⟩:=tk (Γ:=Γ) qs (parts.toList.map λp=>(p.1,a.eval p.2)) (λi=>(fs.map λf=>(f.offset,P.cellsOf f.type))[i]?) l l' v.cells hr.sb.1 Ce (by simp[hlen])
     (λi j p k u h3 h4=>by
      rw[List.getElem?_map,mJ]at h4
      obtain⟨⟨k',x⟩,h5,h6⟩:=h4
      simp only[Prod.mk.injEq]at h6
      obtain⟨rfl,rfl⟩:=h6
      exact dM i j p k' x h3 h5) sZ
    have Sa:cells.toList.length=sw:=by
     have e1:=h2.length
     have e2:=hr.sb
     rw[e1,setParts_widths Ce,←e2.1.length,e2.2]
    refine⟨_,.agg cells,hq,?_,⟨cells.toList,by simp,h2.st1 Sa⟩⟩
    have Cf:(fs.mapM λf=>do Pure.pure (f.offset,←sizeOf f.type):Sem (Array (Nat×Nat))).run P w= .ok (fs.map λf=>(f.offset,P.cellsOf f.type)) w:=run_mapM fs hc.2
    simp only[Instr.build,bJ,hv,rJ,run_underlying hu,Cf]
    rw[Array.toList_map,h1];rfl
   ·exact hq.elim
  ·simp at hk
 ·rename_i sz n l ps len e hz Cb hu
  split at hk
  ·rename_i hc
   simp only[sJ]at hk;subst hk
   simp only[ev]at he
   obtain⟨qs,hq,hlen,dM⟩:=wR hs hG Cb he
   obtain⟨v,hv,hr,_,_,_⟩:=kK (Γ:=Γ) hz
   split at hq
   ·rename_i l' Ce
    obtain⟨rM,mQ,hr3⟩:=hr.nv
    obtain⟨cells,h1,h2⟩:=tk (Γ:=Γ) qs (parts.toList.map λp=>(p.1,a.eval p.2)) (λi=>some (i*sz,sz)) l l' v.cells rM Ce (by simp[hlen])
     (λi j p k u h3 h4=>by
      rw[List.getElem?_map,mJ]at h4
      obtain⟨⟨k',x⟩,h5,h6⟩:=h4
      simp only[Prod.mk.injEq]at h6
      obtain⟨rfl,rfl⟩:=h6
      exact dM i j p k' x h3 h5)
     (λi q hi=>by
      have hil:=(List.getElem?_eq_some_iff.1 hi).1
      rw[gQ hr3 (by omega),hr3 q (List.mem_of_getElem? hi)])
    refine⟨_,.agg cells,hq,?_,⟨cells.toList,by simp,h2.P9 (by rw[setParts_length Ce,mQ]) (setParts_width Ce hr3)⟩⟩
    simp only[Instr.build,bJ,hv,rJ,run_underlying hu,run_sizeOf hc]
    rw[Array.toList_map,h1];rfl
   ·exact hq.elim
  ·simp at hk
 ·simp at hk
where
 setParts_length:∀ {ps:List (Nat×PV)} {l l':List PV},eh l ps=some l'->l'.length=l.length
  |[],l,l',h=>by simp[eh]at h;rw[h]
  |
   (i,p)::ps,l,l',h=>by
   simp only[eh]at h
   split at h
   ·split at h
    ·rw[setParts_length h];simp
    ·simp at h
   ·simp at h
 setParts_widths:∀ {ps:List (Nat×PV)} {l l':List PV},eh l ps=some l'->av l'=av l
  |[],l,l',h=>by simp[eh]at h;rw[h]
  |
   (i,p)::ps,l,l',h=>by
   simp only[eh]at h
   split at h
   ·rename_i q hq
    split at h
    ·rename_i hw
     rw[setParts_widths h,xk hq hw.1]
    ·simp at h
   ·simp at h
 setParts_width {sz:Nat}:∀ {ps:List (Nat×PV)} {l l':List PV},eh l ps=some l'->(∀x∈l,x.width=sz)->∀x∈l',x.width=sz
  |[],l,l',h,hw=>by simp[eh]at h;rw[←h];exact hw
  |
   (i,p)::ps,l,l',h,hw=>by
   simp only[eh]at h
   split at h
   ·rename_i q hq
    split at h
    ·rename_i L4
     exact setParts_width h (oq hw (by rw[L4.1];exact hw q (List.mem_of_getElem? hq)))
    ·simp at h
   ·simp at h
 run_mapM (fs:Array Field) (h:fs.toList.all (λf=>(P.info? f.type).isSome)=true):(fs.mapM λf=>do Pure.pure (f.offset,←sizeOf f.type):Sem (Array (Nat×Nat))).run P w= .ok (fs.map λf=>(f.offset,P.cellsOf f.type)) w:=by
  have key:∀(l:List Field),l.all (λf=>(P.info? f.type).isSome)=true->(l.mapM λf=>do Pure.pure (f.offset,←sizeOf f.type):Sem (List (Nat×Nat))).run P w= .ok (l.map λf=>(f.offset,P.cellsOf f.type)) w:=by
   intro l
   induction l with
   |nil=>intro _;rfl
   |
    cons f l ih=>
    intro hl
    simp only[List.all_cons,aJ]at hl
    obtain⟨i,hi⟩:=Option.isSome_iff_exists.1 hl.1
    have iq:iL P f.type=some i.size:=by simp[iL,hi]
    simp only[List.mapM_cons,bJ,run_sizeOf iq,rJ,Sem.run_pure,ih hl.2,List.map_cons]
    simp[Program.cellsOf,hi]
  rw[Array.mapM_eq_mapM_toList]
  simp only[Sem.run_map,key fs.toList h,rJ]
  congr 1
  apply Array.ext'
  simp
end Go.Ab
namespace Go.Ab
variable [eJ]
variable {P:Program} {nt:Nat} {ds:List Deferred} {s:St} {Γ:Cx} {a:Act} {w:World}
theorem M5 {args:List Operand} {tys:List TypeId} {k:AK} {ty:TypeId} {G:Bool} {K:PV->Prop} (hk:dP P .cap args tys=some k) (hs:gK nt ds s Γ a) (hG:G=true) (he:ev G s k K):
  ia P Γ w (Builtin.cap_ tys.toArray ty (args.map a.eval).toArray) K:=by
 unfold dP at hk
 split at hk<;>(try contradiction)
 rename_i x t _
 split at hk<;>simp only[sJ,reduceCtorEq]at hk
 rename_i e y hu hx
 subst hk
 simp only[ev]at he
 obtain⟨p,hp,hr⟩:=cW hx hs hG he
 split at hp
 ·rename_i k p off len aQ sz n
  split at hp
  ·rename_i blk hb
   rw[←hs.bx]at hb
   obtain⟨ad,bC,hv,eE⟩:=hr.rs hb hp.1
   have Ej:bC=n:=by
    unfold iT at eE
    split at eE
    ·exact eE.2.2
    ·exact eE.2.2.1
   subst Ej
   exact⟨_,goInt bC,hp.2,by simp[Builtin.cap_,run_underlying hu,hv],dS⟩
  ·exact hp.elim
 ·exact hp.elim
theorem M6 {args:List Operand} {tys:List TypeId} {k:AK} {ty:TypeId} {G:Bool} {K:PV->Prop} (hk:dP P .len args tys=some k) (hs:gK nt ds s Γ a) (hG:G=true) (he:ev G s k K):
  ia P Γ w (Builtin.len_ tys.toArray ty (args.map a.eval).toArray) K:=by
 unfold dP at hk
 split at hk<;>(try contradiction)
 ·rename_i x t _
  split at hk
  ·rename_i y hu hx
   simp only[sJ]at hk;subst hk
   simp only[ev]at he
   obtain⟨p,hp,hr⟩:=cW hx hs hG he
   split at hp
   ·rename_i bs
    obtain⟨str,hv,hd⟩:=hr.str
    refine⟨_,goInt bs.length,hp,?_,dS⟩
    have:bs.length=str.size:=by rw[←hd];exact Array.length_toList
    simp[Builtin.len_,run_underlying hu,hv,this]
   ·exact hp.elim
  ·rename_i e y hu hx
   simp only[sJ]at hk;subst hk
   simp only[ev]at he
   obtain⟨p,hp,hr⟩:=cW hx hs hG he
   split at hp
   ·rename_i sz l c
    obtain⟨ad,bC,cs,hv,_⟩:=hr.sl
    exact⟨_,goInt l.length,hp,by simp[Builtin.len_,run_underlying hu,hv],dS⟩
   ·rename_i k p off len aQ sz c
    split at hp
    ·rename_i blk hb
     rw[←hs.bx]at hb
     obtain⟨ad,bC,hv,_⟩:=hr.rs hb hp.1
     exact⟨_,goInt len,hp.2,by simp[Builtin.len_,run_underlying hu,hv],dS⟩
    ·exact hp.elim
   ·exact hp.elim
  ·rename_i n e y hu hx
   simp only[sJ]at hk;subst hk
   simp only[ev]at he
   exact⟨_,goInt n,he,by simp[Builtin.len_,run_underlying hu],dS⟩
  ·rename_i arr y hu hx
   split at hk
   ·rename_i n e FE
    simp only[sJ]at hk;subst hk
    simp only[ev]at he
    exact⟨_,goInt n,he,by simp[Builtin.len_,run_underlying hu,run_underlying FE],dS⟩
   ·simp at hk
  ·simp at hk
theorem Jb {mx:Bool} {args:List Operand} {tys:List TypeId} {l:List AX} {ty:TypeId} {G:Bool} {K:PV->Prop} (hx:tf args=some l) (hs:gK nt ds s Γ a) (hG:G=true) (he:ev G s (.mm mx l) K):
  ia P Γ w (if mx then Builtin.max_ tys.toArray ty (args.map a.eval).toArray else Builtin.min_ tys.toArray ty (args.map a.eval).toArray) K:=by
 simp only[ev]at he
 obtain⟨ps,hp,hlen,dM⟩:=tg hs hG hx he
 have key:∀(ps:List PV) (vs:List Value) (k:IntKind) (m:Int) (K:Int->Prop),lB mx m ps K->ps.length=vs.length->(∀(i:Nat) p v,ps[i]? =some p->vs[i]? =some v->aO Γ p v)->
   ∃n,K n∧(vs.foldlM (if mx then Builtin.max2 else Builtin.min2) (.int k m)).run P w= .ok (.int k n) w:=by
  intro ps
  induction ps with
  |
   nil=>
   intro vs k m K h hl _
   have:vs=[]:=by simpa using hl.symm
   subst this
   exact⟨m,h,rfl⟩
  |
   cons p ps ih=>
   intro vs k m K h hl hv
   cases vs with
   |nil=>simp at hl
   |
    cons v vs=>
    simp only[lB]at h
    obtain⟨k2,n,kq,h⟩:=fX h (hv 0 p v rfl rfl)
    obtain⟨r,h1,h2⟩:=ih vs k _ K h (by simpa using hl) (λi p v a b=>hv (i+1) p v (by simpa using a) (by simpa using b))
    refine⟨r,h1,?_⟩
    subst kq
    simp only[List.foldlM_cons,bJ]
    cases mx
    ·have:(Builtin.min2 (.int k m) (.int k2 n)).run P w= .ok (.int k (min m n)) w:=by
      simp only[Builtin.min2,Sem.run_pure]
      congr 2
      split<;>omega
     simp only[fJ,if_false]at h2⊢
     rw[this];exact h2
    ·have:(Builtin.max2 (.int k m) (.int k2 n)).run P w= .ok (.int k (max m n)) w:=by
      simp only[Builtin.max2,Sem.run_pure]
      congr 2
      split<;>omega
     simp only[if_true]at h2⊢
     rw[this];exact h2
 split at hp
 ·rename_i k m ps
  cases args with
  |nil=>simp at hlen
  |
   cons x args=>
   have IT:=(dM 0 _ x rfl rfl).int
   obtain⟨n,hn,iO⟩:=key ps (args.map a.eval) k m _ hp (by simpa using hlen) (λi p v h1 h2=>by
    rw[List.getElem?_map,mJ]at h2
    obtain⟨o,h2,rfl⟩:=h2
    exact dM (i+1) p o (by simpa using h1) (by simpa using h2))
   refine⟨_,_,hn,?_,dS⟩
   cases mx
   ·simpa[Builtin.min_,IT]using iO
   ·simpa[Builtin.max_,IT]using iO
 ·exact hp.elim
theorem Jc {p:PV} {v:Value} (h:aO Γ p v) (ha:p.isAgg=false) (hc:p.bG=true):aG Γ [p] [v]:=by
 cases p<;>simp[PV.isAgg,PV.bG]at ha hc<;>exact h
theorem Cv {ps:List PV} {vs:List Value} (hl:ps.length=vs.length) (h:∀(i:Nat) p v,ps[i]? =some p->vs[i]? =some v->aO Γ p v)
  (ha:ps.all (λp=> !p.isAgg&&p.bG)=true):aG Γ ps vs:=by
 induction ps generalizing vs with
 |nil=>
      have:vs=[]:=by simpa using hl.symm
      subst this;exact .nil
 |
  cons p ps ih=>
  cases vs with
  |nil=>simp at hl
  |
   cons v vs=>
   simp only[List.all_cons,aJ,Bool.not_eq_true']at ha
   exact(Jc (h 0 p v rfl rfl) ha.1.1 ha.1.2).cons (ih (by simpa using hl) (λi p v h1 h2=>h (i+1) p v (by simpa using h1) (by simpa using h2)) ha.2)
theorem tl {t:TypeId} {x y:Value} {b:Bool} (h:(Op.equalIn 10000 t x y).run P w= .ok b w)
  (h1:binOp .eql t x y=(do Pure.pure (.bool (←Op.equal t x y)))) (h2:binOp .neq t x y=(do Pure.pure (.bool (!(←Op.equal t x y))))):
  ∀o,(o= .eql∨o= .neq)->(binOp o t x y).run P w= .ok (.bool (if o= .eql then b else !b)) w:=by
 intro o ho
 have h':(Op.equal t x y).run P w= .ok b w:=h
 rcases ho with rfl|rfl
 ·rw[h1];simp only[bJ,h',rJ];rfl
 ·rw[h2];simp only[bJ,h',rJ];rfl
theorem Hn {t:TypeId} {x y:Bool} (h:P.underlying t=some .bool):(Op.equalIn 10000 t (.bool x) (.bool y)).run P w= .ok (x==y) w:=run_equalIn_bool' w 9999 t x y h
theorem A7 {d:Nat} {t e:TypeId} (h:P.underlying t=some (.pointer e)):(Op.equalIn (d+1) t (.pointer none) (.pointer none)).run P w= .ok true w:=by
 simp only[Op.equalIn,bJ,run_underlying h,rJ];rfl
theorem A8 {d:Nat} {t e:TypeId} {ad:Addr} (h:P.underlying t=some (.pointer e)):(Op.equalIn (d+1) t (.pointer (some ad)) (.pointer none)).run P w= .ok false w:=by
 simp only[Op.equalIn,bJ,run_underlying h,rJ];rfl
theorem Cw {t e:TypeId} (h:P.underlying t=some (.pointer e)):(Op.equalIn 10000 t (.pointer none) (.pointer none)).run P w= .ok true w:=A7 (d:=9999) h
theorem vG {t e:TypeId} {ad:Addr} (h:P.underlying t=some (.pointer e)):(Op.equalIn 10000 t (.pointer (some ad)) (.pointer none)).run P w= .ok false w:=A8 (d:=9999) h
theorem Cy {n:Nat} {t:TypeId} {sh:Sh} (h:zg P n t=some sh) (hu:(∃fs,P.underlying t=some (.struct fs))∨∃k e,P.underlying t=some (.array k e)):sh.agg=true:=by
 cases n with
 |zero=>simp[zg]at h
 |
  succ n=>
  rcases hu with⟨fs,hu⟩|⟨k,e,hu⟩
  ·simp only[zg,hu]at h
   split at h
   ·split at h
    ·simp only[sJ]at h;subst h;rfl
    ·simp at h
   ·simp at h
  ·simp only[zg,hu]at h
   split at h
   ·split at h
    ·simp only[sJ]at h;subst h;rfl
    ·simp at h
   ·simp at h
theorem Ho {op:BinOp} {t:TypeId} {x y:Operand} {yt:TypeId} {k:AK} {own:Bool} {G:Bool} {K:PV->Prop} (hk:kc P own (.binOp op t x y yt)=some k) (hs:gK nt ds s Γ a) (hG:G=true) (he:ev G s k K):
  ia P Γ w (do eqGuard op t x y (a.eval x) (a.eval y);binOp op t (a.eval x) (a.eval y)) K:=by
 simp only[kc]at hk
 split at hk
 ·rename_i p q hx hy
  have fin:∀ {et:ET} {K:PV->Prop},ev G s (.bin op et p q) K->∃u v,pq s op et u v K∧aO Γ u (a.eval x)∧aO Γ v (a.eval y):=by
   intro et K he
   simp only[ev]at he
   obtain⟨u,hu,zd⟩:=cW hx hs hG he
   obtain⟨v,hv,AU⟩:=cW hy hs hG hu
   exact⟨u,v,hv,zd,AU⟩
  have plain:∀ {K:PV->Prop},ev G s (.bin op .no p q) K->ia P Γ w (do eqGuard op t x y (a.eval x) (a.eval y);binOp op t (a.eval x) (a.eval y)) K:=by
   intro K he
   obtain⟨u,v,hb,zd,AU⟩:=fin he
   simp only[pq]at hb
   split at hb
   ·rw[zd.int,AU.int]
    rw[eqGuard_at_int]
    exact M0 hb.1 hb.2
   ·obtain⟨b1,yR,hd1⟩:=zd.str
    obtain⟨b2,kq,PD⟩:=AU.str
    rw[yR,kq,eqGuard_at_string]
    rw[←hd1,←PD]at hb
    exact M1 hb
   ·exact hb.elim
  have eqrun:∀ {b:Bool} {K:PV->Prop},(op= .eql∨op= .neq)->sc op b K->
    (∀o,(o= .eql∨o= .neq)->(binOp o t (a.eval x) (a.eval y)).run P w= .ok (.bool (if o= .eql then b else !b)) w)->(eqGuard op t x y (a.eval x) (a.eval y)).run P w= .ok () w->
    ia P Γ w (do eqGuard op t x y (a.eval x) (a.eval y);binOp op t (a.eval x) (a.eval y)) K:=by
   intro b K ho hb iO hg
   rcases ho with rfl|rfl
   ·exact⟨_,_,hb,by simp only[bJ,hg,rJ,iO .eql (.inl rfl)];rfl,jG⟩
   ·exact⟨_,_,hb,by simp only[bJ,hg,rJ,iO .neq (.inr rfl)];rfl,jG⟩
  split at hk
  ·rename_i ho
   split at hk
   ·simp only[sJ]at hk;subst hk;exact plain he
   ·simp only[sJ]at hk;subst hk;exact plain he
   ·rename_i hu
    simp only[sJ]at hk;subst hk
    obtain⟨u,v,hb,zd,AU⟩:=fin he
    simp only[pq]at hb
    split at hb
    ·rw[zd.bl,AU.bl]at eqrun⊢
     refine eqrun ho hb (tl (Hn hu) rfl rfl) (by rw[eqGuard_at_bool];rfl)
    ·exact hb.elim
   ·rename_i e hu
    simp only[sJ]at hk;subst hk
    obtain⟨u,v,hb,zd,AU⟩:=fin he
    simp only[pq]at hb
    split at hb
    ·rw[zd.np,AU.np]at eqrun⊢
     refine eqrun ho hb (tl (Cw hu) rfl rfl) (by rw[eqGuard_at_pointer];rfl)
    ·split at hb
     ·rename_i blk hg
      rw[←hs.bx]at hg
      obtain⟨b,hι,hv⟩:=zd.pt hg hb.1
      rw[hv,AU.np]at eqrun⊢
      refine eqrun ho hb.2 (tl (vG hu) rfl rfl) (by rw[eqGuard_at_pointer];rfl)
     ·exact hb.elim
    ·obtain⟨b,o,cs,hv,_⟩:=zd.fp
     rw[hv,AU.np]at eqrun⊢
     refine eqrun ho hb (tl (vG hu) rfl rfl) (by rw[eqGuard_at_pointer];rfl)
    ·exact hb.elim
   ·split at hk
    ·simp only[sJ]at hk;subst hk;simp[ev]at he
    ·simp at hk
   ·rename_i fs hu
    split at hk
    ·rename_i YE
     split at hk
     ·rename_i sh ze
      simp only[sJ]at hk;subst hk
      obtain⟨u,v,hb,zd,AU⟩:=fin he
      simp only[pq]at hb
      have L5:sh.agg=true:=Cy ze (.inl ⟨_,hu⟩)
      obtain⟨c1,yR,_⟩:=zd.cells (by rw[ma hb.1.1];exact L5)
      obtain⟨c2,kq,_⟩:=AU.cells (by rw[ma hb.1.2];exact L5)
      have PE:=Ja (P:=P) (Γ:=Γ) 20 10000 (by omega) ze w u v _ _ hb.1.1 hb.1.2 zd AU
      rw[yR,kq]at eqrun PE⊢
      refine eqrun ho hb.2 (λo ho=> ?_) (run_eqGuard_agg w op t x y _ _ YE)
      rcases ho with rfl|rfl
      ·rw[run_eql_struct,PE];rfl
      ·rw[run_neq_struct,PE];rfl
     ·simp at hk
    ·simp at hk
   ·rename_i n e hu
    split at hk
    ·rename_i YE
     split at hk
     ·rename_i sh ze
      simp only[sJ]at hk;subst hk
      obtain⟨u,v,hb,zd,AU⟩:=fin he
      simp only[pq]at hb
      have L5:sh.agg=true:=Cy ze (.inr ⟨_,_,hu⟩)
      obtain⟨c1,yR,_⟩:=zd.cells (by rw[ma hb.1.1];exact L5)
      obtain⟨c2,kq,_⟩:=AU.cells (by rw[ma hb.1.2];exact L5)
      have PE:=Ja (P:=P) (Γ:=Γ) 20 10000 (by omega) ze w u v _ _ hb.1.1 hb.1.2 zd AU
      rw[yR,kq]at eqrun PE⊢
      refine eqrun ho hb.2 (λo ho=> ?_) (run_eqGuard_agg w op t x y _ _ YE)
      rcases ho with rfl|rfl
      ·rw[run_eql_struct,PE];rfl
      ·rw[run_neq_struct,PE];rfl
     ·simp at hk
    ·simp at hk
   ·simp at hk
  ·simp only[sJ]at hk;subst hk;exact plain he
 ·simp at hk
end Go.Ab
namespace Go.Ab
variable [eJ]
variable {P:Program} {nt:Nat} {ds:List Deferred} {s:St} {Γ:Cx} {a:Act} {w:World}
theorem jF.rep {p:PV} {v:Value} (h:jF Γ p v):aO Γ p v:=by
 cases p<;>first|exact h|(simp only[jF]at h;cases h)
theorem j3.get:∀ {l:List PV} {vs:List Value},j3 Γ l vs->∀ {i:Nat} {p:PV},l[i]? =some p->∃v,vs[i]? =some v∧jF Γ p v
 |[],vs,h,i,p,hp=>by simp at hp
 |q::l,[],h,i,p,hp=>by simp[j3]at h
 |
  q::l,v::vs,h,i,p,hp=>by
  simp only[j3]at h
  cases i with
  |zero=>simp at hp;subst hp;exact⟨v,by simp,h.1⟩
  |succ i=>simp at hp;simpa using j3.get h.2 hp
theorem Hp {t e:TypeId} {x i:Operand} {y j:AX} {G g:Bool} {K:PV->Prop} {len n:Nat} (hx:iW x=some y) (hi:iW i=some j) (hs:gK nt ds s Γ a) (hG:G=true)
  (hu:P.underlying t=some (.array len e)) (hg:lZ P e=some g) (hn:iL P e=some n) (he:ev G s (.index g len n y j) K):ia P Γ w (Instr.index t (a.eval x) (a.eval i)) K:=by
 simp only[ev]at he
 obtain⟨p,hp,hr⟩:=cW hx hs hG he
 obtain⟨q,hq,mQ⟩:=cW hi hs hG hp
 obtain⟨k,m,hm,hK⟩:=fX hq mQ
 split at hK
 ·rename_i sz n' l
  split at hK
  ·rename_i c hc
   obtain⟨⟨h0,h1,rfl,rfl,h4⟩,hK⟩:=hK
   obtain⟨cs,hv,yT⟩:=hr.cells rfl
   obtain⟨hl,hlen,hw⟩:=yT.nv
   have rN:=hw c (List.mem_of_getElem? hc)
   have pe:=(List.getElem?_eq_some_iff.1 hc).1
   obtain⟨c1,v1,c2,rfl,l1,r3⟩:∃c1 v1 c2,cs=c1++(c2++v1)∧c1.length=m.toNat*sz∧aG Γ [c] c2:=by
    have e1:l=l.take m.toNat++l[m.toNat]::l.drop (m.toNat+1):=by rw[List.getElem_cons_drop,List.take_append_drop]
    rw[e1]at hl
    obtain⟨c1,u1,rfl,r1,r2⟩:=hl.split
    obtain⟨c2,v2,rfl,r3,r4⟩:=r2.om
    refine⟨c1,v2,c2,rfl,?_,?_⟩
    ·rw[r1.length,gQ hw (by omega)]
    ·rw[gJ pe]at hc;simp only[sJ]at hc;rw[hc]at r3;exact r3
   obtain⟨v,yR,kq⟩:=oF (P:=P) (w:=w) (t:=e) (o:=m.toNat*sz) r3 rfl l1 (by rw[h4];exact hg) (by rw[rN];exact hn)
   refine⟨c,v,hK,?_,kq⟩
   rw[hv,hm]
   simp only[Instr.index,asIntOf,bJ,Sem.run_pure,run_underlying hu,rJ]
   rw[if_pos ⟨h0,h1⟩]
   simp only[bJ,run_sizeOf hn,rJ]
   exact yR
  ·exact hK.elim
 ·exact hK.elim
theorem Ek {t:TypeId} {x i:Operand} {y j:AX} {G:Bool} {K:PV->Prop} (hx:iW x=some y) (hi:iW i=some j) (hs:gK nt ds s Γ a) (hG:G=true)
  (hu:P.underlying t=some .string) (he:ev G s (.indexS y j) K):ia P Γ w (Instr.index t (a.eval x) (a.eval i)) K:=by
 simp only[ev]at he
 obtain⟨p,hp,hr⟩:=cW hx hs hG he
 obtain⟨q,hq,mQ⟩:=cW hi hs hG hp
 obtain⟨k,m,hm,hK⟩:=fX hq mQ
 split at hK
 ·rename_i bs
  split at hK
  ·rename_i c hc
   obtain⟨str,hv,hd⟩:=hr.str
   refine⟨_,_,hK.2,?_,dS⟩
   rw[hv,hm]
   have:str[m.toNat]? =some c:=by
    rw[←hd]at hc
    rw[Array.getElem?_toList]at hc
    obtain⟨dG,he⟩:=Array.getElem?_eq_some_iff.1 hc
    rw[getElem?_pos str m.toNat dG]
    exact congrArg some he
   simp only[Instr.index,asIntOf,bJ,Sem.run_pure,run_underlying hu,rJ]
   rw[if_pos hK.1,this];rfl
  ·exact hK.elim
 ·exact hK.elim
theorem Hq {t:TypeId} {x:Operand} {y:AX} {G g:Bool} {K:PV->Prop} {i n:Nat} {fs:Array Field} {f:Field} (hx:iW x=some y) (hs:gK nt ds s Γ a) (hG:G=true)
  (hu:P.underlying t=some (.struct fs)) (hf:fs[i]? =some f) (hg:lZ P f.type=some g) (hn:iL P f.type=some n) (he:ev G s (.field i f.offset g n y) K):
  ia P Γ w (Instr.field t (a.eval x) i) K:=by
 simp only[ev]at he
 obtain⟨p,hp,hr⟩:=cW hx hs hG he
 split at hp
 ·rename_i sw l
  split at hp
  ·rename_i c hc
   obtain⟨⟨h1,h2,h3⟩,hK⟩:=hp
   obtain⟨cs,hv,yT⟩:=hr.cells rfl
   obtain⟨hl,hlen⟩:=yT.sb
   have pe:=(List.getElem?_eq_some_iff.1 hc).1
   obtain⟨c1,v1,c2,rfl,l1,r3⟩:∃c1 v1 c2,cs=c1++(c2++v1)∧c1.length=f.offset∧aG Γ [c] c2:=by
    have e1:l=l.take i++l[i]::l.drop (i+1):=by rw[List.getElem_cons_drop,List.take_append_drop]
    rw[e1]at hl
    obtain⟨c1,u1,rfl,r1,r2⟩:=hl.split
    obtain⟨c2,v2,rfl,r3,r4⟩:=r2.om
    refine⟨c1,v2,c2,rfl,?_,?_⟩
    ·rw[r1.length,h1]
    ·rw[gJ pe]at hc;simp only[sJ]at hc;rw[hc]at r3;exact r3
   obtain⟨v,yR,kq⟩:=oF (P:=P) (w:=w) (t:=f.type) (o:=f.offset) r3 rfl l1 (by rw[h3];exact hg) (by rw[h2];exact hn)
   refine⟨c,v,hK,?_,kq⟩
   rw[hv]
   simp only[Instr.field,bJ,run_underlying hu,rJ,hf,asAgg,Sem.run_pure]
   exact yR
  ·exact hp.elim
 ·exact hp.elim
theorem Cz {x:Operand} {y:AX} {G:Bool} {K:PV->Prop} {i:Nat} (hx:iW x=some y) (hs:gK nt ds s Γ a) (he:ev G s (.extract i y) K):
  ia P Γ w (Instr.extract (a.eval x) i) K:=by
 simp only[ev]at he
 have hr:=uB hx hs
 split at he
 ·rename_i l hl
  rw[hl]at hr
  simp only[aO]at hr
  obtain⟨vs,hv,dM⟩:=hr
  split at he
  ·rename_i p hp
   obtain⟨v,yR,kq⟩:=dM.get hp
   exact⟨p,v,he,by rw[hv];simp[Instr.extract,yR],kq.rep⟩
  ·exact he.elim
 ·exact he.elim
theorem El {f:Fn} {x z:Array Operand} {y u:List AX} {G:Bool} {K:PV->Prop} (hx:tf x.toList=some y) (hz:tf z.toList=some u) (hs:gK nt ds s Γ a) (hG:G=true) (he:ev G s (.mkFunc f y u) K):
  ia P Γ w (Instr.makeFunc f (x.map a.eval) (z.map a.eval)) K:=by
 simp only[ev]at he
 obtain⟨ps,hp,hlen,dM⟩:=tg hs hG hx he
 obtain⟨qs,hq,G9,L6⟩:=tg hs hG hz hp
 obtain⟨⟨h1,h2⟩,hK⟩:=hq
 have r1:aG Γ ps (x.toList.map a.eval):=Cv (by simpa using hlen) (λi p v h3 h4=>by
  rw[List.getElem?_map,mJ]at h4
  obtain⟨o,h4,rfl⟩:=h4
  exact dM i p o h3 h4) h1
 have r2:aG Γ qs (z.toList.map a.eval):=Cv (by simpa using G9) (λi p v h3 h4=>by
  rw[List.getElem?_map,mJ]at h4
  obtain⟨o,h4,rfl⟩:=h4
  exact L6 i p o h3 h4) h2
 refine⟨_,.func f (x.map a.eval) (z.map a.eval),hK,rfl,?_⟩
 simp only[aO]
 have:=aG.fn (Γ:=Γ) f ps qs r1 r2 (λp hp=>by have:=List.all_eq_true.1 h1 p hp;simp at this;exact this.1) (λp hp=>by have:=List.all_eq_true.1 h2 p hp;simp at this;exact this.1) .nil
 have e1:(x.toList.map a.eval).toArray=x.map a.eval:=by apply Array.ext';simp
 have e2:(z.toList.map a.eval).toArray=z.map a.eval:=by apply Array.ext';simp
 rw[e1,e2]at this
 exact this
theorem A9 {o:Oper} {x:Operand} {y:AX} {G:Bool} {K:PV->Prop} (ho:o.op= .nilCheck x) (hx:iW x=some y) (hs:gK nt ds s Γ a) (hG:G=true) (he:ev G s (.nilCheck y) K):
  ∃p v,K p∧(execOp a.eval o).run P w= .ok (.value v) w∧aO Γ p v:=by
 simp only[ev]at he
 obtain⟨p,hp,hr⟩:=cW hx hs hG he
 split at hp
 ·split at hp
  ·rename_i blk hb
   have hr':=hr
   rw[←hs.bx]at hb
   obtain⟨b,hι,hv⟩:=hr'.pt hb hp.1
   exact⟨_,_,hp.2,by simp only[execOp,ho];rw[hv];rfl,by rw[←hv];exact hr⟩
  ·exact hp.elim
 ·obtain⟨b,o',cs,hv,_⟩:=aO.fp hr
  exact⟨_,_,hp,by simp only[execOp,ho];rw[hv];rfl,by rw[←hv];exact hr⟩
 ·obtain⟨fs,cs,hv,_⟩:=aO.fn hr
  exact⟨_,_,hp,by simp only[execOp,ho];rw[hv];rfl,by rw[←hv];exact hr⟩
 ·exact hp.elim
theorem ia.exec {o:Oper} {x:Sem Value} {K:PV->Prop} (h:ia P Γ w x K) (he:execOp a.eval o=(do Pure.pure (.value (←x)))):
  ∃p v,K p∧(execOp a.eval o).run P w= .ok (.value v) w∧aO Γ p v:=by
 obtain⟨p,v,hK,hr,hv⟩:=h
 exact⟨p,v,hK,by rw[he];simp[hr],hv⟩
theorem uD {t:TypeId} {i:TypeInfo} (h:P.info? t=some i):iL P t=some i.size:=by simp[iL,h]
theorem Jd {G:Bool} {K:PV->Prop} {s:St} (h:ev G s (.len (.c (.bl true))) K):False:=by simp[ev,vg,vx]at h
theorem xr {o:Oper} {k:AK} {own G:Bool} {K:PV->Prop} (hk:kc P own o.op=some k) (hs:gK nt ds s Γ a) (hw:w.heap=Γ.heap) (hG:G=true) (he:ev G s k K):
  ∃p v,K p∧(execOp a.eval o).run P w= .ok (.value v) w∧aO Γ p v:=by
 obtain⟨dst,op,ty,pos,after,guard⟩:=o
 cases op with
 |
  move x=>
  simp only[kc]at hk
  split at hk<;>simp only[sJ,reduceCtorEq]at hk
  rename_i y hx;subst hk
  simp only[ev]at he
  obtain⟨p,hp,hr⟩:=cW hx hs hG he
  exact⟨p,_,hp,rfl,hr⟩
 |
  assign x=>
  simp only[kc]at hk
  split at hk<;>simp only[sJ,reduceCtorEq]at hk
  rename_i y hx;subst hk
  simp only[ev]at he
  obtain⟨p,hp,hr⟩:=cW hx hs hG he
  exact⟨p,_,hp,rfl,hr⟩
 |
  pick c x y=>
  simp only[kc]at hk
  split at hk<;>simp only[sJ,reduceCtorEq]at hk
  rename_i c' x' y' hc hx hy;subst hk
  obtain⟨p,v,h1,h2,h3⟩:=I6 (P:=P) (w:=w) hc hx hy hs hG he
  refine⟨p,v,h1,?_,h3⟩
  simp only[execOp]
  simp only[bJ]at h2⊢
  cases hb:(asBool (a.eval c)).run P w with
  |
   ok b w'=>
   rw[hb]at h2
   simp only[rJ,Sem.run_pure,Result.ok.injEq]at h2⊢
   exact⟨by rw[h2.1],h2.2⟩
  |halt h w'=>rw[hb]at h2;simp at h2
 |
  build t parts=>
  have PF:kc P false (.build t parts)=some k:=hk
  exact(uC (P:=P) (w:=w) PF hs hG he).exec rfl
 |
  load t x=>
  simp only[kc]at hk
  split at hk
  ·rename_i g n y hg hn hx
   split at hk<;>simp only[sJ,reduceCtorEq]at hk
   subst hk
   exact(Cs hx hs hw hG hg hn he).exec rfl
  ·simp at hk
 |
  nilCheck x=>
  simp only[kc]at hk
  split at hk<;>simp only[sJ,reduceCtorEq]at hk
  rename_i y hx;subst hk
  exact A9 rfl hx hs hG he
 |
  binOp op t x y yt=>
  exact(Ho (P:=P) (w:=w) hk hs hG he).exec rfl
 |
  unOp op t x=>
  simp only[kc]at hk
  split at hk<;>simp only[sJ,reduceCtorEq]at hk
  rename_i y hx;subst hk
  exact(Sz hx hs hG he).exec rfl
 |
  convert t d x=>
  simp only[kc]at hk
  split at hk
  ·rename_i k1 k2 y h1 h2 hx
   simp only[sJ]at hk;subst hk
   exact(Hl hx hs hG h1 h2 he).exec rfl
  ·rename_i e y h1 h2 hx
   split at hk<;>simp only[sJ,reduceCtorEq]at hk
   rename_i h3;subst hk
   exact(Hm hx hs hw hG h1 h2 h3 he).exec rfl
  ·split at hk<;>simp only[sJ,reduceCtorEq]at hk
   subst hk;simp[ev]at he
  ·split at hk
   ·split at hk<;>simp only[sJ,reduceCtorEq]at hk
    subst hk;simp[ev]at he
   ·simp at hk
  ·simp at hk
 |
  makeFunc f x z=>
  simp only[kc]at hk
  split at hk<;>simp only[sJ,reduceCtorEq]at hk
  rename_i p q hx hz;subst hk
  exact(El hx hz hs hG he).exec rfl
 |
  slice t x lo hi mx=>
  simp only[kc]at hk
  split at hk
  ·rename_i y DO qo IS hu hx hl hh hm
   simp only[sJ]at hk;subst hk
   exact(zj hx hl hh hm hs hG hu he).exec rfl
  ·rename_i e y DO qo IS hu hx hl hh hm
   split at hk
   ·rename_i n hn
    split at hk<;>simp only[sJ,reduceCtorEq]at hk
    rename_i hmh;subst hk
    exact(A5 hx hl hh hm hmh hs hG hu hn he).exec rfl
   ·simp at hk
  ·rename_i n e y DO qo IS hu hx hl hh hm
   split at hk<;>simp only[sJ,reduceCtorEq]at hk
   rename_i sz hn;subst hk
   exact(A6 hx hl hh hm hs hG hu hn he).exec rfl
  ·simp at hk
 |makeMap t r=>simp[kc]at hk
 |lookup t m x ok=>simp[kc]at hk
 |mapUpdate t m x y=>simp[kc]at hk
 |
  sliceToArrayPointer t x=>
  simp only[kc]at hk
  split at hk
  ·rename_i n e y hu hx
   split at hk<;>simp only[sJ,reduceCtorEq]at hk
   subst hk
   exact(M4 hx hs hG hu he).exec rfl
  ·simp at hk
 |
  fieldAddr t x i=>
  simp only[kc]at hk
  split at hk
  ·rename_i fs y hu hx
   split at hk
   ·rename_i f hf
    split at hk<;>simp only[sJ,reduceCtorEq]at hk
    rename_i m hn;subst hk
    exact(Ei hx hs hG hu hf hn he).exec rfl
   ·simp at hk
  ·simp at hk
 |
  field t x i=>
  simp only[kc]at hk
  split at hk
  ·rename_i fs y hu hx
   split at hk
   ·rename_i f hf
    split at hk
    ·rename_i g n hg hn
     split at hk<;>simp only[sJ,reduceCtorEq]at hk
     subst hk
     exact(Hq hx hs hG hu hf hg hn he).exec rfl
    ·simp at hk
   ·simp at hk
  ·simp at hk
 |
  indexAddr t x i=>
  simp only[kc]at hk
  split at hk
  ·rename_i e y j hu hx hi
   split at hk<;>simp only[sJ,reduceCtorEq]at hk
   rename_i n hn;subst hk
   exact(zh hx hi hs hG hu hn he).exec rfl
  ·rename_i len e y j hu hx hi
   split at hk<;>simp only[sJ,reduceCtorEq]at hk
   rename_i n hn;subst hk
   exact(zi hx hi hs hG hu hn he).exec rfl
  ·simp at hk
 |
  index t x i=>
  simp only[kc]at hk
  split at hk
  ·rename_i len e y j hu hx hi
   split at hk
   ·rename_i g n hg hn
    split at hk<;>simp only[sJ,reduceCtorEq]at hk
    subst hk
    exact(Hp hx hi hs hG hu hg hn he).exec rfl
   ·simp at hk
  ·rename_i y j hu hx hi
   simp only[sJ]at hk;subst hk
   exact(Ek hx hi hs hG hu he).exec rfl
  ·simp at hk
 |
  extract x i=>
  simp only[kc]at hk
  split at hk<;>simp only[sJ,reduceCtorEq]at hk
  rename_i y hx;subst hk
  exact(Cz hx hs he).exec rfl
 |
  call c=>
  obtain⟨callee,args,tys⟩:=c
  obtain⟨args⟩:=args
  obtain⟨tys⟩:=tys
  cases callee with
  |
   value f=>
   simp only[kc]at hk
   split at hk<;>simp only[sJ,reduceCtorEq]at hk
   subst hk
   simp[ev]at he
  |invoke r m=>simp[kc]at hk
  |
   builtin b=>
   simp only[kc]at hk
   have hex:∀(x:Sem Value) (c:Array Bool),builtin b tys.toArray ty c ((args.map a.eval).toArray)=(do Pure.pure (.value (←x)))->ia P Γ w x K->
     c=(args.toArray.map λ| .const _=>true|_=>false)->
     ∃p v,K p∧(execOp a.eval {dst:=dst,op:= .call {callee:= .builtin b,args:=args.toArray,argTypes:=tys.toArray},type:=ty,pos:=pos,after:=after,guard:=guard}).run P w= .ok (.value v) w∧aO Γ p v:=by
    intro x c hx hy hc
    refine hy.exec ?_
    have e:Array.map a.eval args.toArray=(args.map a.eval).toArray:=by simp
    simp only[execOp,resolve,e]
    rw[←hx,hc]
    rfl
   cases b with
   |len=>exact hex _ _ rfl (M6 (P:=P) (w:=w) (ty:=ty) hk hs hG he) rfl
   |cap=>exact hex _ _ rfl (M5 (P:=P) (w:=w) (ty:=ty) hk hs hG he) rfl
   |
    min=>
    unfold dP at hk
    simp only at hk
    split at hk<;>simp only[sJ,reduceCtorEq]at hk
    rename_i l hl;subst hk
    exact hex _ _ rfl (by simpa using Jb (P:=P) (w:=w) (ty:=ty) (tys:=tys) hl hs hG he) rfl
   |
    max=>
    unfold dP at hk
    simp only at hk
    split at hk<;>simp only[sJ,reduceCtorEq]at hk
    rename_i l hl;subst hk
    exact hex _ _ rfl (by simpa using Jb (P:=P) (w:=w) (ty:=ty) (tys:=tys) hl hs hG he) rfl
   |
    append=>
    unfold dP at hk
    split at hk<;>(try contradiction)
    repeat (split at hk<;>(try contradiction))
    all_goals first|(simp only[sJ]at hk;subst hk;simp[ev]at he;done)|(simp at hk;done)|(split at hk<;>first|(simp only[sJ]at hk;subst hk;simp[ev]at he;done)|(simp at hk;done))
   |
    copy=>
    unfold dP at hk
    split at hk<;>(try contradiction)
    repeat (split at hk<;>(try contradiction))
    all_goals (simp only[sJ]at hk;subst hk;simp[ev]at he)
   |
    clear=>
    unfold dP at hk
    split at hk<;>(try contradiction)
    repeat (split at hk<;>(try contradiction))
    all_goals (simp only[sJ]at hk;subst hk;simp[ev]at he)
   |_=>unfold dP at hk;split at hk<;>contradiction
 |
  alloc t=>
  simp only[kc]at hk
  split at hk<;>simp only[sJ,reduceCtorEq]at hk
  subst hk;simp[ev]at he
 |
  box t x=>
  simp only[kc]at hk
  split at hk<;>simp only[sJ,reduceCtorEq]at hk
  subst hk;simp[ev]at he
 |
  buildSlice t n parts=>
  simp only[kc]at hk
  repeat (split at hk<;>(try contradiction))
  all_goals (simp only[sJ]at hk;subst hk;simp[ev]at he)
 |
  makeSlice t l c=>
  simp only[kc]at hk
  repeat (split at hk<;>(try contradiction))
  all_goals (simp only[sJ]at hk;subst hk;simp[ev]at he)
 |
  store t x y=>
  simp only[kc]at hk
  split at hk<;>simp only[sJ,reduceCtorEq]at hk
  subst hk;simp[ev]at he
 |makeInterface=>simp only[kc,sJ]at hk;subst hk;exact(Jd he).elim
 |panic=>simp only[kc,sJ]at hk;subst hk;exact(Jd he).elim
 |_=>simp[kc]at hk
end Go.Ab
