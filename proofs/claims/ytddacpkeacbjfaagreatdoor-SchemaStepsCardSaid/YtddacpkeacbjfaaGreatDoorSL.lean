/- The law SchemaSteps, by the words of the statement. No condition. -/
import Derived.Test.YtddacpkeacbjfaaGreatDoorB17
import Derived.Test.YtddacpkeacbjfaaGreatDoorA6
import Derived.Test.YtddacpkeacbjfaaGreatDoorTie
import Derived.Test.YtddacpkeacbjfaaGreatDoorCards
import Derived.ProofKit
import Derived.LaidMore
import Derived.Lay
import Derived.SevenTiedAt
import Derived.Stop.Joined
import Derived.Deep.DeepHandedRow
import Derived.Lib.LaidTab
set_option maxRecDepth 100000
set_option maxHeartbeats 4000000
set_option linter.all false
namespace Go.Proofs.YtddacpkeacbjfaaGreatDoor
open Go.Ab
theorem own:ownKnob Tryz.prog.godebug=none:=by kernel_rfl
theorem afz (H:Type):CL (H:=H) Rows.uptoBulk Rows.uptoBulkAll where
 str l:=by simp[Rows.uptoBulk]
 lit l:=by cases l<;>simp[Rows.uptoBulk]
 nil:=by simp[Rows.uptoBulk]
 slice l s:=by simp[Rows.uptoBulk]
 agg l:=by simp[Rows.uptoBulk]
 axg:=by simp[Rows.uptoBulkAll]
 HX d l:=by simp[Rows.uptoBulkAll]
theorem afA {W:World} (h:laidMetH Tryz.prog Rows.schemaStepsRow.laid W):∀b cs,cM.xj b=some cs->∃e x,W.heap[b]? =some (.cells cs e x):=by
 rw[MakeChecks.laidMetH_plain _ _ _ (by kernel_rfl)]at h;obtain⟨ps,⟨_,_,_,_,_,_,_,_,_,_,⟨g2,t2,vs2,fuel2,p2,q2,hg2,Eo,mQ,JA,⟨g,t,vs,fuel,p,q,hg,ht,hv,hd,_,_⟩,_⟩,_⟩,_,_⟩:=h;obtain rfl:=Option.some.inj ((show Tryz.prog.globalNamed "internal/strconv.uint64pow10" =some 1 by kernel_rfl).symm.trans hg);obtain rfl:=Option.some.inj ((show(Tryz.prog.globals[1]?).map (·.type)=some 390 by kernel_rfl).symm.trans ht);obtain rfl:=Option.some.inj ((show Tryz.prog.globalNamed "math/bits.deBruijn64tab" =some 3 by kernel_rfl).symm.trans hg2);obtain rfl:=Option.some.inj ((show(Tryz.prog.globals[3]?).map (·.type)=some 358 by kernel_rfl).symm.trans Eo);have k1:=Lib.cells_of_tab (zs:=Go.Lib.pow10Tab) (k:= .u64) (n:=20) (e:=23) (by kernel_rfl) Tryz.underlying23 (by kernel_rfl) (by kernel_rfl) hd;have k2:=Lib.cells_of_tab (zs:=Dl) (k:= .u8) (n:=64) (e:=5) (by kernel_rfl) Tryz.underlying5 (by kernel_rfl) (by kernel_rfl) JA
 have h1:∃e x,W.heap[1]? =some (.cells vs e x):=by
  simp only[World.var?,hg,JkJ]at hv;split at hv
  ·rename_i e x hh;cases hv;exact⟨_,_,hh⟩
  ·cases hv
 have h3:∃e x,W.heap[3]? =some (.cells vs2 e x):=by
  simp only[World.var?,hg2,JkJ]at mQ;split at mQ
  ·rename_i e x hh;cases mQ;exact⟨_,_,hh⟩
  ·cases mQ
 have e1:vs=(Go.Lib.pow10Tab.map λz=>Value.int .u64 z).toArray:=by rw[←k1]
 have e3:vs2=(Dl.map λz=>Value.int .u8 z).toArray:=by rw[←k2]
 intro b cs hb;simp only[cM.xj]at hb;split at hb
 ·rename_i hh;subst hh;rw[←Option.some.inj hb,←e1];exact h1
 ·split at hb
  ·rename_i hh;subst hh;rw[←Option.some.inj hb,←e3];exact h3
  ·cases hb
theorem A8 {l:List PV} (h:Wd (A1 Pg 20) Tryz.f3.params.toList l):aP Pg 3 l (.bl true):=by
 rw[Tryz.params3]at h;obtain⟨p1,l,rfl,h1,h⟩:=xH h;obtain⟨p2,l,rfl,h2,h⟩:=xH h;obtain⟨p3,l,rfl,h3,h⟩:=xH h;obtain⟨p4,l,rfl,h4,h⟩:=xH h;obtain rfl:=Wg h;obtain⟨b,rfl,_,c1⟩:=HY Tryz.underlying22 Tryz.underlying5 (by kernel_rfl) h1;obtain⟨o,rfl,_,c2⟩:=HY Tryz.underlying22 Tryz.underlying5 (by kernel_rfl) h2;obtain⟨n,rfl,n0,n1⟩:=Kl Tryz.underlying5 h3;obtain⟨m,rfl,m0,m1⟩:=Kl Tryz.underlying5 h4;exact IC (by simp[maxLen]at c1;omega) (by simp[maxLen]at c2;omega) ⟨n0,n1⟩ ⟨m0,m1⟩
noncomputable def vS:Array Value:= #[.slice none 0 0,.slice none 0 0,.int .u8 0,.int .u8 0]
theorem lifted (os:Os) (started:os.Started) (H:Type) (enc:TypeId×Value->H):
  ReturnsInHanded {} Tryz.checked os 3 .any (λw args=>(Rows.schemaStepsSpec.pre enc Tryz.prog Tryz.f3 Rows.schemaStepsRow.domain false w args∧laidMetH Tryz.prog Rows.schemaStepsRow.laid w)∧sizedMet enc Tryz.prog Tryz.f3 (OpenSpec.ofChange Rows.schemaStepsSpec) false w args)
   (Rows.schemaStepsSpec.post enc Tryz.prog Tryz.f3 false true false false):=by
 refine returnsInHanded_of_change_and (C:=Tryz.checked) (X:=λw _=>laidMetH Tryz.prog Rows.schemaStepsRow.laid w) (λ_ _ _ hh h=>h.of_heap hh) own started (by kernel_rfl) Tryz.func3
  (ChangeSpec.witness_shaped (enc:=enc) (C:=Tryz.checked) (os:=os) (X:=λw _=>laidMetH Tryz.prog Rows.schemaStepsRow.laid w) false (World.laidAll Tryz.prog os Rows.schemaStepsRow.laid) vS 4 (World.laidAll_os _ _ _)
   (World.shaped_of_ZipB (by kernel_rfl) (by kernel_rfl)) (by kernel_rfl) (by kernel_rfl) (by kernel_rfl)
   (by rw[MakeChecks.laidMetH_plain _ _ _ (by kernel_rfl)];exact laidMet_laidAll _ (by kernel_rfl) (by kernel_rfl))) ?_
 intro W base args ds gs before aga hW _ _ hL _
 exact F4 (P:=Tryz.prog) (f:=3) (n:=20) (tb:=4) (afz H) (by kernel_rfl) Tryz.underlying4 rfl
  (λds hd=>by rw[Tryz.params3]at hd;match ds,hd with|[_,_,_,_],_=>exact⟨rfl,rfl,rfl⟩) (by kernel_rfl) aga hW (λl hl _=>A8 hl) (afA hL) (enters_of Tryz.func3 (by kernel_rfl) rfl)
theorem closed:joinedFacts Tryz.prog 3 Tryz.f3 Rows.schemaStepsSpec Rows.schemaStepsRow=true:=by
 simp only[joinedFacts,aJ];repeat' apply And.intro
 all_goals (as_aux_lemma=>kernel_rfl)
theorem named:Tryz.prog.funcNamed "burrow/burrowlaw26.SchemaSteps" =some 3:=by kernel_rfl
theorem inst:Tryz.f3.isInstance Tryz.prog Rows.schemaStepsRow.origin Rows.schemaStepsRow.targs:=of_decide_eq_true (by kernel_rfl)
theorem wrapper:Tryz.f3.isWrapper Tryz.prog Rows.schemaStepsRow.wrapper Rows.schemaStepsRow.mainSum:=by
 unfold Func.isWrapper;first|(rw[if_pos (by decide+kernel)];kernel_rfl)|(rw[if_neg (by decide+kernel)];exact⟨rfl,rfl⟩)
theorem A9:Rows.SchemaStepsSaid:=
 OpenClaim.holds_of_wide 3 Tryz.f3 rfl rfl rfl rfl rfl rfl rfl ⟨rfl,rfl,rfl,rfl,rfl⟩ rfl rfl rfl rfl rfl named Tryz.func3 closed
  inst wrapper
  (λos started H enc _=>lifted os started H enc)
theorem plain (f:FuncId) (fn:Func) (hf:Tryz.pinned.checked.prog.funcNamed "burrow/burrowlaw26.SchemaSteps" =some f) (hfn:Tryz.pinned.checked.prog.funcs[f]? =some fn):
  false=Tryz.pinned.checked.prog.looks []∧∀(j:Nat) t,fn.params[j]? =some t->Tryz.pinned.checked.prog.wantsStandIn t=false:=by
 obtain rfl:f=3:=Option.some.inj ((show Tryz.prog.funcNamed "burrow/burrowlaw26.SchemaSteps" =some 3 by kernel_rfl).symm.trans hf)|>.symm;obtain rfl:fn=Tryz.f3:=(Option.some.inj (Tryz.func3.symm.trans hfn)).symm;refine⟨by kernel_rfl,λj t ht=> ?_⟩;rw[Tryz.params3]at ht;have hm:t∈[22,22,5,5]:=by simpa using Array.mem_of_getElem? ht
 have cU:([22,22,5,5].all λu=> !Tryz.prog.wantsStandIn u)=true:=by kernel_rfl
 exact(show Tryz.prog.wantsStandIn t=false by simpa using JbJ.1 cU t hm)
theorem arV {P:Program} (h0:P.funcs.any Func.goes=false) (f:FuncId):P.goes f=false:=by
 unfold Program.goes;rw[h0,Bool.and_false,Bool.or_false,List.any_eq_false];intro g _ h;cases hf:P.funcs[g]?with
 |none=>rw[hf]at h;simp at h
 |
  some fn=>
  rw[hf]at h
  have h:fn.goes=true:=h
  have:=Array.any_eq_false.1 h0 g (Array.getElem?_eq_some_iff.1 hf).1
  rw[(Array.getElem?_eq_some_iff.1 hf).2,h]at this
  exact this rfl
theorem YR {P:Program} (h0:P.funcs.any Func.goes=false) {c:OpenClaim} (hs:c.start= .entering):false=c.goesBy P:=by
 unfold OpenClaim.goesBy Program.goesAt Program.goesFrom;rw[hs];cases P.funcNamed c.func with
 |none=>rfl
 |some f=>show false=(P.goes f||false);rw[arV h0];rfl
theorem aBx:Tryz.pinned.checked.prog.funcs.any Func.goes=false:=by kernel_rfl
theorem schemaSteps_holds:Rows.SchemaStepsCardSaid:=
 Claim7.holds_tied_plain_at .later [] _ _ _ _ A9 (λ_ h=>by cases h) (by as_aux_lemma=>kernel_rfl) (λ_ h=>by cases h) schemaSteps_row_tie rfl ⟨rfl,rfl⟩ (by as_aux_lemma=>kernel_rfl) rfl plain (YR aBx rfl)
#print axioms schemaSteps_holds
end Go.Proofs.YtddacpkeacbjfaaGreatDoor
