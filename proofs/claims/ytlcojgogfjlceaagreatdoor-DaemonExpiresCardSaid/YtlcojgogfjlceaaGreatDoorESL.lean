/- The law DaemonExpires, by the words of the statement. No condition. -/
import Derived.Test.YtlcojgogfjlceaaGreatDoorEB13
import Derived.Test.YtlcojgogfjlceaaGreatDoorEA6
import Derived.Test.YtlcojgogfjlceaaGreatDoorTie
import Derived.Test.YtlcojgogfjlceaaGreatDoorCards
import Derived.ProofKit
import Derived.OpenShut
import Derived.LaidMore
import Derived.Lay
import Derived.SevenTiedAt
import Derived.Stop.Joined
import Derived.Deep.DeepHandedRow
import Derived.Lib.LaidTab
set_option maxRecDepth 100000
set_option maxHeartbeats 4000000
set_option linter.all false
namespace Go.Proofs.YtlcojgogfjlceaaGreatDoor
open Go.Ab
theorem own:ownKnob Tryz.prog.godebug=none:=by kernel_rfl
theorem adI (H:Type):CX (H:=H) Rows.uptoBulk Rows.uptoBulkAll where
 str l:=by simp[Rows.uptoBulk]
 lit l:=by cases l<;>simp[Rows.uptoBulk]
 nil:=by simp[Rows.uptoBulk]
 slice l s:=by simp[Rows.uptoBulk]
 agg l:=by simp[Rows.uptoBulk]
 ate:=by simp[Rows.uptoBulkAll]
 H2 d l:=by simp[Rows.uptoBulkAll]
theorem adJ {W:World} (h:laidMetH Tryz.prog Rows.daemonExpiresRow.laid W):∀b cs,cK.xA b=some cs->∃e x,W.heap[b]? =some (.cells cs e x):=by
 rw[MakeChecks.laidMetH_plain _ _ _ (by kernel_rfl)]at h;obtain⟨ps,⟨_,_,_,_,_,_,_,_,_,_,⟨g2,t2,vs2,fuel2,p2,q2,hg2,Hc,nJ,G7,⟨g,t,vs,fuel,p,q,hg,ht,hv,hd,_,_⟩,_⟩,_⟩,_,_⟩:=h;obtain rfl:=Option.some.inj ((show Tryz.prog.globalNamed "internal/strconv.uint64pow10" =some 1 by kernel_rfl).symm.trans hg);obtain rfl:=Option.some.inj ((show(Tryz.prog.globals[1]?).map (·.type)=some 464 by kernel_rfl).symm.trans ht);obtain rfl:=Option.some.inj ((show Tryz.prog.globalNamed "math/bits.deBruijn64tab" =some 3 by kernel_rfl).symm.trans hg2);obtain rfl:=Option.some.inj ((show(Tryz.prog.globals[3]?).map (·.type)=some 445 by kernel_rfl).symm.trans Hc);have k1:=Lib.cells_of_tab (zs:=Go.Lib.pow10Tab) (k:= .u64) (n:=20) (e:=24) (by kernel_rfl) Tryz.underlying24 (by kernel_rfl) (by kernel_rfl) hd;have k2:=Lib.cells_of_tab (zs:=RO) (k:= .u8) (n:=64) (e:=5) (by kernel_rfl) Tryz.underlying5 (by kernel_rfl) (by kernel_rfl) G7
 have h1:∃e x,W.heap[1]? =some (.cells vs e x):=by
  simp only[World.var?,hg,JlZ]at hv;split at hv
  ·rename_i e x hh;cases hv;exact⟨_,_,hh⟩
  ·cases hv
 have h3:∃e x,W.heap[3]? =some (.cells vs2 e x):=by
  simp only[World.var?,hg2,JlZ]at nJ;split at nJ
  ·rename_i e x hh;cases nJ;exact⟨_,_,hh⟩
  ·cases nJ
 have e1:vs=(Go.Lib.pow10Tab.map λz=>Value.int .u64 z).toArray:=by rw[←k1]
 have e3:vs2=(RO.map λz=>Value.int .u8 z).toArray:=by rw[←k2]
 intro b cs hb;simp only[cK.xA]at hb;split at hb
 ·rename_i hh;subst hh;rw[←Option.some.inj hb,←e1];exact h1
 ·split at hb
  ·rename_i hh;subst hh;rw[←Option.some.inj hb,←e3];exact h3
  ·cases hb
theorem yM {l:List PV} (h:Uk (Bc Pg 20) Tryz.f4.params.toList l):aL Pg 4 l (.bl true):=by
 rw[Tryz.params4]at h;obtain⟨p1,l,rfl,h1,h⟩:=PR h;obtain rfl:=Un h;obtain⟨b,rfl,_,c1⟩:=PU Tryz.underlying22 Tryz.underlying5 (by kernel_rfl) h1;exact Kf (by simpa[maxLen]using c1)
noncomputable def args0:Array Value:= #[.slice none 0 0]
theorem lifted (os:Os) (started:os.Started) (H:Type) (enc:TypeId×Value->H):
  ReturnsInHanded {} Tryz.checked os 4 .any (λw args=>(Rows.daemonExpiresSpec.pre enc Tryz.prog Tryz.f4 Rows.daemonExpiresRow.domain false w args∧laidMetH Tryz.prog Rows.daemonExpiresRow.laid w)∧sizedMet enc Tryz.prog Tryz.f4 (OpenSpec.ofChange Rows.daemonExpiresSpec) false w args)
   (Rows.daemonExpiresSpec.post enc Tryz.prog Tryz.f4 false true false false):=by
 refine returnsInHanded_of_change_and (C:=Tryz.checked) (X:=λw _=>laidMetH Tryz.prog Rows.daemonExpiresRow.laid w) (λ_ _ _ hh h=>h.of_heap hh) own started (by kernel_rfl) Tryz.func4
  (ChangeSpec.witness_shaped (enc:=enc) (C:=Tryz.checked) (os:=os) (X:=λw _=>laidMetH Tryz.prog Rows.daemonExpiresRow.laid w) false (World.laidAll Tryz.prog os Rows.daemonExpiresRow.laid) args0 1 (World.laidAll_os _ _ _)
   (World.shaped_of_ZipB (by kernel_rfl) (by kernel_rfl)) (by kernel_rfl) (by kernel_rfl) (by kernel_rfl)
   (by rw[MakeChecks.laidMetH_plain _ _ _ (by kernel_rfl)];exact laidMet_laidAll _ (by kernel_rfl) (by kernel_rfl))) ?_
 intro W base args ds gs before aec hW _ _ hL _
 exact F5 (P:=Tryz.prog) (f:=4) (n:=20) (tb:=4) (adI H) (by kernel_rfl) Tryz.underlying4 rfl
  (λds hd=>by rw[Tryz.params4]at hd;match ds,hd with|[_],_=>exact⟨rfl,rfl,rfl⟩) (by kernel_rfl) aec hW (λl hl _=>yM hl) (adJ hL) (enters_of Tryz.func4 (by kernel_rfl) rfl)
theorem closed:joinedFacts Tryz.prog 4 Tryz.f4 Rows.daemonExpiresSpec Rows.daemonExpiresRow=true:=by
 simp only[joinedFacts,aJ];repeat' apply And.intro
 all_goals (as_aux_lemma=>kernel_rfl)
theorem named:Tryz.prog.funcNamed "burrow/burrowlaw24.DaemonExpires" =some 4:=by kernel_rfl
theorem inst:Tryz.f4.isInstance Tryz.prog Rows.daemonExpiresRow.origin Rows.daemonExpiresRow.targs:=of_decide_eq_true (by kernel_rfl)
theorem wrapper:Tryz.f4.isWrapper Tryz.prog Rows.daemonExpiresRow.wrapper Rows.daemonExpiresRow.mainSum:=by
 unfold Func.isWrapper;first|(rw[if_pos (by decide+kernel)];kernel_rfl)|(rw[if_neg (by decide+kernel)];exact⟨rfl,rfl⟩)
theorem yN:Rows.DaemonExpiresSaid:=
 OpenClaim.holds_of_wide 4 Tryz.f4 rfl rfl rfl rfl rfl rfl rfl ⟨rfl,rfl,rfl,rfl,rfl⟩ rfl rfl rfl rfl rfl named Tryz.func4 closed
  inst wrapper
  (λos started H enc _=>lifted os started H enc)
theorem plain (f:FuncId) (fn:Func) (hf:Tryz.pinned.checked.prog.funcNamed "burrow/burrowlaw24.DaemonExpires" =some f) (hfn:Tryz.pinned.checked.prog.funcs[f]? =some fn):
  true=Tryz.pinned.checked.prog.looks []∧∀(j:Nat) t,fn.params[j]? =some t->Tryz.pinned.checked.prog.wantsStandIn t=false:=by
 obtain rfl:f=4:=Option.some.inj ((show Tryz.prog.funcNamed "burrow/burrowlaw24.DaemonExpires" =some 4 by kernel_rfl).symm.trans hf)|>.symm;obtain rfl:fn=Tryz.f4:=(Option.some.inj (Tryz.func4.symm.trans hfn)).symm;refine⟨by kernel_rfl,λj t ht=> ?_⟩;rw[Tryz.params4]at ht;have hm:t∈[22]:=by simpa using Array.mem_of_getElem? ht
 have cy:([22].all λu=> !Tryz.prog.wantsStandIn u)=true:=by kernel_rfl
 exact(show Tryz.prog.wantsStandIn t=false by simpa using JeX.1 cy t hm)
theorem anl {P:Program} (h0:P.funcs.any Func.goes=false) (f:FuncId):P.goes f=false:=by
 unfold Program.goes;rw[h0,Bool.and_false,Bool.or_false,List.any_eq_false];intro g _ h;cases hf:P.funcs[g]?with
 |none=>rw[hf]at h;simp at h
 |
  some fn=>
  rw[hf]at h
  have h:fn.goes=true:=h
  have:=Array.any_eq_false.1 h0 g (Array.getElem?_eq_some_iff.1 hf).1
  rw[(Array.getElem?_eq_some_iff.1 hf).2,h]at this
  exact this rfl
theorem WQ {P:Program} (h0:P.funcs.any Func.goes=false) {c:OpenClaim} (hs:c.start= .entering):false=c.goesBy P:=by
 unfold OpenClaim.goesBy Program.goesAt Program.goesFrom;rw[hs];cases P.funcNamed c.func with
 |none=>rfl
 |some f=>show false=(P.goes f||false);rw[anl h0];rfl
theorem auG:Tryz.pinned.checked.prog.funcs.any Func.goes=false:=by kernel_rfl
theorem daemonExpires_holds:Rows.DaemonExpiresCardSaid:=
 Claim7.holds_tied_plain_at .later [] _ _ _ _ yN (λ_ h=>by cases h) (by as_aux_lemma=>kernel_rfl) (λ_ h=>by cases h) daemonExpires_row_tie rfl ⟨rfl,rfl⟩ (by as_aux_lemma=>kernel_rfl) rfl plain (WQ auG rfl)
#print axioms daemonExpires_holds
end Go.Proofs.YtlcojgogfjlceaaGreatDoor
