/- The law SaneRules, by the words of the statement. No condition. -/
import Derived.Test.YtjkfnhhekobfgaaGreatDoorW8
import Derived.Test.YtjkfnhhekobfgaaGreatDoorTY
import Derived.Test.YtjkfnhhekobfgaaGreatDoorTie
import Derived.Test.YtjkfnhhekobfgaaGreatDoorCards
import Derived.ProofKit
import Derived.OpenShut
import Derived.LaidMore
import Derived.Lay
import Derived.SevenTiedAt
import Derived.Stop.Joined
import Derived.Deep.DeepHandedRow
import Derived.Lib.LaidTab
set_option maxRecDepth 100000
set_option linter.all false
namespace Go.Proofs.YtjkfnhhekobfgaaGreatDoor
open Go.Ab
theorem own:ownKnob Tryz.prog.godebug=none:=by kernel_rfl
theorem Uz (H:Type):yl (H:=H) Rows.uptoBulk Rows.uptoBulkAll where
 str l:=by simp[Rows.uptoBulk]
 lit l:=by cases l<;>simp[Rows.uptoBulk]
 nil:=by simp[Rows.uptoBulk]
 slice l s:=by simp[Rows.uptoBulk]
 agg l:=by simp[Rows.uptoBulk]
 ahv:=by simp[Rows.uptoBulkAll]
 Dc d l:=by simp[Rows.uptoBulkAll]
theorem UA {W:World} (h:laidMetH Tryz.prog Rows.saneRulesUptoRow.laid W):∀b cs,eJ.te b=some cs->∃e x,W.heap[b]? =some (.cells cs e x):=by
 rw[MakeChecks.laidMetH_plain _ _ _ (by kernel_rfl)]at h
 obtain⟨ps,⟨_,_,_,_,_,_,_,_,_,_,⟨g2,t2,vs2,fuel2,p2,q2,hg2,ht2,kq,PD,⟨g,t,vs,fuel,p,q,hg,ht,hv,hd,_,_⟩,_⟩,_⟩,_,_⟩:=h
 obtain rfl:=Option.some.inj ((show Tryz.prog.globalNamed "internal/strconv.uint64pow10" =some 1 by kernel_rfl).symm.trans hg)
 obtain rfl:=Option.some.inj ((show(Tryz.prog.globals[1]?).map (·.type)=some 242 by kernel_rfl).symm.trans ht)
 obtain rfl:=Option.some.inj ((show Tryz.prog.globalNamed "math/bits.deBruijn64tab" =some 3 by kernel_rfl).symm.trans hg2)
 obtain rfl:=Option.some.inj ((show(Tryz.prog.globals[3]?).map (·.type)=some 249 by kernel_rfl).symm.trans ht2)
 have k1:=Lib.cells_of_tab (zs:=Go.Lib.pow10Tab) (k:= .u64) (n:=20) (e:=23) (by kernel_rfl) Tryz.underlying23 (by kernel_rfl) (by kernel_rfl) hd
 have k2:=Lib.cells_of_tab (zs:=yG) (k:= .u8) (n:=64) (e:=5) (by kernel_rfl) Tryz.underlying5 (by kernel_rfl) (by kernel_rfl) PD
 have h1:∃e x,W.heap[1]? =some (.cells vs e x):=by
  simp only[World.var?,hg,Option.bind_some]at hv
  split at hv
  ·rename_i e x hh;cases hv;exact⟨_,_,hh⟩
  ·cases hv
 have h3:∃e x,W.heap[3]? =some (.cells vs2 e x):=by
  simp only[World.var?,hg2,Option.bind_some]at kq
  split at kq
  ·rename_i e x hh;cases kq;exact⟨_,_,hh⟩
  ·cases kq
 have e1:vs=(Go.Lib.pow10Tab.map λz=>Value.int .u64 z).toArray:=by rw[←k1]
 have e3:vs2=(yG.map λz=>Value.int .u8 z).toArray:=by rw[←k2]
 intro b cs hb
 simp only[eJ.te]at hb
 split at hb
 ·rename_i hh
  subst hh
  rw[←Option.some.inj hb,←e1]
  exact h1
 ·split at hb
  ·rename_i hh
   subst hh
   rw[←Option.some.inj hb,←e3]
   exact h3
  ·cases hb
theorem zC {l:List PV} (h:Kd (mh Pg 20) Tryz.f3.params.toList l) (hb:iP l≤1048576):bg Pg 3 l (.bl true):=by
 rw[Tryz.params3]at h
 obtain⟨p1,l,rfl,h1,h⟩:=aI h
 obtain⟨p2,l,rfl,h2,h⟩:=aI h
 obtain⟨p3,l,rfl,h3,h⟩:=aI h
 obtain⟨p4,l,rfl,h4,h⟩:=aI h
 obtain⟨p5,l,rfl,h5,h⟩:=aI h
 obtain⟨p6,l,rfl,h6,h⟩:=aI h
 obtain rfl:=iY h
 simp only[iP]at hb
 obtain⟨b,rfl,_,c1⟩:=Dd Tryz.underlying22 Tryz.underlying5 (by kernel_rfl) h1
 obtain⟨w,rfl,w0,w1⟩:=eu Tryz.underlying5 h2
 obtain⟨t,rfl,t0,t1⟩:=eu Tryz.underlying5 h3
 obtain⟨n,rfl,n0,n1⟩:=eu Tryz.underlying2 h4
 obtain⟨e,rfl,he⟩:=UB (n:=8) h5 (by omega)
 obtain⟨m,rfl,m0,m1⟩:=eu Tryz.underlying3 h6
 exact Ik (by simpa[maxLen]using c1) ⟨w0,w1⟩ ⟨t0,t1⟩ he
noncomputable def tA:Array Value:= #[.slice none 0 0,.int .u8 0,.int .u8 0,.int .i64 0,((Tryz.prog.types[35]?).bind (·.zero)).getD (.bool false),.int .i64 0]
noncomputable def w0 (os:Os):World:=(World.laidAll Tryz.prog os Rows.saneRulesUptoRow.laid).forCall (λ_ _=>0) ⟨#[],tA,[]⟩
theorem reads (os:Os) {H:Type} (enc:TypeId×Value->H):∃places,DataW.whole enc Tryz.checked.prog (w0 os).memory Tryz.f3.params.toList (Rows.OpenSpec.upto Rows.saneRulesSpec).vars false tA.toList 8=some ([.nil,.lit (.int .u8 0),.lit (.int .u8 0),.lit (.int .i64 0),.agg [.agg [.lit (.int .u64 0),.lit (.int .u64 0),.lit (.int .i64 0),.lit (.int .i64 0),.lit (.int .i64 0),.lit (.int .i64 0),.lit (.int .i64 0),.lit (.int .i64 0),.lit (.int .i64 0),.lit (.int .i64 0)],.agg (List.replicate 32 (.lit (.int .u8 0))),.agg (List.replicate 32 (.lit (.int .u8 0))),.lit (.int .i64 0),.agg (List.replicate 32 (.lit (.int .u8 0))),.lit (.int .i64 0),.nil,.nil,.nil,.nil,.agg (List.replicate 32 (.lit (.int .u8 0))),.lit (.int .i64 0),.nil,.nil,.lit (.int .i64 0)],.lit (.int .i64 0)],[],places):=
 ⟨[],by kernel_rfl⟩
theorem lifted (os:Os) (started:os.Started) (H:Type) (enc:TypeId×Value->H) (F:Stop.Interp):
  ReturnsInHanded {} Tryz.checked os 3 .any ((Rows.OpenSpec.upto Rows.saneRulesSpec).preRow enc Tryz.prog Tryz.f3 Rows.saneRulesUptoRow.domain false Rows.saneRulesUptoRow.laid) (((Rows.OpenSpec.upto Rows.saneRulesSpec).at F).post enc Tryz.prog Tryz.f3 false true false false):=by
 obtain⟨places,hx⟩:=reads os enc
 refine returnsInHanded_of_row (C:=Tryz.checked) (s:=Rows.OpenSpec.upto Rows.saneRulesSpec) own started (by kernel_rfl) Tryz.func3
  (witness_row_at (enc:=enc) (C:=Tryz.checked) false (World.laidAll Tryz.prog os Rows.saneRulesUptoRow.laid) tA (World.laidAll_os _ _ _) (by kernel_rfl) (by kernel_rfl) (by kernel_rfl)
   (OpenSpec.preRow_of_cond 8 hx (by kernel_rfl) (λk hk=>by cases hk;kernel_rfl) (by kernel_rfl) (by rw[MakeChecks.laidMetH_plain _ _ _ (by kernel_rfl)];exact laidMet_laidAll _ (by kernel_rfl) (by kernel_rfl)))) ?_
 intro W base args ds gs before V6 hW _ uk _ hL _ _
 obtain⟨_,_,_,hV,_,_,_⟩:=id hW
 obtain⟨rfl,_⟩:=ChangeShapes.trodVars_none hV
 have PF:Rows.uptoBulkAll ds≤1048576:=by
  have h:=of_decide_eq_true (uk _ rfl)
  simpa using h
 exact Bw (P:=Tryz.prog) (f:=3) (n:=20) (tb:=4) (Uz H) (by kernel_rfl) Tryz.underlying4 rfl
  (λds hd=>by rw[Tryz.params3]at hd;match ds,hd with|[_,_,_,_,_,_],_=>exact⟨rfl,rfl,rfl⟩) (by kernel_rfl) V6 hW (λl hl hb=>zC hl (by omega)) (UA hL) (enters_of Tryz.func3 (by kernel_rfl) rfl)
theorem said:Rows.SaneRulesUptoSaid:=
 OpenClaim.holds_of_cond 3 Tryz.f3 rfl rfl rfl rfl rfl rfl rfl ⟨rfl,rfl,rfl,rfl,rfl⟩ rfl rfl rfl rfl rfl (by kernel_rfl) Tryz.func3 (by kernel_rfl)
  (of_decide_eq_true (by kernel_rfl)) (by unfold Func.isWrapper;first|(rw[if_pos (by decide+kernel)];kernel_rfl)|(rw[if_neg (by decide+kernel)];exact⟨rfl,rfl⟩))
  (λos started H enc _ F=>by rw[OpenClaim.pre_eq_preRow];exact lifted os started H enc F)
theorem plain (f:FuncId) (fn:Func) (hf:Tryz.pinned.checked.prog.funcNamed "burrow/burrowlaw28.SaneRules" =some f) (YQ:Tryz.pinned.checked.prog.funcs[f]? =some fn):
  false=Tryz.pinned.checked.prog.looks []∧∀(j:Nat) t,fn.params[j]? =some t->Tryz.pinned.checked.prog.wantsStandIn t=false:=by
 obtain rfl:f=3:=Option.some.inj ((show Tryz.prog.funcNamed "burrow/burrowlaw28.SaneRules" =some 3 by kernel_rfl).symm.trans hf)|>.symm
 obtain rfl:fn=Tryz.f3:=(Option.some.inj (Tryz.func3.symm.trans YQ)).symm
 refine⟨by kernel_rfl,λj t ht=> ?_⟩
 rw[Tryz.params3]at ht
 have hm:t∈[22,5,5,2,35,3]:=by simpa using Array.mem_of_getElem? ht
 have dM:([22,5,5,2,35,3].all λu=> !Tryz.prog.wantsStandIn u)=true:=by kernel_rfl
 exact(show Tryz.prog.wantsStandIn t=false by simpa using List.all_eq_true.1 dM t hm)
theorem saneRules_holds:Rows.SaneRulesUptoCardSaid:=
 Claim7.holds_tied_plain_at .later [] _ _ _ _ said (λ_ h=>by cases h) (by kernel_rfl) (λ_ h=>by cases h) saneRulesUpto_row_tie rfl ⟨rfl,rfl⟩ (by kernel_rfl) rfl plain (by kernel_rfl)
#print axioms saneRules_holds
end Go.Proofs.YtjkfnhhekobfgaaGreatDoor
