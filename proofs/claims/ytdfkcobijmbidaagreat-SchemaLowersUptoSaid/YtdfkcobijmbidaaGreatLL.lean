/- The law SchemaLowers, by the words of the statement. No condition. -/
import Derived.Test.YtdfkcobijmbidaaGreatL1
import Derived.Test.YtdfkcobijmbidaaGreatTY
import Derived.JoinedCond
import Derived.Test.YtdfkcobijmbidaaGreatA6
import Derived.Shelf.Abstract
import Derived.Test.YtdfkcobijmbidaaGreatRows
import Derived.ProofKit
set_option maxRecDepth 100000
set_option maxHeartbeats 4000000
set_option linter.all false
namespace Go.Proofs.YtdfkcobijmbidaaGreat
open Go.Ab
theorem own:ownKnob Tryz.prog.godebug=none:=by kernel_rfl
theorem Zh (H:Type):A2 (H:=H) Rows.uptoBulk Rows.uptoBulkAll where
 str l:=by simp[Rows.uptoBulk]
 lit l:=by cases l<;>simp[Rows.uptoBulk]
 nil:=by simp[Rows.uptoBulk]
 slice l s:=by simp[Rows.uptoBulk]
 agg l:=by simp[Rows.uptoBulk]
 arF:=by simp[Rows.uptoBulkAll]
 FT d l:=by simp[Rows.uptoBulkAll]
theorem xM {l:List PV} (h:Ny (nB Pg 20) Tryz.f5.params.toList l) (hb:jH l≤1048576):bB Pg 5 l (.bl true):=by
 rw[Tryz.params5]at h
 obtain⟨p1,l,rfl,h1,h⟩:=aK h
 obtain⟨p2,l,rfl,h2,h⟩:=aK h
 obtain⟨p3,l,rfl,h3,h⟩:=aK h
 obtain⟨p4,l,rfl,h4,h⟩:=aK h
 obtain rfl:=jK h
 simp only[jH]at hb
 obtain⟨b,rfl,_,c1⟩:=A4 Tryz.underlying23 Tryz.underlying5 (by kernel_rfl) h1
 obtain⟨o,rfl,_,c2⟩:=A4 Tryz.underlying23 Tryz.underlying5 (by kernel_rfl) h2
 obtain⟨d,rfl,hs,hw⟩:=Zi (n:=8) h3 (by omega)
 obtain⟨m,rfl,m0,m1⟩:=fm Tryz.underlying3 h4
 exact Et (by simp[maxLen]at c1;omega) (by simp[maxLen]at c2;omega) hs hw ⟨m0,m1⟩
theorem lifted (os:Os) (started:os.Started) (H:Type) (enc:TypeId×Value->H) (F:Stop.Interp):
  ReturnsInHanded {} Tryz.checked os 5 .any ((Rows.OpenSpec.upto Rows.schemaLowersSpec).pre6 enc Tryz.prog Tryz.f5 Rows.schemaLowersUptoRow.domain false) (((Rows.OpenSpec.upto Rows.schemaLowersSpec).at F).post enc Tryz.prog Tryz.f5 false true false false):=by
 refine returnsInHanded_of_cond (C:=Tryz.checked) (s:=Rows.OpenSpec.upto Rows.schemaLowersSpec) (k:=Rows.uptoSmall) rfl own started (by kernel_rfl) Tryz.func5
  (OpenSpec.witness (enc:=enc) (C:=Tryz.checked) (s:=Rows.OpenSpec.upto Rows.schemaLowersSpec) (k:=Rows.uptoSmall) rfl false ⟨#[],#[.slice none 0 0,.slice none 0 0,((Tryz.prog.types[45]?).bind (·.zero)).getD (.bool false),.int .i64 0],[]⟩ 8 (by kernel_rfl) (by kernel_rfl) (by kernel_rfl)
   (x:=([.nil,.nil,.agg [.agg [.lit (.int .u64 0),.lit (.int .u64 0),.lit (.int .i64 0),.lit (.int .i64 0),.lit (.int .i64 0),.lit (.int .i64 0),.lit (.int .i64 0),.lit (.int .i64 0),.lit (.int .i64 0),.lit (.int .i64 0)],.agg (List.replicate 32 (.lit (.int .u8 0))),.agg (List.replicate 32 (.lit (.int .u8 0))),.lit (.int .i64 0),.agg (List.replicate 32 (.lit (.int .u8 0))),.lit (.int .i64 0),.nil,.nil,.nil,.nil,.agg (List.replicate 32 (.lit (.int .u8 0))),.lit (.int .i64 0),.nil,.nil,.lit (.int .i64 0)],.lit (.int .i64 0)],[],[])) (by kernel_rfl) rfl (by kernel_rfl)) ?_
 intro W base args ds gs before aaJ hW _ hk _
 obtain⟨_,_,_,hV,_,_,_⟩:=id hW
 obtain⟨rfl,_⟩:=ChangeShapes.trodVars_none hV
 have E1:Rows.uptoBulkAll ds≤1048576:=by
  have h:=of_decide_eq_true hk
  simpa using h
 exact D4 (P:=Tryz.prog) (f:=5) (n:=20) (tb:=4) (Zh H) (by kernel_rfl) Tryz.underlying4 rfl
  (λds hd=>by rw[Tryz.params5]at hd;match ds,hd with|[_,_,_,_],_=>exact⟨rfl,rfl,rfl⟩) (by kernel_rfl) aaJ hW (λl hl hb=>xM hl (by omega)) (λb cs h=>by cases h) (enters_of Tryz.func5 (by kernel_rfl) rfl)
theorem closed:joinedFacts Tryz.prog 5 Tryz.f5 (Rows.OpenSpec.upto Rows.schemaLowersSpec).bare Rows.schemaLowersUptoRow=true:=by
 simp only[joinedFacts,aJ]
 repeat' apply And.intro
 all_goals (as_aux_lemma=>kernel_rfl)
theorem named:Tryz.prog.funcNamed "burrow/burrowlaw26.SchemaLowers" =some 5:=by kernel_rfl
theorem inst:Tryz.f5.isInstance Tryz.prog Rows.schemaLowersUptoRow.origin Rows.schemaLowersUptoRow.targs:=of_decide_eq_true (by kernel_rfl)
theorem wrapper:Tryz.f5.isWrapper Tryz.prog Rows.schemaLowersUptoRow.wrapper Rows.schemaLowersUptoRow.mainSum:=by
 unfold Func.isWrapper;first|(rw[if_pos (by decide+kernel)];kernel_rfl)|(rw[if_neg (by decide+kernel)];exact⟨rfl,rfl⟩)
theorem schemaLowers_holds:Rows.SchemaLowersUptoSaid:=
 OpenClaim.holds_of_cond 5 Tryz.f5 rfl rfl rfl rfl rfl rfl rfl ⟨rfl,rfl,rfl,rfl,rfl⟩ rfl rfl rfl rfl rfl named Tryz.func5 closed
  inst wrapper
  (λos started H enc _ F=>lifted os started H enc F)
#print axioms schemaLowers_holds
end Go.Proofs.YtdfkcobijmbidaaGreat
