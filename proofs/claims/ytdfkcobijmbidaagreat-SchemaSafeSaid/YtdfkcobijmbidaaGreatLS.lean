/- The law SchemaSafe, by the words of the statement. No condition. -/
import Derived.Test.YtdfkcobijmbidaaGreatL1
import Derived.Test.YtdfkcobijmbidaaGreatA6
import Derived.Shelf.Abstract
import Derived.Test.YtdfkcobijmbidaaGreatRows
import Derived.ProofKit
set_option maxRecDepth 100000
set_option maxHeartbeats 4000000
set_option linter.all false
namespace Go.Proofs.YtdfkcobijmbidaaGreat
open Go.Ab
theorem own:ownKnob Tryz.prog.godebug=none:=by kernel_rfl
theorem Yf (H:Type):z7 (H:=H) Rows.uptoBulk Rows.uptoBulkAll where
 str l:=by simp[Rows.uptoBulk]
 lit l:=by cases l<;>simp[Rows.uptoBulk]
 nil:=by simp[Rows.uptoBulk]
 slice l s:=by simp[Rows.uptoBulk]
 agg l:=by simp[Rows.uptoBulk]
 ap3:=by simp[Rows.uptoBulkAll]
 E1 d l:=by simp[Rows.uptoBulkAll]
theorem AA {l:List PV} (h:QJ (xK Pg 20) Tryz.f4.params.toList l):bI Pg 4 l (.bl true):=by
 rw[Tryz.params4]at h
 obtain⟨p1,l,rfl,h1,h⟩:=uG h
 obtain⟨p2,l,rfl,h2,h⟩:=uG h
 obtain⟨p3,l,rfl,h3,h⟩:=uG h
 obtain⟨p4,l,rfl,h4,h⟩:=uG h
 obtain rfl:=QN h
 obtain⟨b,rfl,_,c1⟩:=E2 Tryz.underlying23 Tryz.underlying5 (by kernel_rfl) h1
 obtain⟨o,rfl,_,c2⟩:=E2 Tryz.underlying23 Tryz.underlying5 (by kernel_rfl) h2
 obtain⟨n,rfl,n0,n1⟩:=G2 Tryz.underlying5 h3
 obtain⟨m,rfl,m0,m1⟩:=G2 Tryz.underlying66 h4
 exact Hv (by simp[maxLen]at c1;omega) (by simp[maxLen]at c2;omega) ⟨n0,n1⟩ ⟨m0,m1⟩
theorem lifted (os:Os) (started:os.Started) (H:Type) (enc:TypeId×Value->H):
  ReturnsInHanded {} Tryz.checked os 4 .any (Rows.schemaSafeSpec.pre6 enc Tryz.prog Tryz.f4 Rows.schemaSafeRow.domain false) (Rows.schemaSafeSpec.post enc Tryz.prog Tryz.f4 false true false false):=by
 refine returnsInHanded_of_change (C:=Tryz.checked) own started (by kernel_rfl) Tryz.func4
  (ChangeSpec.witness6 (enc:=enc) (C:=Tryz.checked) false ⟨#[],#[.slice none 0 0,.slice none 0 0,.int .u8 0,.int .u16 0],[]⟩ 8 (by kernel_rfl) (by kernel_rfl) (by kernel_rfl) (by kernel_rfl)) ?_
 intro W base args ds gs before Zl hW _ _
 exact De (P:=Tryz.prog) (f:=4) (n:=20) (tb:=4) (Yf H) (by kernel_rfl) Tryz.underlying4 rfl
  (λds hd=>by rw[Tryz.params4]at hd;match ds,hd with|[_,_,_,_],_=>exact⟨rfl,rfl,rfl⟩) (by kernel_rfl) Zl hW (λl hl _=>AA hl) (λb cs h=>by cases h) (enters_of Tryz.func4 (by kernel_rfl) rfl)
theorem closed:joinedFacts Tryz.prog 4 Tryz.f4 Rows.schemaSafeSpec Rows.schemaSafeRow=true:=by
 simp only[joinedFacts,aJ]
 repeat' apply And.intro
 all_goals (as_aux_lemma=>kernel_rfl)
theorem named:Tryz.prog.funcNamed "burrow/burrowlaw26.SchemaSafe" =some 4:=by kernel_rfl
theorem inst:Tryz.f4.isInstance Tryz.prog Rows.schemaSafeRow.origin Rows.schemaSafeRow.targs:=of_decide_eq_true (by kernel_rfl)
theorem wrapper:Tryz.f4.isWrapper Tryz.prog Rows.schemaSafeRow.wrapper Rows.schemaSafeRow.mainSum:=by
 unfold Func.isWrapper;first|(rw[if_pos (by decide+kernel)];kernel_rfl)|(rw[if_neg (by decide+kernel)];exact⟨rfl,rfl⟩)
theorem schemaSafe_holds:Rows.SchemaSafeSaid:=
 OpenClaim.holds_of_wide 4 Tryz.f4 rfl rfl rfl rfl rfl rfl rfl ⟨rfl,rfl,rfl,rfl,rfl⟩ rfl rfl rfl rfl rfl named Tryz.func4 closed
  inst wrapper
  (λos started H enc _=>lifted os started H enc)
#print axioms schemaSafe_holds
end Go.Proofs.YtdfkcobijmbidaaGreat
