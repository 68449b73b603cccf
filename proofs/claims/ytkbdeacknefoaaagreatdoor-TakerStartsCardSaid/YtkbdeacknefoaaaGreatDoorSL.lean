/- The law TakerStarts, by the words of the statement. No condition. -/
import Derived.Test.YtkbdeacknefoaaaGreatDoorC4
import Derived.Test.YtkbdeacknefoaaaGreatDoorA6
import Derived.Test.YtkbdeacknefoaaaGreatDoorTie
import Derived.Test.YtkbdeacknefoaaaGreatDoorCards
import Derived.ProofKit
import Derived.OpenShut
import Derived.LaidMore
import Derived.Lay
import Derived.SevenTiedAt
import Derived.Stop.Joined
import Derived.Deep.DeepHandedRow
import Derived.Lib.LaidTab
set_option maxRecDepth 100000
set_option linter.all false
namespace Go.Proofs.YtkbdeacknefoaaaGreatDoor
open Go.Ab
theorem own:ownKnob Tryz.prog.godebug=none:=by kernel_rfl
theorem Xn (H:Type):Aj (H:=H) Rows.uptoBulk Rows.uptoBulkAll where
 str l:=by simp[Rows.uptoBulk]
 lit l:=by cases l<;>simp[Rows.uptoBulk]
 nil:=by simp[Rows.uptoBulk]
 slice l s:=by simp[Rows.uptoBulk]
 agg l:=by simp[Rows.uptoBulk]
 ajL:=by simp[Rows.uptoBulkAll]
 EC d l:=by simp[Rows.uptoBulkAll]
theorem Xo {W:World} (h:laidMetH Tryz.prog Rows.takerStartsRow.laid W):∀b cs,eo.uI b=some cs->∃e x,W.heap[b]? =some (.cells cs e x):=by
 rw[MakeChecks.laidMetH_plain _ _ _ (by kernel_rfl)]at h
 obtain⟨ps,⟨_,_,_,_,_,_,_,_,_,_,⟨g2,t2,vs2,fuel2,p2,q2,hg2,A2,mD,Xs,⟨g,t,vs,fuel,p,q,hg,ht,hv,hd,_,_⟩,_⟩,_⟩,_,_⟩:=h
 obtain rfl:=Option.some.inj ((show Tryz.prog.globalNamed "internal/strconv.uint64pow10" =some 1 by kernel_rfl).symm.trans hg)
 obtain rfl:=Option.some.inj ((show(Tryz.prog.globals[1]?).map (·.type)=some 259 by kernel_rfl).symm.trans ht)
 obtain rfl:=Option.some.inj ((show Tryz.prog.globalNamed "math/bits.deBruijn64tab" =some 3 by kernel_rfl).symm.trans hg2)
 obtain rfl:=Option.some.inj ((show(Tryz.prog.globals[3]?).map (·.type)=some 265 by kernel_rfl).symm.trans A2)
 have k1:=Lib.cells_of_tab (zs:=Go.Lib.pow10Tab) (k:= .u64) (n:=20) (e:=27) (by kernel_rfl) Tryz.underlying27 (by kernel_rfl) (by kernel_rfl) hd
 have k2:=Lib.cells_of_tab (zs:=AP) (k:= .u8) (n:=64) (e:=5) (by kernel_rfl) Tryz.underlying5 (by kernel_rfl) (by kernel_rfl) Xs
 have h1:∃e x,W.heap[1]? =some (.cells vs e x):=by
  simp only[World.var?,hg,Option.bind_some]at hv
  split at hv
  ·rename_i e x hh;cases hv;exact⟨_,_,hh⟩
  ·cases hv
 have h3:∃e x,W.heap[3]? =some (.cells vs2 e x):=by
  simp only[World.var?,hg2,Option.bind_some]at mD
  split at mD
  ·rename_i e x hh;cases mD;exact⟨_,_,hh⟩
  ·cases mD
 have e1:vs=(Go.Lib.pow10Tab.map λz=>Value.int .u64 z).toArray:=by rw[←k1]
 have e3:vs2=(AP.map λz=>Value.int .u8 z).toArray:=by rw[←k2]
 intro b cs hb
 simp only[eo.uI]at hb
 split at hb
 ·rename_i hh
  subst hh
  rw[←Option.some.inj hb,←e1]
  exact h1
 ·split at hb
  ·rename_i hh
   subst hh
   rw[←Option.some.inj hb,←e3]
   exact h3
  ·cases hb
theorem Xp {t e:TypeId} {k n c:Nat} {p:PV} (ht:Pg.underlying t=some (.array k e)) (hc:Pg.cellsOf e=c) (h:vr Pg (n+1) t p):∃l,p= .ar c k l∧l.length=k∧∀x∈l,vr Pg n e x:=by
 rw[vr,ht]at h
 obtain⟨l,rfl,h1,h2⟩:=h
 exact⟨l,by rw[hc],h1,h2⟩
theorem Xq {n:Nat} {p:PV} (h:vr Pg (n+2) 24 p):∃k:Key,p=aW k:=by
 obtain⟨l,rfl,hl,h⟩:=Xp Tryz.underlying24 (c:=1) (by kernel_rfl) h
 obtain⟨b,rfl,_⟩:=B7 (enc:=u8) (Q:=λ_=>True) (l:=l) (λx hx=>by
  obtain⟨m,rfl,h1,h2⟩:=su Tryz.underlying5 (h x hx)
  have h1':0≤m:=h1
  have h2':m≤255:=h2
  refine⟨UInt8.ofNat m.toNat,?_,trivial⟩
  simp only[u8]
  congr 1
  rw[UInt8.toNat_ofNat']
  omega)
 exact⟨⟨b,by simpa using hl⟩,rfl⟩
theorem yp {l:List PV} (h:PA (vr Pg 20) Tryz.f3.params.toList l):a8 Pg 3 l (.bl true):=by
 rw[Tryz.params3]at h
 obtain⟨p1,l,rfl,h1,h⟩:=nR h
 obtain⟨p2,l,rfl,h2,h⟩:=nR h
 obtain⟨p3,l,rfl,h3,h⟩:=nR h
 obtain⟨p4,l,rfl,h4,h⟩:=nR h
 obtain⟨p5,l,rfl,h5,h⟩:=nR h
 obtain⟨p6,l,rfl,h6,h⟩:=nR h
 obtain⟨p7,l,rfl,h7,h⟩:=nR h
 obtain⟨p8,l,rfl,h8,h⟩:=nR h
 obtain rfl:=PE h
 obtain⟨b,rfl,_,c1⟩:=L7 Tryz.underlying22 Tryz.underlying5 (by kernel_rfl) h1
 obtain⟨k,rfl⟩:=Xq h2
 obtain⟨n3,rfl,l3,u3⟩:=su Tryz.underlying3 h3
 obtain⟨n4,rfl,_⟩:=su Tryz.underlying3 h4
 obtain⟨n5,rfl,_⟩:=su Tryz.underlying3 h5
 obtain⟨n6,rfl,_⟩:=su Tryz.underlying3 h6
 obtain⟨n7,rfl,_⟩:=su Tryz.underlying2 h7
 obtain⟨n8,rfl,_⟩:=su Tryz.underlying5 h8
 exact Fu (by simpa[maxLen]using c1) k ⟨l3,u3⟩
noncomputable def args0:Array Value:= #[.slice none 0 0,((Tryz.prog.types[24]?).bind (·.zero)).getD (.bool false),.int .i64 0,.int .i64 0,.int .i64 0,.int .i64 0,.int .i64 0,.int .u8 0]
theorem lifted (os:Os) (started:os.Started) (H:Type) (enc:TypeId×Value->H):
  ReturnsInHanded {} Tryz.checked os 3 .any (λw args=>(Rows.takerStartsSpec.pre enc Tryz.prog Tryz.f3 Rows.takerStartsRow.domain false w args∧laidMetH Tryz.prog Rows.takerStartsRow.laid w)∧sizedMet enc Tryz.prog Tryz.f3 (OpenSpec.ofChange Rows.takerStartsSpec) false w args)
   (Rows.takerStartsSpec.post enc Tryz.prog Tryz.f3 false true false false):=by
 refine returnsInHanded_of_change_and (C:=Tryz.checked) (X:=λw _=>laidMetH Tryz.prog Rows.takerStartsRow.laid w) (λ_ _ _ hh h=>h.of_heap hh) own started (by kernel_rfl) Tryz.func3
  (ChangeSpec.witness_shaped (enc:=enc) (C:=Tryz.checked) (os:=os) (X:=λw _=>laidMetH Tryz.prog Rows.takerStartsRow.laid w) false (World.laidAll Tryz.prog os Rows.takerStartsRow.laid) args0 8 (World.laidAll_os _ _ _)
   (World.shaped_of_ZipB (by kernel_rfl) (by kernel_rfl)) (by kernel_rfl) (by kernel_rfl) (by kernel_rfl)
   (by rw[MakeChecks.laidMetH_plain _ _ _ (by kernel_rfl)];exact laidMet_laidAll _ (by kernel_rfl) (by kernel_rfl))) ?_
 intro W base args ds gs before DK hW _ _ hL _
 exact C1 (P:=Tryz.prog) (f:=3) (n:=20) (tb:=4) (Xn H) (by kernel_rfl) Tryz.underlying4 rfl
  (λds hd=>by rw[Tryz.params3]at hd;match ds,hd with|[_,_,_,_,_,_,_,_],_=>exact⟨rfl,rfl,rfl⟩) (by kernel_rfl) DK hW (λl hl _=>yp hl) (Xo hL) (enters_of Tryz.func3 (by kernel_rfl) rfl)
theorem yq:Rows.TakerStartsSaid:=
 OpenClaim.holds_of_wide 3 Tryz.f3 rfl rfl rfl rfl rfl rfl rfl ⟨rfl,rfl,rfl,rfl,rfl⟩ rfl rfl rfl rfl rfl (by kernel_rfl) Tryz.func3 (by kernel_rfl)
  (of_decide_eq_true (by kernel_rfl)) (by unfold Func.isWrapper;first|(rw[if_pos (by decide+kernel)];kernel_rfl)|(rw[if_neg (by decide+kernel)];exact⟨rfl,rfl⟩))
  (λos started H enc _=>lifted os started H enc)
theorem plain (f:FuncId) (fn:Func) (hf:Tryz.pinned.checked.prog.funcNamed "burrow/burrowlaw32.TakerStarts" =some f) (hfn:Tryz.pinned.checked.prog.funcs[f]? =some fn):
  false=Tryz.pinned.checked.prog.looks []∧∀(j:Nat) t,fn.params[j]? =some t->Tryz.pinned.checked.prog.wantsStandIn t=false:=by
 obtain rfl:f=3:=Option.some.inj ((show Tryz.prog.funcNamed "burrow/burrowlaw32.TakerStarts" =some 3 by kernel_rfl).symm.trans hf)|>.symm
 obtain rfl:fn=Tryz.f3:=(Option.some.inj (Tryz.func3.symm.trans hfn)).symm
 refine⟨by kernel_rfl,λj t ht=> ?_⟩
 rw[Tryz.params3]at ht
 have hm:t∈[22,24,3,3,3,3,2,5]:=by simpa using Array.mem_of_getElem? ht
 have eO:([22,24,3,3,3,3,2,5].all λu=> !Tryz.prog.wantsStandIn u)=true:=by kernel_rfl
 exact(show Tryz.prog.wantsStandIn t=false by simpa using List.all_eq_true.1 eO t hm)
theorem takerStarts_holds:Rows.TakerStartsCardSaid:=
 Claim7.holds_tied_plain_at .later [] _ _ _ _ yq (λ_ h=>by cases h) (by kernel_rfl) (λ_ h=>by cases h) takerStarts_row_tie rfl ⟨rfl,rfl⟩ (by kernel_rfl) rfl plain (by kernel_rfl)
#print axioms takerStarts_holds
end Go.Proofs.YtkbdeacknefoaaaGreatDoor
