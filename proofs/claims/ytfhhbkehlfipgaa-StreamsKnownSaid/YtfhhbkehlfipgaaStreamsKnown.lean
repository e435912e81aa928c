/- StreamsKnown: for every input the law returns true; each argument reads behind the call as it read before. -/
import Derived.Test.YtfhhbkehlfipgaaP18
import Derived.Test.YtfhhbkehlfipgaaP08
import Derived.Test.YtfhhbkehlfipgaaRows
import Derived.ProofKit
import Derived.OpenShut
set_option linter.all false
section
namespace Go.Proofs.Ytfhhbkehlfipgaa
open Go.ChangeShapes Go.WideShapes Go.ChangeAt Go.RowKit Go.Tx
set_option maxRecDepth 100000
theorem ownK : ownKnob Try.prog.godebug = none := by kernel_rfl
theorem laidOut : laidOutB Try.prog = true := by kernel_rfl
theorem undBool : Try.prog.underlying 4 = some .bool := by kernel_rfl
theorem fn9 : Try.prog.funcs[9]? = some Try.f9 := by kernel_rfl
theorem known_lifted (os : Os) (started : os.Started) (H : Type) (enc : TypeId × Value → H) :
  ReturnsInHanded {} Try.checked os 9 .any (Rows.streamsKnownSpec.pre6 enc Try.prog Try.f9 Rows.streamsKnownRow.domain false) (Rows.streamsKnownSpec.post enc Try.prog Try.f9 false true false false) := by
 refine returnsInHanded_of_change (C := Try.checked) ownK started (by kernel_rfl) Try.func9
  (ChangeSpec.witness6 (enc := enc) (C := Try.checked) false ⟨#[], #[], []⟩ 9 (by kernel_rfl) (by kernel_rfl) (by kernel_rfl) (by kernel_rfl)) ?_
 intro W base args ds gs before hval0 hW hcnd _
 have hW' := hW
 obtain ⟨p, q, hA0, hV, rfl, hfz, hnd⟩ := hW
 have hA : DataW.TrodAll enc Try.prog W 0 (fun _ => true) true Try.f9.params.toList args.toList ds p := hA0
 rw [Try.params9] at hA
 obtain ⟨hargs0, rfl, rfl⟩ := trodAll_nil hA
 have hae : args = #[] := by cases args; simp_all
 subst hae
 obtain ⟨rfl, rfl⟩ := trodVars_none hV
 clear hA0 hval0
 simp only [List.append_nil] at hW'
 have hargs : VRl W (Zw W) Env.no [] [] := by simp only [VRl]
 have hw := law_of_con knownLaw_ok hargs fn9 (by rfl) (by kernel_rfl)
 refine (hw).mono fun e W' ⟨he, hg⟩ => ?_
 subst he
 exact ⟨_, rfl, post_below hW' rfl (by kernel_rfl) undBool rfl rfl rfl laidOut (by rw [Try.params9]; simp only [List.not_mem_nil]; rintro t ht; exact ht.elim) hg⟩
theorem streamsKnown : Rows.StreamsKnownSaid :=
 OpenClaim.holds_of_wide 9 Try.f9 rfl rfl rfl rfl rfl rfl rfl ⟨rfl, rfl, rfl, rfl, rfl⟩ rfl rfl rfl rfl rfl (by kernel_rfl) Try.func9 (by kernel_rfl)
  (of_decide_eq_true (by kernel_rfl)) (by unfold Func.isWrapper; rw [if_neg (of_decide_eq_false (by kernel_rfl))]; exact ⟨rfl, rfl⟩)
  (fun os started H enc _ => known_lifted os started H enc)
#print axioms streamsKnown
end Go.Proofs.Ytfhhbkehlfipgaa
end
