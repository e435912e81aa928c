/- GreetKnown: for every input the law returns true; each argument reads behind the call asx it read before. -/
import Derived.Test.YtifhjhbfhdcahaaGreatP19
import Derived.Test.YtifhjhbfhdcahaaGreatP24
set_option linter.all false
section
namespace Go.Proofs.YtifhjhbfhdcahaaGreat
open Go.ChangeShapes Go.WideShapes Go.ChangeAt Go.RowKit Go.Tx
set_option maxRecDepth 100000
theorem fn8 : Tryz.prog.funcs[8]? = some Tryz.f8 := by kernel_rfl
theorem zE9 (os : Os) (started : os.Started) (H : Type) (enc : TypeId × Value → H) :
  ReturnsInHanded {} Tryz.checked os 8 .any (Rows.greetKnownSpec.pre6 enc Tryz.prog Tryz.f8 Rows.greetKnownRow.domain false) (Rows.greetKnownSpec.post enc Tryz.prog Tryz.f8 false true false false) := by
 refine returnsInHanded_of_change (C := Tryz.checked) zQE started (by kernel_rfl) Tryz.func8
  (ChangeSpec.witness6 (enc := enc) (C := Tryz.checked) false ⟨#[], #[], []⟩ 8 (by kernel_rfl) (by kernel_rfl) (by kernel_rfl) (by kernel_rfl)) ?_
 intro W base args ds gs before hval0 hW hcnd _;have hval : ∀ (j : Nat) t v, Tryz.f8.params[j]? = some t → args[j]? = some v → Value.okWide Tryz.prog W .any base t v := hval0;have hW' := hW;obtain ⟨p, q, hA0, hV, rfl, hfz, hnd⟩ := hW;have hA : DataW.TrodAll enc Tryz.prog W 0 (fun _ => true) true Tryz.f8.params.toList args.toList ds p := hA0;rw [Tryz.params8] at hA hval;obtain ⟨hargs0, rfl, rfl⟩ := trodAll_nil hA;have hae : args = #[] := by cases args; simp_all
 subst hae;obtain ⟨rfl, rfl⟩ := trodVars_none hV;clear hA0 hval0;simp only [vQ] at hW';have hargs : VRl W (Zw W) Env.no [] [] := by
  simp only [VRl]
 have hw := zKK (zJG) hargs fn8 (by rfl) (by kernel_rfl);refine (hw).mono fun e W' ⟨he, hg⟩ => ?_
 subst he;exact ⟨_, rfl, zKL hW' rfl (by kernel_rfl) zMI rfl rfl rfl zMH (by rw [Tryz.params8]; simp only [vW]; rintro t ht; exact ht.elim) hg⟩
theorem greetKnown : Rows.GreetKnownSaid :=
 OpenClaim.holds_of_wide 8 Tryz.f8 rfl rfl rfl rfl rfl rfl rfl ⟨rfl, rfl, rfl, rfl, rfl⟩ rfl rfl rfl rfl rfl (by kernel_rfl) Tryz.func8 (by kernel_rfl)
  (of_decide_eq_true (by kernel_rfl)) (by unfold Func.isWrapper; rw [if_neg (of_decide_eq_false (by kernel_rfl))]; exact ⟨rfl, rfl⟩)
  (fun os started H enc _ => zE9 os started H enc)
#print axioms greetKnown
end Go.Proofs.YtifhjhbfhdcahaaGreat
end
