/- GreetParts: for every input the law returns true; each argument reads behind the call asx it read before. -/
import Derived.Test.YtifhjhbfhdcahaaGreatP20
import Derived.Test.YtifhjhbfhdcahaaGreatP26
set_option linter.all false
section
namespace Go.Proofs.YtifhjhbfhdcahaaGreat
open Go.ChangeShapes Go.WideShapes Go.ChangeAt Go.RowKit Go.Tx
set_option maxRecDepth 100000
theorem fn4 : Tryz.prog.funcs[4]? = some Tryz.f4 := by kernel_rfl
theorem zFO (os : Os) (started : os.Started) (H : Type) (enc : TypeId × Value → H) :
  ReturnsInHanded {} Tryz.checked os 4 .any (Rows.greetPartsSpec.pre6 enc Tryz.prog Tryz.f4 Rows.greetPartsRow.domain false) (Rows.greetPartsSpec.post enc Tryz.prog Tryz.f4 false true false false) := by
 refine returnsInHanded_of_change (C := Tryz.checked) zRB started (by kernel_rfl) Tryz.func4
  (ChangeSpec.witness6 (enc := enc) (C := Tryz.checked) false ⟨#[], #[.int .u16 0, .bool false, .slice none 0 0], []⟩ 4 (by kernel_rfl) (by kernel_rfl) (by kernel_rfl) (by kernel_rfl)) ?_
 intro W base args ds gs before hval0 hW hcnd _;have hval : ∀ (j : Nat) t v, Tryz.f4.params[j]? = some t → args[j]? = some v → Value.okWide Tryz.prog W .any base t v := hval0;have hW' := hW;obtain ⟨p, q, hA0, hV, rfl, hfz, hnd⟩ := hW;have hA : DataW.TrodAll enc Tryz.prog W 0 (fun _ => true) true Tryz.f4.params.toList args.toList ds p := hA0;rw [Tryz.params4] at hA hval;obtain ⟨v0, v1, v2, d0, d1, d2, p0, p1, p2, rfl, rfl, rfl, h0, h1, h2⟩ := zG4 hA;obtain ⟨rfl, rfl⟩ := trodVars_none hV;clear hA0 hval0;simp only [vS] at hW';obtain ⟨w0, rfl⟩ := okWide_int zP4 (hval 0 22 v0 rfl rfl);obtain ⟨w1, rfl⟩ := okWide_bool zIp (hval 1 4 v1 rfl rfl);obtain ⟨z2, l2, c2, rfl⟩ := okWide_slice zRF (hval 2 23 v2 rfl rfl);obtain ⟨x0, s0, r0, o0⟩ := zHu zJR (n := 7) (by kernel_rfl) h0;obtain ⟨x1, s1, r1, o1⟩ := zHu zJR (n := 7) (by kernel_rfl) h1;obtain ⟨x2, s2, r2, o2⟩ := zHu zJR (n := 7) (by kernel_rfl) h2;obtain ⟨m0, rfl, y0⟩ := Shp.int g22 s0;have e0 : m0 = w0 := by
  simp only [VRl, VR, Value.cells] at r0;obtain ⟨v, t, h, hv, _⟩ := r0;subst hv;simp at h; exact h.1.symm
 subst e0;obtain ⟨b0, rfl, q0⟩ := zTQ y0;obtain ⟨b1, rfl⟩ := Shp.bool g4 s1;have e1 : b1 = w1 := by
  simp only [VRl, VR, Value.cells] at r1;obtain ⟨v, t, h, hv, _⟩ := r1;subst hv;simp at h; exact h.1.symm
 subst e1;obtain ⟨x2, rfl, m2⟩ := zRG s2;have hargs : VRl W (Zw W) Env.no [.int .u16 b0, .bool b1, .fs 3 (x2.map Mv.row)] [.int .u16 b0, .bool b1, .slice z2 l2 c2] := by
  have e2 := zOc r2;simp only [VRl];exact ⟨_, _, rfl, by simp only [VR], _, _, rfl, by simp only [VR], _, _, rfl, e2, rfl⟩
 have hw := zKu (zNK b0 q0 b1 x2 m2) hargs fn4 (by rfl) (by kernel_rfl);refine (hw).mono fun e W' ⟨he, hg⟩ => ?_
 subst he;exact ⟨_, rfl, zKv hW' rfl (by kernel_rfl) zIp rfl rfl rfl zMt (by rw [Tryz.params4]; simp only [zS, wH, or_false]; rintro t (rfl | rfl | rfl) <;> exact ⟨by kernel_rfl, of_decide_eq_true (by kernel_rfl)⟩) hg⟩
theorem greetParts : Rows.GreetPartsSaid :=
 OpenClaim.holds_of_wide 4 Tryz.f4 rfl rfl rfl rfl rfl rfl rfl ⟨rfl, rfl, rfl, rfl, rfl⟩ rfl rfl rfl rfl rfl (by kernel_rfl) Tryz.func4 (by kernel_rfl)
  (of_decide_eq_true (by kernel_rfl)) (by unfold Func.isWrapper; rw [if_neg (of_decide_eq_false (by kernel_rfl))]; exact ⟨rfl, rfl⟩)
  (fun os started H enc _ => zFO os started H enc)
#print axioms greetParts
end Go.Proofs.YtifhjhbfhdcahaaGreat
end
