/- GreetKeeps: for every input the law returns true; each argument reads behind the call asx it read before. -/
import Derived.Test.YtifhjhbfhdcahaaGreatP20
import Derived.Test.YtifhjhbfhdcahaaGreatP24
set_option linter.all false
section
namespace Go.Proofs.YtifhjhbfhdcahaaGreat
open Go.ChangeShapes Go.WideShapes Go.ChangeAt Go.RowKit Go.Tx
set_option maxRecDepth 100000
theorem fn7 : Tryz.prog.funcs[7]? = some Tryz.f7 := by kernel_rfl
theorem zFC (os : Os) (started : os.Started) (H : Type) (enc : TypeId × Value → H) :
  ReturnsInHanded {} Tryz.checked os 7 .any (Rows.greetKeepsSpec.pre6 enc Tryz.prog Tryz.f7 Rows.greetKeepsRow.domain false) (Rows.greetKeepsSpec.post enc Tryz.prog Tryz.f7 false true false false) := by
 refine returnsInHanded_of_change (C := Tryz.checked) zQe started (by kernel_rfl) Tryz.func7
  (ChangeSpec.witness6 (enc := enc) (C := Tryz.checked) false ⟨#[], #[.int .u16 0, .int .u8 0, .int .u8 0, .int .u8 0], []⟩ 7 (by kernel_rfl) (by kernel_rfl) (by kernel_rfl) (by kernel_rfl)) ?_
 intro W base args ds gs before hval0 hW hcnd _;have hval : ∀ (j : Nat) t v, Tryz.f7.params[j]? = some t → args[j]? = some v → Value.okWide Tryz.prog W .any base t v := hval0;have hW' := hW;obtain ⟨p, q, hA0, hV, rfl, hfz, hnd⟩ := hW;have hA : DataW.TrodAll enc Tryz.prog W 0 (fun _ => true) true Tryz.f7.params.toList args.toList ds p := hA0;rw [Tryz.params7] at hA hval;obtain ⟨v0, v1, v2, v3, d0, d1, d2, d3, p0, p1, p2, p3, rfl, rfl, rfl, h0, h1, h2, h3⟩ := zHv hA;obtain ⟨rfl, rfl⟩ := trodVars_none hV;clear hA0 hval0;simp only [vP] at hW';obtain ⟨w0, rfl⟩ := okWide_int zPU (hval 0 22 v0 rfl rfl);obtain ⟨w1, rfl⟩ := okWide_int zMp (hval 1 5 v1 rfl rfl);obtain ⟨w2, rfl⟩ := okWide_int zMp (hval 2 5 v2 rfl rfl);obtain ⟨w3, rfl⟩ := okWide_int zMp (hval 3 5 v3 rfl rfl);obtain ⟨x0, s0, r0, o0⟩ := zFi zIJ (n := 7) (by kernel_rfl) h0;obtain ⟨x1, s1, r1, o1⟩ := zFi zIJ (n := 7) (by kernel_rfl) h1;obtain ⟨x2, s2, r2, o2⟩ := zFi zIJ (n := 7) (by kernel_rfl) h2;obtain ⟨x3, s3, r3, o3⟩ := zFi zIJ (n := 7) (by kernel_rfl) h3;obtain ⟨m0, rfl, y0⟩ := Shp.int g22 s0;have e0 : m0 = w0 := by
  simp only [VRl, VR, Value.cells] at r0;obtain ⟨v, t, h, hv, _⟩ := r0;subst hv;simp at h; exact h.1.symm
 subst e0;obtain ⟨b0, rfl, q0⟩ := zSi y0;obtain ⟨m1, rfl, y1⟩ := Shp.int g5 s1;have e1 : m1 = w1 := by
  simp only [VRl, VR, Value.cells] at r1;obtain ⟨v, t, h, hv, _⟩ := r1;subst hv;simp at h; exact h.1.symm
 subst e1;obtain ⟨b1, rfl, q1⟩ := wf8 y1;obtain ⟨m2, rfl, y2⟩ := Shp.int g5 s2;have e2 : m2 = w2 := by
  simp only [VRl, VR, Value.cells] at r2;obtain ⟨v, t, h, hv, _⟩ := r2;subst hv;simp at h; exact h.1.symm
 subst e2;obtain ⟨b2, rfl, q2⟩ := wf8 y2;obtain ⟨m3, rfl, y3⟩ := Shp.int g5 s3;have e3 : m3 = w3 := by
  simp only [VRl, VR, Value.cells] at r3;obtain ⟨v, t, h, hv, _⟩ := r3;subst hv;simp at h; exact h.1.symm
 subst e3;obtain ⟨b3, rfl, q3⟩ := wf8 y3;have hargs : VRl W (Zw W) Env.no [.int .u16 b0, .int .u8 b1, .int .u8 b2, .int .u8 b3] [.int .u16 b0, .int .u8 b1, .int .u8 b2, .int .u8 b3] := by
  simp only [VRl];exact ⟨_, _, rfl, by simp only [VR], _, _, rfl, by simp only [VR], _, _, rfl, by simp only [VR], _, _, rfl, by simp only [VR], rfl⟩
 have hw := zKg (zMw b0 b1 b2 b3 q0 q1 q2 q3) hargs fn7 (by rfl) (by kernel_rfl);refine (hw).mono fun e W' ⟨he, hg⟩ => ?_
 subst he;exact ⟨_, rfl, zKh hW' rfl (by kernel_rfl) zMe rfl rfl rfl zMd (by rw [Tryz.params7]; simp only [wJ, uB, or_false]; rintro t (rfl | rfl | rfl | rfl) <;> exact ⟨by kernel_rfl, of_decide_eq_true (by kernel_rfl)⟩) hg⟩
theorem greetKeeps : Rows.GreetKeepsSaid :=
 OpenClaim.holds_of_wide 7 Tryz.f7 rfl rfl rfl rfl rfl rfl rfl ⟨rfl, rfl, rfl, rfl, rfl⟩ rfl rfl rfl rfl rfl (by kernel_rfl) Tryz.func7 (by kernel_rfl)
  (of_decide_eq_true (by kernel_rfl)) (by unfold Func.isWrapper; rw [if_neg (of_decide_eq_false (by kernel_rfl))]; exact ⟨rfl, rfl⟩)
  (fun os started H enc _ => zFC os started H enc)
#print axioms greetKeeps
end Go.Proofs.YtifhjhbfhdcahaaGreat
end
