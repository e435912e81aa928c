/- Lemmas for the walk: R2. -/
import Derived.Test.YtfhhbkehlfipgaaRxA
import Derived.Test.YtfhhbkehlfipgaaCxI
section
set_option linter.unusedSimpArgs false
set_option linter.unusedVariables false
/- StreamsAgain: for every input the law returns true; each argument reads behind the call as it read before. -/
namespace Go.Proofs.Ytfhhbkehlfipgaa
open Go.ChangeShapes Go.WideShapes Go.ChangeAt Go.RowKit Go.Tx
set_option linter.unusedVariables false
set_option linter.unusedSimpArgs false
theorem fn4 : Try.prog.funcs[4]? = some Try.f4 := by kernel_rfl
/-! ### The row -/
set_option maxRecDepth 100000 in
theorem again_lifted (os : Os) (started : os.Started) (H : Type) (enc : TypeId × Value → H) :
    ReturnsInHanded {} Try.checked os 4 .any (Rows.streamsAgainSpec.pre6 enc Try.prog Try.f4 Rows.streamsAgainRow.domain false) (Rows.streamsAgainSpec.post enc Try.prog Try.f4 false true false false) := by
  refine returnsInHanded_of_change (C := Try.checked) ownK started (by kernel_rfl) Try.func4
    (ChangeSpec.witness6 (enc := enc) (C := Try.checked) false ⟨#[], #[.agg #[.int .u8 0, .int .u8 0, .int .u32 0, .int .u16 0, .int .u16 0, .slice none 0 0, .slice none 0 0], .int .u16 0, .int .u32 0], []⟩ 8 (by kernel_rfl) (by kernel_rfl) (by kernel_rfl) (by kernel_rfl)) ?_
  intro W base args ds gs before hval0 hW hcnd _
  have hval : ∀ (j : Nat) t v, Try.f4.params[j]? = some t → args[j]? = some v → Value.okWide Try.prog W .any base t v := hval0
  have hW' := hW
  obtain ⟨p, q, hA0, hV, rfl, hfz, hnd⟩ := hW
  have hA : DataW.TrodAll enc Try.prog W 0 (fun _ => true) true Try.f4.params.toList args.toList ds p := hA0
  rw [Try.params4] at hA hval
  obtain ⟨v0, v1, v2, d0, d1, d2, p0, p1, p2, rfl, rfl, rfl, h0, h1, h2⟩ := trodAll_three hA
  obtain ⟨rfl, rfl⟩ := trodVars_none hV
  clear hA0 hval0
  simp only [List.append_nil] at hW'
  obtain ⟨fs0, u0⟩ := undC0
  obtain ⟨c0, rfl, _⟩ := okWide_struct u0 (hval 0 28 v0 rfl rfl)
  obtain ⟨n1, rfl⟩ := okWide_int und23 (hval 1 23 v1 rfl rfl)
  obtain ⟨n2, rfl⟩ := okWide_int und22 (hval 2 22 v2 rfl rfl)
  obtain ⟨x0, s0, r0, o0⟩ := trod_arg tysOk (n := 4) (by kernel_rfl) h0
  obtain ⟨x1, s1, r1, o1⟩ := trod_arg tysOk (n := 4) (by kernel_rfl) h1
  obtain ⟨x2, s2, r2, o2⟩ := trod_arg tysOk (n := 4) (by kernel_rfl) h2
  obtain ⟨o, i, f, a, b, w, r, rfl, ho, hi, ha, hb⟩ := shp28 s0
  obtain ⟨m1, rfl, w1⟩ := Shp.int g23 s1
  obtain ⟨m2, rfl, w2⟩ := Shp.int g22 s2
  have e1 : m1 = n1 := by
    simp only [VRl, VR, Value.cells] at r1
    obtain ⟨v, t, h, hv, _⟩ := r1
    subst hv
    simp at h; exact h.1.symm
  have e2 : m2 = n2 := by
    simp only [VRl, VR, Value.cells] at r2
    obtain ⟨v, t, h, hv, _⟩ := r2
    subst hv
    simp at h; exact h.1.symm
  subst e1; subst e2
  have hb32 : 0 ≤ m2 ∧ m2 < 4294967296 := by
    have : 0 ≤ m2 ∧ m2 ≤ 4294967295 := by simpa [Lit.wf, IntKind.min, IntKind.max, IntKind.signed, IntKind.bits] using w2
    omega
  have hargs : VRl W (Zw W) Env.no [.agg [.int .u8 o, .int .u8 i, .int .u32 f, .int .u16 a, .int .u16 b, w, r], .int .u16 m1, .int .u32 m2] [.agg c0, .int .u16 m1, .int .u32 m2] := by
    have e0 := vr_agg r0 o0
    simp only [VRl]
    exact ⟨_, _, rfl, e0, _, _, rfl, by simp only [VR], _, _, rfl, by simp only [VR], rfl⟩
  have hw := law_of_con (again_ok o i f a b w r ho hi (by omega) (by omega) (by omega) (by omega) m1 m2 hb32.1 hb32.2) hargs fn4 (by rfl) (by kernel_rfl)
  refine (hw).mono fun e W' ⟨he, hg⟩ => ?_
  subst he
  exact ⟨_, rfl, post_below hW' rfl (by kernel_rfl) und4 rfl rfl rfl laidOut (by rw [Try.params4]; simp only [List.mem_cons, List.not_mem_nil, or_false]; rintro t (rfl | rfl | rfl) <;> exact ⟨by kernel_rfl, of_decide_eq_true (by kernel_rfl)⟩) hg⟩
theorem streamsAgain : Rows.StreamsAgainSaid :=
  OpenClaim.holds_of_wide 4 Try.f4 rfl rfl rfl rfl rfl rfl rfl ⟨rfl, rfl, rfl, rfl, rfl⟩ rfl rfl rfl rfl rfl (by kernel_rfl) Try.func4 (by kernel_rfl)
    (of_decide_eq_true (by kernel_rfl)) (by unfold Func.isWrapper; rw [if_neg (of_decide_eq_false (by kernel_rfl))]; exact ⟨rfl, rfl⟩)
    (fun os started H enc _ => again_lifted os started H enc)
#print axioms streamsAgain
end Go.Proofs.Ytfhhbkehlfipgaa
end
