/- Lemmas for the walk: R1. -/
import Derived.Test.YtfhhbkehlfipgaaCxE
import Derived.Test.YtfhhbkehlfipgaaTxE
import Derived.Test.YtfhhbkehlfipgaaRows
import Derived.ProofKit
import Derived.OpenShut
section
set_option linter.unusedSimpArgs false
set_option linter.unusedVariables false
/- StreamsCuts: for every input the law returns true; each argument reads behind the call as it read before. -/
namespace Go.Proofs.Ytfhhbkehlfipgaa
open Go.ChangeShapes Go.WideShapes Go.ChangeAt Go.RowKit Go.Tx
set_option linter.unusedVariables false
set_option linter.unusedSimpArgs false

theorem ownK : ownKnob Try.prog.godebug = none := by kernel_rfl
theorem laidOut : laidOutB Try.prog = true := by kernel_rfl
theorem undC0 : ∃ fs, Try.prog.underlying 28 = some (.struct fs) := by
  have : (match Try.prog.underlying 28 with | some (.struct _) => true | _ => false) = true := by kernel_rfl
  split at this
  · rename_i fs h; exact ⟨fs, h⟩
  · cases this
theorem undC1 : ∃ fs, Try.prog.underlying 30 = some (.struct fs) := by
  have : (match Try.prog.underlying 30 with | some (.struct _) => true | _ => false) = true := by kernel_rfl
  split at this
  · rename_i fs h; exact ⟨fs, h⟩
  · cases this
theorem und4 : Try.prog.underlying 4 = some .bool := by kernel_rfl
theorem fn3 : Try.prog.funcs[3]? = some Try.f3 := by kernel_rfl
theorem wf_u8 {n : Int} (h : (Lit.int .u8 n).wf = true) : ∃ k : Nat, n = k ∧ k < 256 := by
  have : 0 ≤ n ∧ n ≤ 255 := by simpa [Lit.wf, IntKind.min, IntKind.max, IntKind.signed, IntKind.bits] using h
  exact ⟨n.toNat, by omega, by omega⟩
theorem wf_u16 {n : Int} (h : (Lit.int .u16 n).wf = true) : ∃ k : Nat, n = k ∧ k < 65536 := by
  have : 0 ≤ n ∧ n ≤ 65535 := by simpa [Lit.wf, IntKind.min, IntKind.max, IntKind.signed, IntKind.bits] using h
  exact ⟨n.toNat, by omega, by omega⟩
theorem shp30 {n : Nat} {xs : List PV} (h : Shp tys (n + 2) 30 xs) : ∃ (st kd sz : Nat) (lo : Bool), xs = [.int .u8 st, .int .u8 kd, .int .u16 sz, .bool lo] ∧ st < 256 ∧ kd < 256 ∧ sz < 65536 := by
  have h := Shp.struct g30 h
  simp only [List.foldr] at h
  obtain ⟨_, _, rfl, h1, _, _, rfl, h2, _, _, rfl, h3, _, _, rfl, h4, rfl⟩ := h
  obtain ⟨_, rfl, w1⟩ := Shp.int g5 h1
  obtain ⟨_, rfl, w2⟩ := Shp.int g5 h2
  obtain ⟨_, rfl, w3⟩ := Shp.int g23 h3
  obtain ⟨b, rfl⟩ := Shp.bool g4 h4
  obtain ⟨a1, rfl, b1⟩ := wf_u8 w1
  obtain ⟨a2, rfl, b2⟩ := wf_u8 w2
  obtain ⟨a3, rfl, b3⟩ := wf_u16 w3
  exact ⟨a1, a2, a3, b, rfl, b1, b2, b3⟩
theorem shp24 {n : Nat} {xs : List PV} (h : Shp tys (n + 2) 24 xs) : ∃ (a b : Nat), xs = [.int .u16 a, .int .u16 b] ∧ a < 65536 ∧ b < 65536 := by
  have h := Shp.array g24 h
  simp only [List.foldr, List.range, List.range.loop] at h
  obtain ⟨_, _, rfl, h1, _, _, rfl, h2, rfl⟩ := h
  obtain ⟨_, rfl, w1⟩ := Shp.int g23 h1
  obtain ⟨_, rfl, w2⟩ := Shp.int g23 h2
  obtain ⟨a1, rfl, b1⟩ := wf_u16 w1
  obtain ⟨a2, rfl, b2⟩ := wf_u16 w2
  exact ⟨a1, a2, rfl, b1, b2⟩
theorem shp28 {n : Nat} {xs : List PV} (h : Shp tys (n + 4) 28 xs) : ∃ (o i : Nat) (f : Int) (a b : Nat) (w r : PV), xs = [.int .u8 o, .int .u8 i, .int .u32 f, .int .u16 a, .int .u16 b, w, r] ∧ o < 256 ∧ i < 256 ∧ a < 65536 ∧ b < 65536 := by
  have h := Shp.struct g28 h
  simp only [List.foldr] at h
  obtain ⟨_, _, rfl, h1, _, _, rfl, h2, _, _, rfl, h3, _, _, rfl, h4, _, _, rfl, h5, _, _, rfl, h6, rfl⟩ := h
  obtain ⟨_, rfl, w1⟩ := Shp.int g5 h1
  obtain ⟨_, rfl, w2⟩ := Shp.int g5 h2
  obtain ⟨f, rfl, w3⟩ := Shp.int g22 h3
  obtain ⟨a, b, rfl, ba, bb⟩ := shp24 h4
  obtain ⟨_, ws, rfl, _, _, _⟩ := Shp.slice g25 h5
  obtain ⟨_, rs, rfl, _, _, _⟩ := Shp.slice g26 h6
  obtain ⟨a1, rfl, b1⟩ := wf_u8 w1
  obtain ⟨a2, rfl, b2⟩ := wf_u8 w2
  exact ⟨a1, a2, f, a, b, _, _, rfl, b1, b2, ba, bb⟩

/-! ### The row -/
set_option maxRecDepth 100000 in
theorem cuts_lifted (os : Os) (started : os.Started) (H : Type) (enc : TypeId × Value → H) :
    ReturnsInHanded {} Try.checked os 3 .any (Rows.streamsCutsSpec.pre6 enc Try.prog Try.f3 Rows.streamsCutsRow.domain false) (Rows.streamsCutsSpec.post enc Try.prog Try.f3 false true false false) := by
  refine returnsInHanded_of_change (C := Try.checked) ownK started (by kernel_rfl) Try.func3
    (ChangeSpec.witness6 (enc := enc) (C := Try.checked) false ⟨#[], #[.agg #[.int .u8 0, .int .u8 0, .int .u32 0, .int .u16 0, .int .u16 0, .slice none 0 0, .slice none 0 0], .agg #[.int .u8 0, .int .u8 0, .int .u16 0, .bool false]], []⟩ 8 (by kernel_rfl) (by kernel_rfl) (by kernel_rfl) (by kernel_rfl)) ?_
  intro W base args ds gs before hval0 hW hcnd _
  have hval : ∀ (j : Nat) t v, Try.f3.params[j]? = some t → args[j]? = some v → Value.okWide Try.prog W .any base t v := hval0
  have hW' := hW
  obtain ⟨p, q, hA0, hV, rfl, hfz, hnd⟩ := hW
  have hA : DataW.TrodAll enc Try.prog W 0 (fun _ => true) true Try.f3.params.toList args.toList ds p := hA0
  rw [Try.params3] at hA hval
  obtain ⟨v0, v1, d0, d1, p0, p1, rfl, rfl, rfl, h0, h1⟩ := trodAll_two hA
  obtain ⟨rfl, rfl⟩ := trodVars_none hV
  clear hA0 hval0
  simp only [List.append_nil] at hW'
  obtain ⟨fs0, u0⟩ := undC0
  obtain ⟨fs1, u1⟩ := undC1
  obtain ⟨c0, rfl, _⟩ := okWide_struct u0 (hval 0 28 v0 rfl rfl)
  obtain ⟨c1, rfl, _⟩ := okWide_struct u1 (hval 1 30 v1 rfl rfl)
  obtain ⟨x0, s0, r0, o0⟩ := trod_arg tysOk (n := 4) (by kernel_rfl) h0
  obtain ⟨x1, s1, r1, o1⟩ := trod_arg tysOk (n := 4) (by kernel_rfl) h1
  obtain ⟨o, i, f, a, b, w, r, rfl, ho, hi, ha, hb⟩ := shp28 s0
  obtain ⟨st, kd, sz, lo, rfl, hst, hkd, hsz⟩ := shp30 s1
  have hargs : VRl W (Zw W) Env.no [.agg [.int .u8 o, .int .u8 i, .int .u32 f, .int .u16 a, .int .u16 b, w, r], .agg [.int .u8 st, .int .u8 kd, .int .u16 sz, .bool lo]] [.agg c0, .agg c1] := by
    have e0 := vr_agg r0 o0
    have e1 := vr_agg r1 o1
    simp only [VRl]
    exact ⟨_, _, rfl, e0, _, _, rfl, e1, rfl⟩
  have hw := law_of_con (cuts_ok o i f a b w r ho hi (by omega) (by omega) (by omega) (by omega) st kd sz lo hst hkd hsz) hargs fn3 (by rfl) (by kernel_rfl)
  refine (hw).mono fun e W' ⟨he, hg⟩ => ?_
  subst he
  exact ⟨_, rfl, post_below hW' rfl (by kernel_rfl) und4 rfl rfl rfl laidOut (by rw [Try.params3]; simp only [List.mem_cons, List.not_mem_nil, or_false]; rintro t (rfl | rfl) <;> exact ⟨by kernel_rfl, of_decide_eq_true (by kernel_rfl)⟩) hg⟩
theorem streamsCuts : Rows.StreamsCutsSaid :=
  OpenClaim.holds_of_wide 3 Try.f3 rfl rfl rfl rfl rfl rfl rfl ⟨rfl, rfl, rfl, rfl, rfl⟩ rfl rfl rfl rfl rfl (by kernel_rfl) Try.func3 (by kernel_rfl)
    (of_decide_eq_true (by kernel_rfl)) (by unfold Func.isWrapper; rw [if_neg (of_decide_eq_false (by kernel_rfl))]; exact ⟨rfl, rfl⟩)
    (fun os started H enc _ => cuts_lifted os started H enc)
#print axioms streamsCuts
end Go.Proofs.Ytfhhbkehlfipgaa
end
