/- Lemmas for the walk: R3. -/
import Derived.Test.YtfhhbkehlfipgaaRxA
import Derived.Test.YtfhhbkehlfipgaaCxP
section
set_option linter.unusedSimpArgs false
set_option linter.unusedVariables false
set_option linter.unnecessarySimpa false
/- StreamsCut: for every input the law returns true; each argument reads behind the call as it read before. -/
namespace Go.Proofs.Ytfhhbkehlfipgaa
open Go.ChangeShapes Go.WideShapes Go.ChangeAt Go.RowKit Go.Tx
set_option linter.unusedVariables false
set_option linter.unusedSimpArgs false
theorem fn6 : Try.prog.funcs[6]? = some Try.f6 := by kernel_rfl
theorem und5 : Try.prog.underlying 5 = some (.int .u8) := by kernel_rfl
theorem trodAll_four' {P : Program} {H : Type} {enc : TypeId × Value → H} {w : World} {base : Nat} {spare : TypeId → Bool} {held : Bool} {t t' t'' t3 : TypeId} {args : Array Value} {ds : List (DataW H)} {ps : List MemPlace} (h : DataW.TrodAll enc P w base spare held [t, t', t'', t3] args.toList ds ps) :
    ∃ v v' v'' v3 d d' d'' d3 p p' p'' p3, args = #[v, v', v'', v3] ∧ ds = [d, d', d'', d3] ∧ ps = p ++ p' ++ p'' ++ p3 ∧ DataW.Trod enc P w base spare held t v d p ∧ DataW.Trod enc P w base spare held t' v' d' p' ∧ DataW.Trod enc P w base spare held t'' v'' d'' p'' ∧ DataW.Trod enc P w base spare held t3 v3 d3 p3 := by
  obtain ⟨v, vs, d, ds', p, q, hargs, rfl, rfl, hd, hrest⟩ := trodAll_cons h
  obtain ⟨v', vs', d', ds'', p', q', rfl, rfl, rfl, hd', hrest'⟩ := trodAll_cons hrest
  obtain ⟨v'', vs'', d'', ds''', p'', q'', rfl, rfl, rfl, hd'', hrest''⟩ := trodAll_cons hrest'
  obtain ⟨v3, vs3, d3, ds4, p3, q3, rfl, rfl, rfl, hd3, hrest3⟩ := trodAll_cons hrest''
  obtain ⟨rfl, rfl, rfl⟩ := trodAll_nil hrest3
  exact ⟨v, v', v'', v3, d, d', d'', d3, p, p', p'', p3, by cases args; simp_all, rfl, by simp, hd, hd', hd'', hd3⟩
theorem wf_u32 {n : Int} (h : (Lit.int .u32 n).wf = true) : ∃ k : Nat, n = k ∧ k < 4294967296 := by
  have : 0 ≤ n ∧ n ≤ 4294967295 := by simpa [Lit.wf, IntKind.min, IntKind.max, IntKind.signed, IntKind.bits] using h
  exact ⟨n.toNat, by omega, by omega⟩
theorem shp28f {n : Nat} {xs : List PV} (h : Shp tys (n + 4) 28 xs) : ∃ (o i f : Nat) (a b : Nat) (w r : PV), xs = [.int .u8 o, .int .u8 i, .int .u32 f, .int .u16 a, .int .u16 b, w, r] ∧ o < 256 ∧ i < 256 ∧ f < 4294967296 ∧ a < 65536 ∧ b < 65536 := by
  have h := Shp.struct g28 h
  simp only [List.foldr] at h
  obtain ⟨_, _, rfl, h1, _, _, rfl, h2, _, _, rfl, h3, _, _, rfl, h4, _, _, rfl, h5, _, _, rfl, h6, rfl⟩ := h
  obtain ⟨_, rfl, w1⟩ := Shp.int g5 h1
  obtain ⟨_, rfl, w2⟩ := Shp.int g5 h2
  obtain ⟨f, rfl, w3⟩ := Shp.int g22 h3
  obtain ⟨a, b, rfl, ba, bb⟩ := shp24 h4
  obtain ⟨_, ws, rfl, _, _, _⟩ := Shp.slice g25 h5
  obtain ⟨_, rs, rfl, _, _, _⟩ := Shp.slice g26 h6
  obtain ⟨a1, rfl, b1⟩ := wf_u8 w1
  obtain ⟨a2, rfl, b2⟩ := wf_u8 w2
  obtain ⟨a3, rfl, b3⟩ := wf_u32 w3
  exact ⟨a1, a2, a3, a, b, _, _, rfl, b1, b2, b3, ba, bb⟩
/-! ### The row -/
set_option maxRecDepth 100000 in
theorem cut_lifted (os : Os) (started : os.Started) (H : Type) (enc : TypeId × Value → H) :
    ReturnsInHanded {} Try.checked os 6 .any (Rows.streamsCutSpec.pre6 enc Try.prog Try.f6 Rows.streamsCutRow.domain false) (Rows.streamsCutSpec.post enc Try.prog Try.f6 false true false false) := by
  refine returnsInHanded_of_change (C := Try.checked) ownK started (by kernel_rfl) Try.func6
    (ChangeSpec.witness6 (enc := enc) (C := Try.checked) false ⟨#[], #[.agg #[.int .u8 0, .int .u8 0, .int .u32 0, .int .u16 0, .int .u16 0, .slice none 0 0, .slice none 0 0], .agg #[.int .u8 0, .int .u8 0, .int .u16 0, .bool false], .int .u8 0, .bool false], []⟩ 8 (by kernel_rfl) (by kernel_rfl) (by kernel_rfl) (by kernel_rfl)) ?_
  intro W base args ds gs before hval0 hW hcnd _
  have hval : ∀ (j : Nat) t v, Try.f6.params[j]? = some t → args[j]? = some v → Value.okWide Try.prog W .any base t v := hval0
  have hW' := hW
  obtain ⟨p, q, hA0, hV, rfl, hfz, hnd⟩ := hW
  have hA : DataW.TrodAll enc Try.prog W 0 (fun _ => true) true Try.f6.params.toList args.toList ds p := hA0
  rw [Try.params6] at hA hval
  obtain ⟨v0, v1, v2, v3, d0, d1, d2, d3, p0, p1, p2, p3, rfl, rfl, rfl, h0, h1, h2, h3⟩ := trodAll_four' hA
  obtain ⟨rfl, rfl⟩ := trodVars_none hV
  clear hA0 hval0
  simp only [List.append_nil] at hW'
  obtain ⟨fs0, u0⟩ := undC0
  obtain ⟨fs1, u1⟩ := undC1
  obtain ⟨c0, rfl, _⟩ := okWide_struct u0 (hval 0 28 v0 rfl rfl)
  obtain ⟨c1, rfl, _⟩ := okWide_struct u1 (hval 1 30 v1 rfl rfl)
  obtain ⟨n2, rfl⟩ := okWide_int und5 (hval 2 5 v2 rfl rfl)
  obtain ⟨n3, rfl⟩ := okWide_bool und4 (hval 3 4 v3 rfl rfl)
  obtain ⟨x0, s0, r0, o0⟩ := trod_arg tysOk (n := 4) (by kernel_rfl) h0
  obtain ⟨x1, s1, r1, o1⟩ := trod_arg tysOk (n := 4) (by kernel_rfl) h1
  obtain ⟨x2, s2, r2, o2⟩ := trod_arg tysOk (n := 4) (by kernel_rfl) h2
  obtain ⟨o, i, f, a, b, w, r, rfl, ho, hi, hf, ha, hb⟩ := shp28f s0
  obtain ⟨st, kd, sz, lo, rfl, hst, hkd, hsz⟩ := shp30 s1
  obtain ⟨m2, rfl, w2⟩ := Shp.int g5 s2
  have e2 : m2 = n2 := by
    simp only [VRl, VR, Value.cells] at r2
    obtain ⟨v, t, h, hv, _⟩ := r2
    subst hv
    simp at h; exact h.1.symm
  subst e2
  obtain ⟨m, rfl, hm⟩ := wf_u8 w2
  have hargs : VRl W (Zw W) Env.no [.agg [.int .u8 o, .int .u8 i, .int .u32 f, .int .u16 a, .int .u16 b, w, r], .agg [.int .u8 st, .int .u8 kd, .int .u16 sz, .bool lo], .int .u8 m, .bool n3] [.agg c0, .agg c1, .int .u8 m, .bool n3] := by
    have e0 := vr_agg r0 o0
    have e1 := vr_agg r1 o1
    simp only [VRl]
    exact ⟨_, _, rfl, e0, _, _, rfl, e1, _, _, rfl, by simp only [VR], _, _, rfl, by simp only [VR], rfl⟩
  have hw := law_of_con (cutLaw_ok o i f hf a b w r st kd sz m lo n3 hst hkd hsz hm) hargs fn6 (by rfl) (by kernel_rfl)
  refine (hw).mono fun e W' ⟨he, hg⟩ => ?_
  subst he
  exact ⟨_, rfl, post_below hW' rfl (by kernel_rfl) und4 rfl rfl rfl laidOut (by rw [Try.params6]; simp only [List.mem_cons, List.not_mem_nil, or_false]; rintro t (rfl | rfl | rfl | rfl) <;> exact ⟨by kernel_rfl, of_decide_eq_true (by kernel_rfl)⟩) hg⟩
theorem streamsCut : Rows.StreamsCutSaid :=
  OpenClaim.holds_of_wide 6 Try.f6 rfl rfl rfl rfl rfl rfl rfl ⟨rfl, rfl, rfl, rfl, rfl⟩ rfl rfl rfl rfl rfl (by kernel_rfl) Try.func6 (by kernel_rfl)
    (of_decide_eq_true (by kernel_rfl)) (by unfold Func.isWrapper; rw [if_neg (of_decide_eq_false (by kernel_rfl))]; exact ⟨rfl, rfl⟩)
    (fun os started H enc _ => cut_lifted os started H enc)
#print axioms streamsCut
end Go.Proofs.Ytfhhbkehlfipgaa
end
