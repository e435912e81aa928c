/- StreamsSends: for every input the law returns true; each argument reads behind the call as it read before. -/
import Derived.Test.YtfhhbkehlfipgaaGreatP20
import Derived.Test.YtfhhbkehlfipgaaGreatP21
set_option linter.all false
section
namespace Go.Proofs.YtfhhbkehlfipgaaGreat
open Go.ChangeShapes Go.WideShapes Go.ChangeAt Go.RowKit Go.Tx
theorem fn3 : Tryz.prog.funcs[3]? = some Tryz.f3 := by kernel_rfl
theorem trodAll_eight {P : Program} {H : Type} {enc : TypeId × Value → H} {w : World} {base : Nat} {spare : TypeId → Bool} {held : Bool} {t0 t1 t2 t3 t4 t5 t6 t7 : TypeId} {args : Array Value} {ds : List (DataW H)} {ps : List MemPlace} (h : DataW.TrodAll enc P w base spare held [t0, t1, t2, t3, t4, t5, t6, t7] args.toList ds ps) :
  ∃ v0 v1 v2 v3 v4 v5 v6 v7 d0 d1 d2 d3 d4 d5 d6 d7 p0 p1 p2 p3 p4 p5 p6 p7, args = #[v0, v1, v2, v3, v4, v5, v6, v7] ∧ ds = [d0, d1, d2, d3, d4, d5, d6, d7] ∧ ps = p0 ++ p1 ++ p2 ++ p3 ++ p4 ++ p5 ++ p6 ++ p7 ∧ DataW.Trod enc P w base spare held t0 v0 d0 p0 ∧ DataW.Trod enc P w base spare held t1 v1 d1 p1 ∧ DataW.Trod enc P w base spare held t2 v2 d2 p2 ∧ DataW.Trod enc P w base spare held t3 v3 d3 p3 ∧ DataW.Trod enc P w base spare held t4 v4 d4 p4 ∧ DataW.Trod enc P w base spare held t5 v5 d5 p5 ∧ DataW.Trod enc P w base spare held t6 v6 d6 p6 ∧ DataW.Trod enc P w base spare held t7 v7 d7 p7 := by
 obtain ⟨v0, vs0, d0, ds0, p0, q0, hargs, rfl, rfl, hd0, h⟩ := trodAll_cons h
 obtain ⟨v1, vs1, d1, ds1, p1, q1, rfl, rfl, rfl, hd1, h⟩ := trodAll_cons h
 obtain ⟨v2, vs2, d2, ds2, p2, q2, rfl, rfl, rfl, hd2, h⟩ := trodAll_cons h
 obtain ⟨v3, vs3, d3, ds3, p3, q3, rfl, rfl, rfl, hd3, h⟩ := trodAll_cons h
 obtain ⟨v4, vs4, d4, ds4, p4, q4, rfl, rfl, rfl, hd4, h⟩ := trodAll_cons h
 obtain ⟨v5, vs5, d5, ds5, p5, q5, rfl, rfl, rfl, hd5, h⟩ := trodAll_cons h
 obtain ⟨v6, vs6, d6, ds6, p6, q6, rfl, rfl, rfl, hd6, h⟩ := trodAll_cons h
 obtain ⟨v7, vs7, d7, ds7, p7, q7, rfl, rfl, rfl, hd7, h⟩ := trodAll_cons h
 obtain ⟨rfl, rfl, rfl⟩ := trodAll_nil h
 exact ⟨v0, v1, v2, v3, v4, v5, v6, v7, d0, d1, d2, d3, d4, d5, d6, d7, p0, p1, p2, p3, p4, p5, p6, p7, by cases args; simp_all, rfl, by simp, hd0, hd1, hd2, hd3, hd4, hd5, hd6, hd7⟩
set_option maxRecDepth 100000 in
theorem sends_lifted (os : Os) (started : os.Started) (H : Type) (enc : TypeId × Value → H) :
  ReturnsInHanded {} Tryz.checked os 3 .any (Rows.streamsSendsSpec.pre6 enc Tryz.prog Tryz.f3 Rows.streamsSendsRow.domain false) (Rows.streamsSendsSpec.post enc Tryz.prog Tryz.f3 false true false false) := by
 refine returnsInHanded_of_change (C := Tryz.checked) ownK started (by kernel_rfl) Tryz.func3
  (ChangeSpec.witness6 (enc := enc) (C := Tryz.checked) false ⟨#[], #[.int .i64 0, .int .i64 0, .agg #[.int .i64 0, .int .i64 0, .bool false, .string ⟨#[]⟩], .agg #[.int .u8 0, .int .u8 0, .int .u32 0, .int .u16 0, .int .u16 0, .slice none 0 0, .slice none 0 0], .agg #[.int .u8 0, .int .u8 0, .int .i64 0, .int .i64 0, .int .i64 0, .int .i64 0, .int .i64 0, .bool false, .bool false, .bool false, .string ⟨#[]⟩], .agg #[.int .u8 0, .int .u8 0, .int .i64 0, .int .i64 0, .int .i64 0, .int .i64 0, .int .i64 0, .bool false, .bool false, .bool false, .string ⟨#[]⟩], .agg #[.int .u8 0, .int .u8 0, .int .u16 0, .bool false], .int .u16 0], []⟩ 3 (by kernel_rfl) (by kernel_rfl) (by kernel_rfl) (by kernel_rfl)) ?_
 intro W base args ds gs before hval0 hW hcnd _
 have hval : ∀ (j : Nat) t v, Tryz.f3.params[j]? = some t → args[j]? = some v → Value.okWide Tryz.prog W .any base t v := hval0
 have hW' := hW
 obtain ⟨p, q, hA0, hV, rfl, hfz, hnd⟩ := hW
 have hA : DataW.TrodAll enc Tryz.prog W 0 (fun _ => true) true Tryz.f3.params.toList args.toList ds p := hA0
 rw [Tryz.params3] at hA hval
 obtain ⟨v0, v1, v2, v3, v4, v5, v6, v7, d0, d1, d2, d3, d4, d5, d6, d7, p0, p1, p2, p3, p4, p5, p6, p7, rfl, rfl, rfl, h0, h1, h2, h3, h4, h5, h6, h7⟩ := trodAll_eight hA
 obtain ⟨rfl, rfl⟩ := trodVars_none hV
 clear hA0 hval0
 simp only [List.append_nil] at hW'
 obtain ⟨fs2, u2⟩ := undMsg
 obtain ⟨fs3, u3⟩ := undDraft
 obtain ⟨fs4, u4⟩ := undBend
 obtain ⟨fs6, u6⟩ := undWords
 obtain ⟨n0, rfl⟩ := okWide_int undInt (hval 0 3 v0 rfl rfl)
 obtain ⟨n1, rfl⟩ := okWide_int undInt (hval 1 3 v1 rfl rfl)
 obtain ⟨c2, rfl, _⟩ := okWide_struct u2 (hval 2 23 v2 rfl rfl)
 obtain ⟨c3, rfl, _⟩ := okWide_struct u3 (hval 3 30 v3 rfl rfl)
 obtain ⟨c4, rfl, _⟩ := okWide_struct u4 (hval 4 34 v4 rfl rfl)
 obtain ⟨c5, rfl, _⟩ := okWide_struct u4 (hval 5 34 v5 rfl rfl)
 obtain ⟨c6, rfl, _⟩ := okWide_struct u6 (hval 6 36 v6 rfl rfl)
 obtain ⟨n7, rfl⟩ := okWide_int undU16 (hval 7 25 v7 rfl rfl)
 obtain ⟨x0, s0, r0, o0⟩ := trod_arg tysOk (n := 4) (by kernel_rfl) h0
 obtain ⟨x1, s1, r1, o1⟩ := trod_arg tysOk (n := 4) (by kernel_rfl) h1
 obtain ⟨x2, s2, r2, o2⟩ := trod_arg tysOk (n := 4) (by kernel_rfl) h2
 obtain ⟨x3, s3, r3, o3⟩ := trod_arg tysOk (n := 4) (by kernel_rfl) h3
 obtain ⟨x4, s4, r4, o4⟩ := trod_arg tysOk (n := 4) (by kernel_rfl) h4
 obtain ⟨x5, s5, r5, o5⟩ := trod_arg tysOk (n := 4) (by kernel_rfl) h5
 obtain ⟨x6, s6, r6, o6⟩ := trod_arg tysOk (n := 4) (by kernel_rfl) h6
 obtain ⟨x7, s7, r7, o7⟩ := trod_arg tysOk (n := 4) (by kernel_rfl) h7
 obtain ⟨m0, rfl, w0⟩ := Shp.int g3 s0
 obtain ⟨m1, rfl, w1⟩ := Shp.int g3 s1
 obtain ⟨raw, rfl, hraw⟩ := shpMsg s2
 obtain ⟨d, rfl, hd⟩ := shpDraft s3
 obtain ⟨b, rfl, hb⟩ := shpBend s4
 obtain ⟨c, rfl, hc⟩ := shpBend s5
 obtain ⟨w, rfl, hw0⟩ := shpWords s6
 obtain ⟨m7, rfl, w7⟩ := Shp.int g25 s7
 have e0 : m0 = n0 := by
  simp only [VRl, VR, Value.cells] at r0
  obtain ⟨v, t, h, hv, _⟩ := r0
  subst hv
  simp at h; exact h.1.symm
 subst e0
 have e1 : m1 = n1 := by
  simp only [VRl, VR, Value.cells] at r1
  obtain ⟨v, t, h, hv, _⟩ := r1
  subst hv
  simp at h; exact h.1.symm
 subst e1
 have e7 : m7 = n7 := by
  simp only [VRl, VR, Value.cells] at r7
  obtain ⟨v, t, h, hv, _⟩ := r7
  subst hv
  simp at h; exact h.1.symm
 subst e7
 obtain ⟨n, rfl, hn⟩ := wf_u16 w7
 have hargs : VRl W (Zw W) Env.no [.int .i64 m0, .int .i64 m1, .agg raw.row, .agg d.row, .agg b.row, .agg c.row, .agg w.row, .int .u16 n] [.int .i64 m0, .int .i64 m1, .agg c2, .agg c3, .agg c4, .agg c5, .agg c6, .int .u16 n] := by
  have e2 := vr_agg r2 o2
  have e3 := vr_agg r3 o3
  have e4 := vr_agg r4 o4
  have e5 := vr_agg r5 o5
  have e6 := vr_agg r6 o6
  simp only [VRl]
  exact ⟨_, _, rfl, by simp only [VR], _, _, rfl, by simp only [VR], _, _, rfl, e2, _, _, rfl, e3, _, _, rfl, e4, _, _, rfl, e5, _, _, rfl, e6, _, _, rfl, by simp only [VR], rfl⟩
 have hw := law_of_con (sendsLaw_ok m0 m1 raw hraw d hd b c hb hc w hw0 n hn) hargs fn3 (by rfl) (by kernel_rfl)
 refine (hw).mono fun e W' ⟨he, hg⟩ => ?_
 subst he
 exact ⟨_, rfl, post_below hW' rfl (by kernel_rfl) undBool rfl rfl rfl laidOut (by rw [Tryz.params3]; simp only [List.mem_cons, List.not_mem_nil, or_false]; rintro t (rfl | rfl | rfl | rfl | rfl | rfl | rfl | rfl) <;> exact ⟨by kernel_rfl, of_decide_eq_true (by kernel_rfl)⟩) hg⟩
theorem streamsSends : Rows.StreamsSendsSaid :=
 OpenClaim.holds_of_wide 3 Tryz.f3 rfl rfl rfl rfl rfl rfl rfl ⟨rfl, rfl, rfl, rfl, rfl⟩ rfl rfl rfl rfl rfl (by kernel_rfl) Tryz.func3 (by kernel_rfl)
  (of_decide_eq_true (by kernel_rfl)) (by unfold Func.isWrapper; rw [if_neg (of_decide_eq_false (by kernel_rfl))]; exact ⟨rfl, rfl⟩)
  (fun os started H enc _ => sends_lifted os started H enc)
#print axioms streamsSends
end Go.Proofs.YtfhhbkehlfipgaaGreat
end
