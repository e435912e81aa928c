/- StreamsTakes: for every input the law returns true; each argument reads behind the call as it read before. -/
import Derived.Test.YtfhhbkehlfipgaaGreatP19
import Derived.Test.YtfhhbkehlfipgaaGreatP23
set_option linter.all false
section
namespace Go.Proofs.YtfhhbkehlfipgaaGreat
open Go.ChangeShapes Go.WideShapes Go.ChangeAt Go.RowKit Go.Tx
set_option maxRecDepth 100000
theorem fn4 : Tryz.prog.funcs[4]? = some Tryz.f4 := by kernel_rfl
theorem trodAll_eight {P : Program} {H : Type} {enc : TypeId × Value → H} {w : World} {base : Nat} {spare : TypeId → Bool} {held : Bool} {t0 t1 t2 t3 t4 t5 t6 t7 : TypeId} {args : Array Value} {ds : List (DataW H)} {ps : List MemPlace} (h : DataW.TrodAll enc P w base spare held [t0, t1, t2, t3, t4, t5, t6, t7] args.toList ds ps) :
  ∃ v0 v1 v2 v3 v4 v5 v6 v7 d0 d1 d2 d3 d4 d5 d6 d7 p0 p1 p2 p3 p4 p5 p6 p7, args = #[v0, v1, v2, v3, v4, v5, v6, v7] ∧ ds = [d0, d1, d2, d3, d4, d5, d6, d7] ∧ ps = p0 ++ p1 ++ p2 ++ p3 ++ p4 ++ p5 ++ p6 ++ p7 ∧ DataW.Trod enc P w base spare held t0 v0 d0 p0 ∧ DataW.Trod enc P w base spare held t1 v1 d1 p1 ∧ DataW.Trod enc P w base spare held t2 v2 d2 p2 ∧ DataW.Trod enc P w base spare held t3 v3 d3 p3 ∧ DataW.Trod enc P w base spare held t4 v4 d4 p4 ∧ DataW.Trod enc P w base spare held t5 v5 d5 p5 ∧ DataW.Trod enc P w base spare held t6 v6 d6 p6 ∧ DataW.Trod enc P w base spare held t7 v7 d7 p7 := by
 obtain ⟨v0, vs0, d0, ds0, p0, q0, hargs, rfl, rfl, hd0, h⟩ := trodAll_cons h
 obtain ⟨v1, vs1, d1, ds1, p1, q1, rfl, rfl, rfl, hd1, h⟩ := trodAll_cons h
 obtain ⟨v2, vs2, d2, ds2, p2, q2, rfl, rfl, rfl, hd2, h⟩ := trodAll_cons h
 obtain ⟨v3, vs3, d3, ds3, p3, q3, rfl, rfl, rfl, hd3, h⟩ := trodAll_cons h
 obtain ⟨v4, vs4, d4, ds4, p4, q4, rfl, rfl, rfl, hd4, h⟩ := trodAll_cons h
 obtain ⟨v5, vs5, d5, ds5, p5, q5, rfl, rfl, rfl, hd5, h⟩ := trodAll_cons h
 obtain ⟨v6, vs6, d6, ds6, p6, q6, rfl, rfl, rfl, hd6, h⟩ := trodAll_cons h
 obtain ⟨v7, vs7, d7, ds7, p7, q7, rfl, rfl, rfl, hd7, h⟩ := trodAll_cons h
 obtain ⟨rfl, rfl, rfl⟩ := trodAll_nil h
 exact ⟨v0, v1, v2, v3, v4, v5, v6, v7, d0, d1, d2, d3, d4, d5, d6, d7, p0, p1, p2, p3, p4, p5, p6, p7, by cases args; simp_all, rfl, by simp, hd0, hd1, hd2, hd3, hd4, hd5, hd6, hd7⟩
theorem rows_of {α : Type} {p : List PV → Prop} {f : α → List PV} (hp : ∀ xs, p xs → ∃ a, xs = f a) : ∀ (rs : List (List PV)), (∀ r ∈ rs, p r) → ∃ l : List α, rs = l.map f
 | [], _ => ⟨[], rfl⟩
 | r :: rs, h => by
  obtain ⟨l, e⟩ := rows_of hp rs (fun x hx => h x (by simp [hx]))
  obtain ⟨a, ha⟩ := hp r (h r (by simp))
  exact ⟨a :: l, by rw [e, ha]; rfl⟩
theorem vr_one {W : World} {Z : Nat → Prop} {E : Env} {x : PV} {v : Value} (h : VRl W Z E [x] [v]) : VR W Z E x v := by
 simp only [VRl] at h
 obtain ⟨v', t, h1, h2, h3⟩ := h
 simp at h1
 rw [h1.1]; exact h2
theorem shpIntRow {n : Nat} {xs : List PV} (h : Shp tys (n + 1) 3 xs) : ∃ x : Int, xs = eI x := by
 obtain ⟨m, rfl, _⟩ := Shp.int g3 h
 exact ⟨m, rfl⟩
theorem shpInts {n : Nat} {xs : List PV} (h : Shp tys (n + 2) 38 xs) : ∃ l : List Int, xs = [.fs 1 (l.map eI)] ∧ l.length ≤ maxLen := by
 obtain ⟨wd, rs, rfl, h1, h2, h3⟩ := Shp.slice g38 h
 rw [g3] at h2
 simp only [Option.map_some, Option.some.injEq] at h2
 subst h2
 obtain ⟨l, rfl⟩ := rows_of (fun xs => shpIntRow) rs h3
 exact ⟨l, rfl, by simpa using h1⟩
theorem shpPair {n : Nat} {xs : List PV} (h : Shp tys (n + 2) 71 xs) : ∃ k : Int × Int, xs = kE k := by
 have h := Shp.array g71 h
 simp only [List.foldr, List.range, List.range.loop] at h
 obtain ⟨_, _, rfl, h1, _, _, rfl, h2, rfl⟩ := h
 obtain ⟨a, rfl, _⟩ := Shp.int g3 h1
 obtain ⟨b, rfl, _⟩ := Shp.int g3 h2
 exact ⟨(a, b), rfl⟩
theorem shpFwd {n : Nat} {xs : List PV} (h : Shp tys (n + 4) 63 xs) : ∃ (cum : Int) (sk : List (Int × Int)), xs = [.int .i64 cum, .fs 2 (sk.map kE)] := by
 have h := Shp.struct g63 h
 simp only [List.foldr] at h
 obtain ⟨_, _, rfl, h1, _, _, rfl, h2, rfl⟩ := h
 obtain ⟨cum, rfl, _⟩ := Shp.int g3 h1
 obtain ⟨wd, rs, rfl, _, e2, s2⟩ := Shp.slice g61 h2
 rw [g71] at e2
 simp only [Option.map_some, Option.some.injEq] at e2
 subst e2
 obtain ⟨sk, rfl⟩ := rows_of (fun xs => shpPair) rs s2
 exact ⟨cum, sk, rfl⟩
theorem undFwd : ∃ fs, Tryz.prog.underlying 63 = some (.struct fs) := und_struct (by kernel_rfl)
set_option maxRecDepth 100000 in
theorem takes_lifted (os : Os) (started : os.Started) (H : Type) (enc : TypeId × Value → H) :
  ReturnsInHanded {} Tryz.checked os 4 .any (Rows.streamsTakesSpec.pre6 enc Tryz.prog Tryz.f4 Rows.streamsTakesRow.domain false) (Rows.streamsTakesSpec.post enc Tryz.prog Tryz.f4 false true false false) := by
 refine returnsInHanded_of_change (C := Tryz.checked) ownK started (by kernel_rfl) Tryz.func4
  (ChangeSpec.witness6 (enc := enc) (C := Tryz.checked) false ⟨#[], #[.agg #[.int .u8 0, .int .u8 0, .int .u32 0, .int .u16 0, .int .u16 0, .slice none 0 0, .slice none 0 0], .agg #[.int .u8 0, .int .u8 0, .int .i64 0, .int .i64 0, .int .i64 0, .int .i64 0, .int .i64 0, .bool false, .bool false, .bool false, .string ⟨#[]⟩], .agg #[.int .u8 0, .int .u8 0, .int .i64 0, .int .i64 0, .int .i64 0, .int .i64 0, .int .i64 0, .bool false, .bool false, .bool false, .string ⟨#[]⟩], .agg #[.int .i64 0, .int .i64 0, .int .i64 0, .int .i64 0, .bool false, .bool false, .bool false, .string ⟨#[]⟩], .agg #[.int .i64 0, .slice none 0 0], .int .u8 0, .int .u8 0, .int .u8 0], []⟩ 4 (by kernel_rfl) (by kernel_rfl) (by kernel_rfl) (by kernel_rfl)) ?_
 intro W base args ds gs before hval0 hW hcnd _
 have hval : ∀ (j : Nat) t v, Tryz.f4.params[j]? = some t → args[j]? = some v → Value.okWide Tryz.prog W .any base t v := hval0
 have hW' := hW
 obtain ⟨p, q, hA0, hV, rfl, hfz, hnd⟩ := hW
 have hA : DataW.TrodAll enc Tryz.prog W 0 (fun _ => true) true Tryz.f4.params.toList args.toList ds p := hA0
 rw [Tryz.params4] at hA hval
 obtain ⟨v0, v1, v2, v3, v4, v5, v6, v7, d0, d1, d2, d3, d4, d5, d6, d7, p0, p1, p2, p3, p4, p5, p6, p7, rfl, rfl, rfl, h0, h1, h2, h3, h4, h5, h6, h7⟩ := trodAll_eight hA
 obtain ⟨rfl, rfl⟩ := trodVars_none hV
 clear hA0 hval0
 simp only [List.append_nil] at hW'
 obtain ⟨fs0, u0⟩ := undDraft
 obtain ⟨c0, rfl, _⟩ := okWide_struct u0 (hval 0 30 v0 rfl rfl)
 obtain ⟨fs1, u1⟩ := undBend
 obtain ⟨c1, rfl, _⟩ := okWide_struct u1 (hval 1 34 v1 rfl rfl)
 obtain ⟨fs2, u2⟩ := undBend
 obtain ⟨c2, rfl, _⟩ := okWide_struct u2 (hval 2 34 v2 rfl rfl)
 obtain ⟨fs3, u3⟩ := undData
 obtain ⟨c3, rfl, _⟩ := okWide_struct u3 (hval 3 32 v3 rfl rfl)
 obtain ⟨fs4, u4⟩ := undFwd
 obtain ⟨c4, rfl, _⟩ := okWide_struct u4 (hval 4 63 v4 rfl rfl)
 obtain ⟨n5, rfl⟩ := okWide_int undU8 (hval 5 5 v5 rfl rfl)
 obtain ⟨n6, rfl⟩ := okWide_int undU8 (hval 6 5 v6 rfl rfl)
 obtain ⟨n7, rfl⟩ := okWide_int undU8 (hval 7 5 v7 rfl rfl)
 obtain ⟨x0, s0, r0, o0⟩ := trod_arg tysOk (n := 5) (by kernel_rfl) h0
 obtain ⟨x1, s1, r1, o1⟩ := trod_arg tysOk (n := 5) (by kernel_rfl) h1
 obtain ⟨x2, s2, r2, o2⟩ := trod_arg tysOk (n := 5) (by kernel_rfl) h2
 obtain ⟨x3, s3, r3, o3⟩ := trod_arg tysOk (n := 5) (by kernel_rfl) h3
 obtain ⟨x4, s4, r4, o4⟩ := trod_arg tysOk (n := 5) (by kernel_rfl) h4
 obtain ⟨x5, s5, r5, o5⟩ := trod_arg tysOk (n := 5) (by kernel_rfl) h5
 obtain ⟨x6, s6, r6, o6⟩ := trod_arg tysOk (n := 5) (by kernel_rfl) h6
 obtain ⟨x7, s7, r7, o7⟩ := trod_arg tysOk (n := 5) (by kernel_rfl) h7
 obtain ⟨d, rfl, hd⟩ := shpDraft s0
 obtain ⟨b, rfl, hb⟩ := shpBend s1
 obtain ⟨c, rfl, hc⟩ := shpBend s2
 obtain ⟨raw, rfl, hraw⟩ := shpData s3
 obtain ⟨cum, sk, rfl⟩ := shpFwd s4
 obtain ⟨m5, rfl, w5⟩ := Shp.int g5 s5
 obtain ⟨m6, rfl, w6⟩ := Shp.int g5 s6
 obtain ⟨m7, rfl, w7⟩ := Shp.int g5 s7
 have e5 : m5 = n5 := by
  simp only [VRl, VR, Value.cells] at r5
  obtain ⟨v, t, h, hv, _⟩ := r5
  subst hv
  simp at h; exact h.1.symm
 subst e5
 have e6 : m6 = n6 := by
  simp only [VRl, VR, Value.cells] at r6
  obtain ⟨v, t, h, hv, _⟩ := r6
  subst hv
  simp at h; exact h.1.symm
 subst e6
 have e7 : m7 = n7 := by
  simp only [VRl, VR, Value.cells] at r7
  obtain ⟨v, t, h, hv, _⟩ := r7
  subst hv
  simp at h; exact h.1.symm
 subst e7
 obtain ⟨a, rfl, ha⟩ := wf_u8 w5
 obtain ⟨k, rfl, hk⟩ := wf_u8 w6
 obtain ⟨bk, rfl, hbk⟩ := wf_u8 w7
 have hargs : VRl W (Zw W) Env.no [.agg d.row, .agg b.row, .agg c.row, .agg raw.row, .agg [.int .i64 cum, .fs 2 (sk.map kE)], .int .u8 a, .int .u8 k, .int .u8 bk] [.agg c0, .agg c1, .agg c2, .agg c3, .agg c4, .int .u8 a, .int .u8 k, .int .u8 bk] := by
  have e0 := vr_agg r0 o0
  have e1 := vr_agg r1 o1
  have e2 := vr_agg r2 o2
  have e3 := vr_agg r3 o3
  have e4 := vr_agg r4 o4
  simp only [VRl]
  exact ⟨_, _, rfl, e0, _, _, rfl, e1, _, _, rfl, e2, _, _, rfl, e3, _, _, rfl, e4, _, _, rfl, by simp only [VR], _, _, rfl, by simp only [VR], _, _, rfl, by simp only [VR], rfl⟩
 have hw := law_of_con (takesLaw_ok d hd b c hb hc raw cum sk a k bk ha hk hbk) hargs fn4 (by rfl) (by kernel_rfl)
 refine (hw).mono fun e W' ⟨he, hg⟩ => ?_
 subst he
 exact ⟨_, rfl, post_below hW' rfl (by kernel_rfl) undBool rfl rfl rfl laidOut (by rw [Tryz.params4]; simp only [List.mem_cons, List.not_mem_nil, or_false]; rintro t (rfl | rfl | rfl | rfl | rfl | rfl | rfl | rfl) <;> exact ⟨by kernel_rfl, of_decide_eq_true (by kernel_rfl)⟩) hg⟩
theorem streamsTakes : Rows.StreamsTakesSaid :=
 OpenClaim.holds_of_wide 4 Tryz.f4 rfl rfl rfl rfl rfl rfl rfl ⟨rfl, rfl, rfl, rfl, rfl⟩ rfl rfl rfl rfl rfl (by kernel_rfl) Tryz.func4 (by kernel_rfl)
  (of_decide_eq_true (by kernel_rfl)) (by unfold Func.isWrapper; rw [if_neg (of_decide_eq_false (by kernel_rfl))]; exact ⟨rfl, rfl⟩)
  (fun os started H enc _ => takes_lifted os started H enc)
#print axioms streamsTakes
end Go.Proofs.YtfhhbkehlfipgaaGreat
end
