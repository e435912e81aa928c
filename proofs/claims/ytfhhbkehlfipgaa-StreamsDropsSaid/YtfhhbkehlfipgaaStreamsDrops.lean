/- StreamsDrops: for every input the law returns true; each argument reads behind the call as it read before. -/
import Derived.Test.YtfhhbkehlfipgaaP13
import Derived.Test.YtfhhbkehlfipgaaP17
section
set_option linter.unusedSimpArgs false
set_option linter.unusedVariables false
set_option linter.unnecessarySimpa false
set_option linter.unusedSectionVars false
namespace Go.Proofs.Ytfhhbkehlfipgaa
open Go.ChangeShapes Go.WideShapes Go.ChangeAt Go.RowKit Go.Tx
set_option linter.unusedVariables false
set_option linter.unusedSimpArgs false
theorem fn8 : Try.prog.funcs[8]? = some Try.f8 := by kernel_rfl
theorem trodAll_five' {P : Program} {H : Type} {enc : TypeId × Value → H} {w : World} {base : Nat} {spare : TypeId → Bool} {held : Bool} {t t' t'' t3 t4 : TypeId} {args : Array Value} {ds : List (DataW H)} {ps : List MemPlace} (h : DataW.TrodAll enc P w base spare held [t, t', t'', t3, t4] args.toList ds ps) :
    ∃ v v' v'' v3 v4 d d' d'' d3 d4 p p' p'' p3 p4, args = #[v, v', v'', v3, v4] ∧ ds = [d, d', d'', d3, d4] ∧ ps = p ++ p' ++ p'' ++ p3 ++ p4 ∧ DataW.Trod enc P w base spare held t v d p ∧ DataW.Trod enc P w base spare held t' v' d' p' ∧ DataW.Trod enc P w base spare held t'' v'' d'' p'' ∧ DataW.Trod enc P w base spare held t3 v3 d3 p3 ∧ DataW.Trod enc P w base spare held t4 v4 d4 p4 := by
  obtain ⟨v, vs, d, ds', p, q, hargs, rfl, rfl, hd, hrest⟩ := trodAll_cons h
  obtain ⟨v', vs', d', ds'', p', q', rfl, rfl, rfl, hd', hrest'⟩ := trodAll_cons hrest
  obtain ⟨v'', vs'', d'', ds''', p'', q'', rfl, rfl, rfl, hd'', hrest''⟩ := trodAll_cons hrest'
  obtain ⟨v3, vs3, d3, ds4, p3, q3, rfl, rfl, rfl, hd3, hrest3⟩ := trodAll_cons hrest''
  obtain ⟨v4, vs4, d4, ds5, p4, q4, rfl, rfl, rfl, hd4, hrest4⟩ := trodAll_cons hrest3
  obtain ⟨rfl, rfl, rfl⟩ := trodAll_nil hrest4
  exact ⟨v, v', v'', v3, v4, d, d', d'', d3, d4, p, p', p'', p3, p4, by cases args; simp_all, rfl, by simp, hd, hd', hd'', hd3, hd4⟩
theorem vr_one {W : World} {Z : Nat → Prop} {E : Env} {x : PV} {v : Value} (h : VRl W Z E [x] [v]) : VR W Z E x v := by
  simp only [VRl] at h
  obtain ⟨_, _, e, h, _⟩ := h
  injection e with e1 e2
  subst e1
  exact h
theorem okWide_array {P : Program} {w : World} {r : Reach} {base : Nat} {t : TypeId} {v : Value} {n : Nat} {e : TypeId} (ht : P.underlying t = some (.array n e)) (h : Value.okWide P w r base t v) : ∃ cs, v = .agg cs := by
  simp only [Value.okWide, ht] at h
  obtain ⟨cs, h1, h2, _⟩ := h
  exact ⟨cs, h1⟩
theorem und80 : Try.prog.underlying 80 = some (.slice 85) := by kernel_rfl
theorem und31 : Try.prog.underlying 31 = some (.slice 3) := by kernel_rfl
theorem und26 : Try.prog.underlying 26 = some (.slice 5) := by kernel_rfl
theorem und82 : Try.prog.underlying 82 = some (.array 16 81) := by kernel_rfl
theorem wf_i8 {n : Int} (h : (Lit.int .i8 n).wf = true) : -128 ≤ n ∧ n < 128 := by
  have : -128 ≤ n ∧ n ≤ 127 := by simpa [Lit.wf, IntKind.min, IntKind.max, IntKind.signed, IntKind.bits] using h
  omega
theorem shp43 {n : Nat} {xs : List PV} (h : Shp tys (n + 2) 43 xs) : ∃ d : Dat, xs = d.row := by
  have h := Shp.struct g43 h
  simp only [List.foldr] at h
  obtain ⟨_, _, rfl, h1, _, _, rfl, h2, _, _, rfl, h3, _, _, rfl, h4, _, _, rfl, h5, _, _, rfl, h6, _, _, rfl, h7, _, _, rfl, h8, rfl⟩ := h
  obtain ⟨a1, rfl, _⟩ := Shp.int g3 h1
  obtain ⟨a2, rfl, _⟩ := Shp.int g3 h2
  obtain ⟨a3, rfl, _⟩ := Shp.int g3 h3
  obtain ⟨a4, rfl, _⟩ := Shp.int g3 h4
  obtain ⟨a5, rfl⟩ := Shp.bool g4 h5
  obtain ⟨a6, rfl⟩ := Shp.bool g4 h6
  obtain ⟨a7, rfl⟩ := Shp.bool g4 h7
  obtain ⟨a8, rfl, _⟩ := Shp.str g9 h8
  exact ⟨⟨a1, a2, a3, a4, a5, a6, a7, a8⟩, rfl⟩
theorem shp85 {n : Nat} {xs : List PV} (h : Shp tys (n + 3) 85 xs) : ∃ f : Fl, xs = f.row := by
  have h := Shp.struct g85 h
  simp only [List.foldr] at h
  obtain ⟨_, _, rfl, h1, _, _, rfl, h2, _, _, rfl, h3, _, _, rfl, h4, _, _, rfl, h5, _, _, rfl, h6, _, _, rfl, h7, rfl⟩ := h
  obtain ⟨d, rfl⟩ := shp43 h1
  obtain ⟨a2, rfl, _⟩ := Shp.int g3 h2
  obtain ⟨a3, rfl, _⟩ := Shp.int g3 h3
  obtain ⟨a4, rfl, _⟩ := Shp.int g3 h4
  obtain ⟨a5, rfl⟩ := Shp.bool g4 h5
  obtain ⟨a6, rfl⟩ := Shp.bool g4 h6
  obtain ⟨a7, rfl⟩ := Shp.bool g4 h7
  exact ⟨⟨d, a2, a3, a4, a5, a6, a7⟩, rfl⟩
theorem rows_of {α : Type} {p : List PV → Prop} {f : α → List PV} (hp : ∀ xs, p xs → ∃ a, xs = f a) : ∀ (rs : List (List PV)), (∀ r ∈ rs, p r) → ∃ l : List α, rs = l.map f
  | [], _ => ⟨[], rfl⟩
  | r :: rs, h => by
    obtain ⟨l, e⟩ := rows_of hp rs (fun x hx => h x (by simp [hx]))
    obtain ⟨a, ha⟩ := hp r (h r (by simp))
    exact ⟨a :: l, by rw [e, ha]; rfl⟩
theorem shp80 {n : Nat} {xs : List PV} (h : Shp tys (n + 4) 80 xs) : ∃ l : List Fl, xs = [.fs 14 (l.map Fl.row)] ∧ l.length ≤ maxLen := by
  obtain ⟨wd, rs, rfl, h1, h2, h3⟩ := Shp.slice g80 h
  rw [g85] at h2
  simp only [Option.map_some, Option.some.injEq] at h2
  subst h2
  obtain ⟨l, rfl⟩ := rows_of (fun xs => shp85) rs h3
  exact ⟨l, rfl, by simpa using h1⟩
theorem shp31 {n : Nat} {xs : List PV} (h : Shp tys (n + 2) 31 xs) : ∃ l : List Int, xs = [.fs 1 (l.map eI)] ∧ l.length ≤ maxLen := by
  obtain ⟨wd, rs, rfl, h1, h2, h3⟩ := Shp.slice g31 h
  rw [g3] at h2
  simp only [Option.map_some, Option.some.injEq] at h2
  subst h2
  obtain ⟨l, rfl⟩ := rows_of (f := eI) (fun xs hx => by obtain ⟨m, rfl, _⟩ := Shp.int g3 hx; exact ⟨m, rfl⟩) rs h3
  exact ⟨l, rfl, by simpa using h1⟩
theorem shp26 {n : Nat} {xs : List PV} (h : Shp tys (n + 2) 26 xs) : ∃ ks : List Nat, xs = [.fs 1 (ks.map oU)] ∧ ks.length ≤ maxLen ∧ ∀ k ∈ ks, k < 256 := by
  obtain ⟨wd, rs, rfl, h1, h2, h3⟩ := Shp.slice g26 h
  rw [g5] at h2
  simp only [Option.map_some, Option.some.injEq] at h2
  subst h2
  obtain ⟨ks, rfl, hk⟩ := order_of rs h3
  exact ⟨ks, rfl, by simpa using h1, hk⟩
theorem shpFew {n : Nat} : ∀ (k : List Nat) (xs : List PV), k.foldr (fun _ k ys => ∃ a b, ys = a ++ b ∧ Shp tys (n + 1) 81 a ∧ k b) (fun ys => ys = []) xs → ∃ l : List Int, xs = l.map e8 ∧ l.length = k.length ∧ ∀ x ∈ l, -128 ≤ x ∧ x < 128
  | [], xs, h => ⟨[], h, rfl, by simp⟩
  | _ :: k, xs, h => by
    obtain ⟨a, b, rfl, h1, h2⟩ := h
    obtain ⟨m, rfl, w⟩ := Shp.int g81 h1
    obtain ⟨l, rfl, h3, h4⟩ := shpFew k b h2
    refine ⟨m :: l, rfl, by simp [h3], fun x hx => ?_⟩
    rcases List.mem_cons.1 hx with rfl | hx
    · exact wf_i8 w
    · exact h4 x hx
theorem shp82 {n : Nat} {xs : List PV} (h : Shp tys (n + 2) 82 xs) : ∃ l : List Int, xs = l.map e8 ∧ l.length = 16 ∧ ∀ x ∈ l, -128 ≤ x ∧ x < 128 := by
  obtain ⟨l, h1, h2, h3⟩ := shpFew _ _ (Shp.array g82 h)
  exact ⟨l, h1, by simpa using h2, h3⟩
set_option maxRecDepth 100000 in
theorem drops_lifted (os : Os) (started : os.Started) (H : Type) (enc : TypeId × Value → H) :
    ReturnsInHanded {} Try.checked os 8 .any (Rows.streamsDropsSpec.pre6 enc Try.prog Try.f8 Rows.streamsDropsRow.domain false) (Rows.streamsDropsSpec.post enc Try.prog Try.f8 false true false false) := by
  refine returnsInHanded_of_change (C := Try.checked) ownK started (by kernel_rfl) Try.func8
    (ChangeSpec.witness6 (enc := enc) (C := Try.checked) false ⟨#[], #[.slice none 0 0, .slice none 0 0, .agg #[.int .u8 0, .int .u8 0, .int .u32 0, .int .u16 0, .int .u16 0, .slice none 0 0, .slice none 0 0], .slice none 0 0, .agg #[.int .i8 0, .int .i8 0, .int .i8 0, .int .i8 0, .int .i8 0, .int .i8 0, .int .i8 0, .int .i8 0, .int .i8 0, .int .i8 0, .int .i8 0, .int .i8 0, .int .i8 0, .int .i8 0, .int .i8 0, .int .i8 0]], []⟩ 8 (by kernel_rfl) (by kernel_rfl) (by kernel_rfl) (by kernel_rfl)) ?_
  intro W base args ds gs before hval0 hW hcnd _
  have hval : ∀ (j : Nat) t v, Try.f8.params[j]? = some t → args[j]? = some v → Value.okWide Try.prog W .any base t v := hval0
  have hW' := hW
  obtain ⟨p, q, hA0, hV, rfl, hfz, hnd⟩ := hW
  have hA : DataW.TrodAll enc Try.prog W 0 (fun _ => true) true Try.f8.params.toList args.toList ds p := hA0
  rw [Try.params8] at hA hval
  obtain ⟨v0, v1, v2, v3, v4, d0, d1, d2, d3, d4, p0, p1, p2, p3, p4, rfl, rfl, rfl, h0, h1, h2, h3, h4⟩ := trodAll_five' hA
  obtain ⟨rfl, rfl⟩ := trodVars_none hV
  clear hA0 hval0
  simp only [List.append_nil] at hW'
  obtain ⟨fs2, u2⟩ := undC0
  obtain ⟨a0, l0, c0, rfl⟩ := okWide_slice und80 (hval 0 80 v0 rfl rfl)
  obtain ⟨a1, l1, c1, rfl⟩ := okWide_slice und31 (hval 1 31 v1 rfl rfl)
  obtain ⟨c2, rfl, _⟩ := okWide_struct u2 (hval 2 28 v2 rfl rfl)
  obtain ⟨a3, l3, c3, rfl⟩ := okWide_slice und26 (hval 3 26 v3 rfl rfl)
  obtain ⟨c4, rfl⟩ := okWide_array und82 (hval 4 82 v4 rfl rfl)
  obtain ⟨x0, s0, r0, o0⟩ := trod_arg tysOk (n := 5) (by kernel_rfl) h0
  obtain ⟨x1, s1, r1, o1⟩ := trod_arg tysOk (n := 4) (by kernel_rfl) h1
  obtain ⟨x2, s2, r2, o2⟩ := trod_arg tysOk (n := 4) (by kernel_rfl) h2
  obtain ⟨x3, s3, r3, o3⟩ := trod_arg tysOk (n := 4) (by kernel_rfl) h3
  obtain ⟨x4, s4, r4, o4⟩ := trod_arg tysOk (n := 4) (by kernel_rfl) h4
  obtain ⟨raw, rfl, hraw⟩ := shp80 s0
  obtain ⟨lims, rfl, hlims⟩ := shp31 s1
  obtain ⟨o, i, f, a, b, ws, ks, rfl, ho, hi, hf, ha, hb, hws, hks, lw, lk⟩ := shp28w s2
  obtain ⟨marks, rfl, hml, hmk⟩ := shp26 s3
  obtain ⟨few, rfl, hfew, hfw⟩ := shp82 s4
  have hargs : VRl W (Zw W) Env.no [.fs 14 (raw.map Fl.row), .fs 1 (lims.map eI), .agg [.int .u8 o, .int .u8 i, .int .u32 f, .int .u16 a, .int .u16 b, .fs 4 (ws.map Wd.row), .fs 1 (ks.map oU)], .fs 1 (marks.map oU), .agg (few.map e8)] [.slice a0 l0 c0, .slice a1 l1 c1, .agg c2, .slice a3 l3 c3, .agg c4] := by
    have e0 := vr_one r0
    have e1 := vr_one r1
    have e2 := vr_agg r2 o2
    have e3 := vr_one r3
    have e4 := vr_agg r4 o4
    simp only [VRl]
    exact ⟨_, _, rfl, e0, _, _, rfl, e1, _, _, rfl, e2, _, _, rfl, e3, _, _, rfl, e4, rfl⟩
  have hw := law_of_con (dropsLaw_ok raw hraw lims hlims o i f hf a b ho hi (by omega) (by omega) (by omega) (by omega) ws hws lw ks marks hmk hml few hfew hfw) hargs fn8 (by rfl) (by kernel_rfl)
  refine (hw).mono fun e W' ⟨he, hg⟩ => ?_
  subst he
  exact ⟨_, rfl, post_below hW' rfl (by kernel_rfl) und4 rfl rfl rfl laidOut (by rw [Try.params8]; simp only [List.mem_cons, List.not_mem_nil, or_false]; rintro t (rfl | rfl | rfl | rfl | rfl) <;> exact ⟨by kernel_rfl, of_decide_eq_true (by kernel_rfl)⟩) hg⟩
theorem streamsDrops : Rows.StreamsDropsSaid :=
  OpenClaim.holds_of_wide 8 Try.f8 rfl rfl rfl rfl rfl rfl rfl ⟨rfl, rfl, rfl, rfl, rfl⟩ rfl rfl rfl rfl rfl (by kernel_rfl) Try.func8 (by kernel_rfl)
    (of_decide_eq_true (by kernel_rfl)) (by unfold Func.isWrapper; rw [if_neg (of_decide_eq_false (by kernel_rfl))]; exact ⟨rfl, rfl⟩)
    (fun os started H enc _ => drops_lifted os started H enc)
#print axioms streamsDrops
end Go.Proofs.Ytfhhbkehlfipgaa
end
