/- Lemmas for the walk: R5. -/
import Derived.Test.YtfhhbkehlfipgaaRxA
import Derived.Test.YtfhhbkehlfipgaaCxS
section
set_option linter.unusedSimpArgs false
set_option linter.unusedVariables false
set_option linter.unnecessarySimpa false
set_option linter.unusedSectionVars false
/- StreamsJoins: for every input the law returns true; each argument reads behind the call as it read before. -/
namespace Go.Proofs.Ytfhhbkehlfipgaa
open Go.ChangeShapes Go.WideShapes Go.ChangeAt Go.RowKit Go.Tx
set_option linter.unusedVariables false
set_option linter.unusedSimpArgs false
theorem fn5 : Try.prog.funcs[5]? = some Try.f5 := by kernel_rfl
theorem trodAll_one' {P : Program} {H : Type} {enc : TypeId × Value → H} {w : World} {base : Nat} {spare : TypeId → Bool} {held : Bool} {t : TypeId} {args : Array Value} {ds : List (DataW H)} {ps : List MemPlace} (h : DataW.TrodAll enc P w base spare held [t] args.toList ds ps) :
    ∃ v d p, args = #[v] ∧ ds = [d] ∧ ps = p ∧ DataW.Trod enc P w base spare held t v d p := by
  obtain ⟨v, vs, d, ds', p, q, hargs, rfl, rfl, hd, hrest⟩ := trodAll_cons h
  obtain ⟨rfl, rfl, rfl⟩ := trodAll_nil hrest
  exact ⟨v, d, p, by cases args; simp_all, rfl, by simp, hd⟩
theorem und5s : Try.prog.underlying 5 = some (.int .u8) := by kernel_rfl
theorem wf_u32s {n : Int} (h : (Lit.int .u32 n).wf = true) : ∃ k : Nat, n = k ∧ k < 4294967296 := by
  have : 0 ≤ n ∧ n ≤ 4294967295 := by simpa [Lit.wf, IntKind.min, IntKind.max, IntKind.signed, IntKind.bits] using h
  exact ⟨n.toNat, by omega, by omega⟩
theorem words_of {n : Nat} : ∀ (rs : List (List PV)), (∀ r ∈ rs, Shp tys (n + 2) 30 r) → ∃ ws : List Wd, rs = ws.map Wd.row ∧ ∀ w ∈ ws, w.ok
  | [], _ => ⟨[], rfl, by simp⟩
  | r :: l, h => by
    obtain ⟨ws, e, hw⟩ := words_of l (fun x hx => h x (by simp [hx]))
    obtain ⟨st, kd, sz, lo, rfl, h1, h2, h3⟩ := shp30 (h r (by simp))
    refine ⟨⟨st, kd, sz, lo⟩ :: ws, by rw [e]; rfl, fun w hw' => ?_⟩
    rcases List.mem_cons.1 hw' with rfl | hw'
    · exact ⟨h1, h2, h3⟩
    · exact hw w hw'
theorem order_of {n : Nat} : ∀ (rs : List (List PV)), (∀ r ∈ rs, Shp tys (n + 1) 5 r) → ∃ ks : List Nat, rs = ks.map oU ∧ ∀ k ∈ ks, k < 256
  | [], _ => ⟨[], rfl, by simp⟩
  | r :: l, h => by
    obtain ⟨ks, e, hk⟩ := order_of l (fun x hx => h x (by simp [hx]))
    obtain ⟨m, rfl, w⟩ := Shp.int g5 (h r (by simp))
    obtain ⟨k, rfl, hk'⟩ := wf_u8 w
    refine ⟨k :: ks, by rw [e]; rfl, fun x hx => ?_⟩
    rcases List.mem_cons.1 hx with rfl | hx
    · exact hk'
    · exact hk x hx
theorem shp28w {n : Nat} {xs : List PV} (h : Shp tys (n + 4) 28 xs) : ∃ (o i f : Nat) (a b : Nat) (ws : List Wd) (ks : List Nat), xs = [.int .u8 o, .int .u8 i, .int .u32 f, .int .u16 a, .int .u16 b, .fs 4 (ws.map Wd.row), .fs 1 (ks.map oU)] ∧ o < 256 ∧ i < 256 ∧ f < 4294967296 ∧ a < 65536 ∧ b < 65536 ∧ (∀ w ∈ ws, w.ok) ∧ (∀ k ∈ ks, k < 256) ∧ ws.length ≤ 9223372036854775807 ∧ ks.length ≤ 9223372036854775807 := by
  have h := Shp.struct g28 h
  simp only [List.foldr] at h
  obtain ⟨_, _, rfl, h1, _, _, rfl, h2, _, _, rfl, h3, _, _, rfl, h4, _, _, rfl, h5, _, _, rfl, h6, rfl⟩ := h
  obtain ⟨_, rfl, w1⟩ := Shp.int g5 h1
  obtain ⟨_, rfl, w2⟩ := Shp.int g5 h2
  obtain ⟨f, rfl, w3⟩ := Shp.int g22 h3
  obtain ⟨a, b, rfl, ba, bb⟩ := shp24 h4
  obtain ⟨wd, ws, rfl, l5, e5, s5⟩ := Shp.slice g25 h5
  obtain ⟨wd2, rs, rfl, l6, e6, s6⟩ := Shp.slice g26 h6
  rw [g30] at e5
  rw [g5] at e6
  simp only [Option.map_some, Option.some.injEq] at e5 e6
  subst e5; subst e6
  obtain ⟨W, rfl, hW⟩ := words_of ws s5
  obtain ⟨K, rfl, hK⟩ := order_of rs s6
  obtain ⟨a1, rfl, b1⟩ := wf_u8 w1
  obtain ⟨a2, rfl, b2⟩ := wf_u8 w2
  obtain ⟨a3, rfl, b3⟩ := wf_u32s w3
  simp only [List.length_map] at l5 l6
  exact ⟨a1, a2, a3, a, b, W, K, rfl, b1, b2, b3, ba, bb, hW, hK, l5, l6⟩
/-! ### The row -/
set_option maxRecDepth 100000 in
theorem joins_lifted (os : Os) (started : os.Started) (H : Type) (enc : TypeId × Value → H) :
    ReturnsInHanded {} Try.checked os 5 .any (Rows.streamsJoinsSpec.pre6 enc Try.prog Try.f5 Rows.streamsJoinsRow.domain false) (Rows.streamsJoinsSpec.post enc Try.prog Try.f5 false true false false) := by
  refine returnsInHanded_of_change (C := Try.checked) ownK started (by kernel_rfl) Try.func5
    (ChangeSpec.witness6 (enc := enc) (C := Try.checked) false ⟨#[], #[.agg #[.int .u8 0, .int .u8 0, .int .u32 0, .int .u16 0, .int .u16 0, .slice none 0 0, .slice none 0 0]], []⟩ 8 (by kernel_rfl) (by kernel_rfl) (by kernel_rfl) (by kernel_rfl)) ?_
  intro W base args ds gs before hval0 hW hcnd _
  have hval : ∀ (j : Nat) t v, Try.f5.params[j]? = some t → args[j]? = some v → Value.okWide Try.prog W .any base t v := hval0
  have hW' := hW
  obtain ⟨p, q, hA0, hV, rfl, hfz, hnd⟩ := hW
  have hA : DataW.TrodAll enc Try.prog W 0 (fun _ => true) true Try.f5.params.toList args.toList ds p := hA0
  rw [Try.params5] at hA hval
  obtain ⟨v0, d0, p0, rfl, rfl, rfl, h0⟩ := trodAll_one' hA
  obtain ⟨rfl, rfl⟩ := trodVars_none hV
  clear hA0 hval0
  simp only [List.append_nil] at hW'
  obtain ⟨fs0, u0⟩ := undC0
  obtain ⟨c0, rfl, _⟩ := okWide_struct u0 (hval 0 28 v0 rfl rfl)
  obtain ⟨x0, s0, r0, o0⟩ := trod_arg tysOk (n := 4) (by kernel_rfl) h0
  obtain ⟨o, i, f, a, b, ws, ks, rfl, ho, hi, hf, ha, hb, hws, hks, lw, lk⟩ := shp28w s0
  have hargs : VRl W (Zw W) Env.no [.agg [.int .u8 o, .int .u8 i, .int .u32 f, .int .u16 a, .int .u16 b, .fs 4 (ws.map Wd.row), .fs 1 (ks.map oU)]] [.agg c0] := by
    have e0 := vr_agg r0 o0
    simp only [VRl]
    exact ⟨_, _, rfl, e0, rfl⟩
  have hw := law_of_con (joinsLaw_ok o i f hf hi a b ws hws lw ks hks lk) hargs fn5 (by rfl) (by kernel_rfl)
  refine (hw).mono fun e W' ⟨he, hg⟩ => ?_
  subst he
  exact ⟨_, rfl, post_below hW' rfl (by kernel_rfl) und4 rfl rfl rfl laidOut (by rw [Try.params5]; simp only [List.mem_cons, List.not_mem_nil, or_false]; rintro t rfl; exact ⟨by kernel_rfl, of_decide_eq_true (by kernel_rfl)⟩) hg⟩
theorem streamsJoins : Rows.StreamsJoinsSaid :=
  OpenClaim.holds_of_wide 5 Try.f5 rfl rfl rfl rfl rfl rfl rfl ⟨rfl, rfl, rfl, rfl, rfl⟩ rfl rfl rfl rfl rfl (by kernel_rfl) Try.func5 (by kernel_rfl)
    (of_decide_eq_true (by kernel_rfl)) (by unfold Func.isWrapper; rw [if_neg (of_decide_eq_false (by kernel_rfl))]; exact ⟨rfl, rfl⟩)
    (fun os started H enc _ => joins_lifted os started H enc)
#print axioms streamsJoins
end Go.Proofs.Ytfhhbkehlfipgaa
end
