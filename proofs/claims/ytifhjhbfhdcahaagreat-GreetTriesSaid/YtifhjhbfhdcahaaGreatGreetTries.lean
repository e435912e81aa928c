/- GreetTries: for every input the law returns true; each argument reads behind the call asx it read before. -/
import Derived.Test.YtifhjhbfhdcahaaGreatP24
set_option linter.all false
section
namespace Go.Proofs.YtifhjhbfhdcahaaGreat
open Go.ChangeShapes Go.WideShapes Go.ChangeAt Go.RowKit Go.Tx
set_option maxRecDepth 100000
theorem fn5 : Tryz.prog.funcs[5]? = some Tryz.f5 := by kernel_rfl
theorem okWide_array {P : Program} {w : World} {r : Reach} {base : Nat} {t : TypeId} {v : Value} {n : Nat} {e : TypeId} (ht : P.underlying t = some (.array n e)) (h : Value.okWide P w r base t v) : ∃ cs, v = .agg cs := by
 simp only [Value.okWide, ht] at h
 obtain ⟨cs, h1, h2, _⟩ := h
 exact ⟨cs, h1⟩
theorem trodAll_twoG {P : Program} {H : Type} {enc : TypeId × Value → H} {w : World} {base : Nat} {spare : TypeId → Bool} {held : Bool} {t0 t1 : TypeId} {args : Array Value} {ds : List (DataW H)} {ps : List MemPlace} (h : DataW.TrodAll enc P w base spare held [t0, t1] args.toList ds ps) :
  ∃ v0 v1 d0 d1 p0 p1, args = #[v0, v1] ∧ ds = [d0, d1] ∧ ps = p0 ++ p1 ∧ DataW.Trod enc P w base spare held t0 v0 d0 p0 ∧ DataW.Trod enc P w base spare held t1 v1 d1 p1 := by
 obtain ⟨v0, vs0, d0, ds0, p0, q0, hargs, rfl, rfl, hd0, h⟩ := trodAll_cons h
 obtain ⟨v1, vs1, d1, ds1, p1, q1, rfl, rfl, rfl, hd1, h⟩ := trodAll_cons h
 obtain ⟨rfl, rfl, rfl⟩ := trodAll_nil h
 exact ⟨v0, v1, d0, d1, p0, p1, by cases args; simp_all, rfl, by simp, hd0, hd1⟩
theorem tries_lifted (os : Os) (started : os.Started) (H : Type) (enc : TypeId × Value → H) :
  ReturnsInHanded {} Tryz.checked os 5 .any (Rows.greetTriesSpec.pre6 enc Tryz.prog Tryz.f5 Rows.greetTriesRow.domain false) (Rows.greetTriesSpec.post enc Tryz.prog Tryz.f5 false true false false) := by
 refine returnsInHanded_of_change (C := Tryz.checked) ownK32 started (by kernel_rfl) Tryz.func5
  (ChangeSpec.witness6 (enc := enc) (C := Tryz.checked) false ⟨#[], #[.int .u16 0, .agg #[.int .u8 0, .int .u8 0, .int .u8 0, .int .u8 0, .int .u8 0, .int .u8 0, .int .u8 0, .int .u8 0]], []⟩ 5 (by kernel_rfl) (by kernel_rfl) (by kernel_rfl) (by kernel_rfl)) ?_
 intro W base args ds gs before hval0 hW hcnd _
 have hval : ∀ (j : Nat) t v, Tryz.f5.params[j]? = some t → args[j]? = some v → Value.okWide Tryz.prog W .any base t v := hval0
 have hW' := hW
 obtain ⟨p, q, hA0, hV, rfl, hfz, hnd⟩ := hW
 have hA : DataW.TrodAll enc Tryz.prog W 0 (fun _ => true) true Tryz.f5.params.toList args.toList ds p := hA0
 rw [Tryz.params5] at hA hval
 obtain ⟨v0, v1, d0, d1, p0, p1, rfl, rfl, rfl, h0, h1⟩ := trodAll_twoG hA
 obtain ⟨rfl, rfl⟩ := trodVars_none hV
 clear hA0 hval0
 simp only [List.append_nil] at hW'
 obtain ⟨n0, rfl⟩ := okWide_int undU16g (hval 0 22 v0 rfl rfl)
 obtain ⟨c1, rfl⟩ := okWide_array undArr8 (hval 1 43 v1 rfl rfl)
 obtain ⟨x0, s0, r0, o0⟩ := trod_arg tysOk (n := 5) (by kernel_rfl) h0
 obtain ⟨x1, s1, r1, o1⟩ := trod_arg tysOk (n := 5) (by kernel_rfl) h1
 obtain ⟨m0, rfl, w0⟩ := Shp.int g22 s0
 obtain ⟨lt, rfl, hl⟩ := shpB8 s1
 have e0 : m0 = n0 := by
  simp only [VRl, VR, Value.cells] at r0
  obtain ⟨v, t, h, hv, _⟩ := r0
  subst hv
  simp at h; exact h.1.symm
 subst e0
 obtain ⟨st, rfl, hst⟩ := wf16 w0
 have hargs : VRl W (Zw W) Env.no [.int .u16 st, .agg (lt.map u8V)] [.int .u16 st, .agg c1] := by
  have e1 := vr_agg r1 o1
  simp only [VRl]
  exact ⟨_, _, rfl, by simp only [VR], _, _, rfl, e1, rfl⟩
 have hw := law_of_con (lTries_ok st hst lt hl) hargs fn5 (by rfl) (by kernel_rfl)
 refine (hw).mono fun e W' ⟨he, hg⟩ => ?_
 subst he
 exact ⟨_, rfl, post_below hW' rfl (by kernel_rfl) undBool32 rfl rfl rfl laidOut32 (by rw [Tryz.params5]; simp only [List.mem_cons, List.not_mem_nil, or_false]; rintro t (rfl | rfl) <;> exact ⟨by kernel_rfl, of_decide_eq_true (by kernel_rfl)⟩) hg⟩
theorem greetTries : Rows.GreetTriesSaid :=
 OpenClaim.holds_of_wide 5 Tryz.f5 rfl rfl rfl rfl rfl rfl rfl ⟨rfl, rfl, rfl, rfl, rfl⟩ rfl rfl rfl rfl rfl (by kernel_rfl) Tryz.func5 (by kernel_rfl)
  (of_decide_eq_true (by kernel_rfl)) (by unfold Func.isWrapper; rw [if_neg (of_decide_eq_false (by kernel_rfl))]; exact ⟨rfl, rfl⟩)
  (fun os started H enc _ => tries_lifted os started H enc)
#print axioms greetTries
end Go.Proofs.YtifhjhbfhdcahaaGreat
end
