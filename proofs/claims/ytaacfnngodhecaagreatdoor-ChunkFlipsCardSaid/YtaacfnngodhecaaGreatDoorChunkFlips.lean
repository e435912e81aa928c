/- ChunkFlips: for every input the law returns true; each argument reads behind the call asx it read before. -/
import Derived.Test.YtaacfnngodhecaaGreatDoorP20
import Derived.Test.YtaacfnngodhecaaGreatDoorCards
import Derived.Test.YtaacfnngodhecaaGreatDoorTie
import Derived.SevenTiedAt
import Derived.Stop.Joined
set_option linter.all false
section
namespace Go.Proofs.YtaacfnngodhecaaGreatDoor
open Go.ChangeShapes Go.WideShapes Go.ChangeAt Go.RowKit Go.Tx
set_option maxRecDepth 100000
theorem fn5 : Tryz.prog.funcs[5]? = some Tryz.f5 := by kernel_rfl
theorem chunkFlips_lifted (os : Os) (started : os.Started) (H : Type) (enc : TypeId × Value → H) :
  ReturnsInHanded {} Tryz.checked os 5 .any (fun w args => (Rows.chunkFlipsSpec.pre enc Tryz.prog Tryz.f5 Rows.chunkFlipsRow.domain false w args ∧ laidMetH Tryz.prog Rows.chunkFlipsRow.laid w) ∧ sizedMet enc Tryz.prog Tryz.f5 (OpenSpec.ofChange Rows.chunkFlipsSpec) false w args)
   (Rows.chunkFlipsSpec.post enc Tryz.prog Tryz.f5 false true false false) := by
 refine returnsInHanded_of_change_and (C := Tryz.checked) (X := fun w _ => laidMetH Tryz.prog Rows.chunkFlipsRow.laid w) (fun _ _ _ hh h => h.of_heap hh) ownK32 started (by kernel_rfl) Tryz.func5
  (ChangeSpec.witness_shaped (enc := enc) (C := Tryz.checked) (os := os) (X := fun w _ => laidMetH Tryz.prog Rows.chunkFlipsRow.laid w) false (World.laidAll Tryz.prog os Rows.chunkFlipsRow.laid) #[.agg #[.int .u16 0, .int .u16 0, .int .u32 0, .slice none 0 0], .int .u16 0, .int .u32 0] 5 (World.laidAll_os _ _ _)
   (World.shaped_of_ZipB (by kernel_rfl) (by kernel_rfl)) (by kernel_rfl) (by kernel_rfl) (by kernel_rfl)
   (by rw [MakeChecks.laidMetH_plain _ _ _ (by kernel_rfl)]; exact laidMet_laidAll _ (by kernel_rfl) (by kernel_rfl))) ?_
 intro W base args ds gs before hval0 hW hcnd _ _ _
 have hval : ∀ (j : Nat) t v, Tryz.f5.params[j]? = some t → args[j]? = some v → Value.okWide Tryz.prog W .any base t v := hval0
 have hW' := hW
 obtain ⟨p, q, hA0, hV, rfl, hfz, hnd⟩ := hW
 have hA : DataW.TrodAll enc Tryz.prog W 0 (fun _ => true) true Tryz.f5.params.toList args.toList ds p := hA0
 rw [Tryz.params5] at hA hval
 obtain ⟨v0, v1, v2, d0, d1, d2, p0, p1, p2, rfl, rfl, rfl, h0, h1, h2⟩ := trodAll_three32 hA
 obtain ⟨rfl, rfl⟩ := trodVars_none hV
 clear hA0 hval0
 simp only [List.append_nil] at hW'
 obtain ⟨fs0, u0⟩ := undDraft32
 obtain ⟨w0, rfl, _⟩ := okWide_struct u0 (hval 0 29 v0 rfl rfl)
 obtain ⟨w1, rfl⟩ := okWide_int undU16_32 (hval 1 25 v1 rfl rfl)
 obtain ⟨w2, rfl⟩ := okWide_int undU32_32 (hval 2 26 v2 rfl rfl)
 obtain ⟨x0, s0, r0, o0⟩ := trod_arg tysOk (n := 7) (by kernel_rfl) h0
 obtain ⟨x1, s1, r1, o1⟩ := trod_arg tysOk (n := 7) (by kernel_rfl) h1
 obtain ⟨x2, s2, r2, o2⟩ := trod_arg tysOk (n := 7) (by kernel_rfl) h2
 obtain ⟨x0, rfl, m0⟩ := shpDraft32 s0
 obtain ⟨m1, rfl, y1⟩ := Shp.int g25 s1
 have e1 : m1 = w1 := by
  simp only [VRl, VR, Value.cells] at r1
  obtain ⟨v, t, h, hv, _⟩ := r1
  subst hv
  simp at h; exact h.1.symm
 subst e1
 obtain ⟨b1, rfl, q1⟩ := wf16 y1
 obtain ⟨m2, rfl, y2⟩ := Shp.int g26 s2
 have e2 : m2 = w2 := by
  simp only [VRl, VR, Value.cells] at r2
  obtain ⟨v, t, h, hv, _⟩ := r2
  subst hv
  simp at h; exact h.1.symm
 subst e2
 obtain ⟨b2, rfl, q2⟩ := wf32 y2
 have hargs : VRl W (Zw W) Env.no [.agg x0.row, .int .u16 b1, .int .u32 b2] [.agg w0, .int .u16 b1, .int .u32 b2] := by
  have e0 := vr_agg r0 o0
  simp only [VRl]
  exact ⟨_, _, rfl, e0, _, _, rfl, by simp only [VR], _, _, rfl, by simp only [VR], rfl⟩
 have hw := law_of_con (flipsLaw_ok x0 b1 b2 m0 q1 q2) hargs fn5 (by rfl) (by kernel_rfl)
 refine (hw).mono fun e W' ⟨he, hg⟩ => ?_
 subst he
 exact ⟨_, rfl, post_below hW' rfl (by kernel_rfl) undBool32 rfl rfl rfl laidOut32 (by rw [Tryz.params5]; simp only [List.mem_cons, List.not_mem_nil, or_false]; rintro t (rfl | rfl | rfl) <;> exact ⟨by kernel_rfl, of_decide_eq_true (by kernel_rfl)⟩) hg⟩
theorem chunkFlipsRow_holds : Rows.ChunkFlipsSaid :=
 OpenClaim.holds_of_wide 5 Tryz.f5 rfl rfl rfl rfl rfl rfl rfl ⟨rfl, rfl, rfl, rfl, rfl⟩ rfl rfl rfl rfl rfl (by kernel_rfl) Tryz.func5 (by kernel_rfl)
  (of_decide_eq_true (by kernel_rfl)) (by unfold Func.isWrapper; rw [if_neg (of_decide_eq_false (by kernel_rfl))]; exact ⟨rfl, rfl⟩)
  (fun os started H enc _ => chunkFlips_lifted os started H enc)
theorem chunkFlips : Rows.ChunkFlipsCardSaid :=
 Claim7.holds_tied_plain_at .later [] [.data, .pinned] true (true, "102b59b2478a4246669fa94a1afd9b08f71bb2222198bd3684d1f2344aa2ee43") true chunkFlipsRow_holds (fun _ h => by cases h) (by kernel_rfl) (fun _ h => by cases h) chunkFlips_row_tie rfl ⟨rfl, rfl⟩ (by kernel_rfl) rfl
  (fun f fn hf hfn => by
   obtain rfl : f = 5 := Option.some.inj ((show Tryz.prog.funcNamed "tannoy/tannoylaw32.ChunkFlips" = some 5 by kernel_rfl).symm.trans hf) |>.symm
   obtain rfl : fn = Tryz.f5 := (Option.some.inj (Tryz.func5.symm.trans hfn)).symm
   exact ⟨by kernel_rfl, fun j t ht => by
    rw [Tryz.params5] at ht
    have hm : t ∈ [29, 25, 26] := by simpa using Array.mem_of_getElem? ht
    have hall : ([29, 25, 26].all fun u => !Tryz.prog.wantsStandIn u) = true := by kernel_rfl
    exact (show Tryz.prog.wantsStandIn t = false by simpa using List.all_eq_true.1 hall t hm)⟩)
  (by kernel_rfl)
#print axioms chunkFlips
end Go.Proofs.YtaacfnngodhecaaGreatDoor
end
