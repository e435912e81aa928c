/- ChunkBack: for every input the law returns true; each argument reads behind the call asx it read before. -/
import Derived.Test.YtaacfnngodhecaaGreatDoorP20
import Derived.Test.YtaacfnngodhecaaGreatDoorCards
import Derived.Test.YtaacfnngodhecaaGreatDoorTie
import Derived.SevenTiedAt
import Derived.Stop.Joined
set_option linter.all false
section
namespace Go.Proofs.YtaacfnngodhecaaGreatDoor
open Go.ChangeShapes Go.WideShapes Go.ChangeAt Go.RowKit Go.Tx
set_option maxRecDepth 100000
theorem fn7 : Tryz.prog.funcs[7]? = some Tryz.f7 := by kernel_rfl
theorem chunkBack_lifted (os : Os) (started : os.Started) (H : Type) (enc : TypeId × Value → H) :
  ReturnsInHanded {} Tryz.checked os 7 .any (fun w args => (Rows.chunkBackSpec.pre enc Tryz.prog Tryz.f7 Rows.chunkBackRow.domain false w args ∧ laidMetH Tryz.prog Rows.chunkBackRow.laid w) ∧ sizedMet enc Tryz.prog Tryz.f7 (OpenSpec.ofChange Rows.chunkBackSpec) false w args)
   (Rows.chunkBackSpec.post enc Tryz.prog Tryz.f7 false true false false) := by
 refine returnsInHanded_of_change_and (C := Tryz.checked) (X := fun w _ => laidMetH Tryz.prog Rows.chunkBackRow.laid w) (fun _ _ _ hh h => h.of_heap hh) ownK32 started (by kernel_rfl) Tryz.func7
  (ChangeSpec.witness_shaped (enc := enc) (C := Tryz.checked) (os := os) (X := fun w _ => laidMetH Tryz.prog Rows.chunkBackRow.laid w) false (World.laidAll Tryz.prog os Rows.chunkBackRow.laid) #[.agg #[.int .u16 0, .int .u16 0, .int .u32 0, .slice none 0 0], .agg #[.int .u16 0, .int .u16 0, .int .u32 0, .slice none 0 0]] 7 (World.laidAll_os _ _ _)
   (World.shaped_of_ZipB (by kernel_rfl) (by kernel_rfl)) (by kernel_rfl) (by kernel_rfl) (by kernel_rfl)
   (by rw [MakeChecks.laidMetH_plain _ _ _ (by kernel_rfl)]; exact laidMet_laidAll _ (by kernel_rfl) (by kernel_rfl))) ?_
 intro W base args ds gs before hval0 hW hcnd _ _ _
 have hval : ∀ (j : Nat) t v, Tryz.f7.params[j]? = some t → args[j]? = some v → Value.okWide Tryz.prog W .any base t v := hval0
 have hW' := hW
 obtain ⟨p, q, hA0, hV, rfl, hfz, hnd⟩ := hW
 have hA : DataW.TrodAll enc Tryz.prog W 0 (fun _ => true) true Tryz.f7.params.toList args.toList ds p := hA0
 rw [Tryz.params7] at hA hval
 obtain ⟨v0, v1, d0, d1, p0, p1, rfl, rfl, rfl, h0, h1⟩ := trodAll_two32 hA
 obtain ⟨rfl, rfl⟩ := trodVars_none hV
 clear hA0 hval0
 simp only [List.append_nil] at hW'
 obtain ⟨fs0, u0⟩ := undDraft32
 obtain ⟨w0, rfl, _⟩ := okWide_struct u0 (hval 0 29 v0 rfl rfl)
 obtain ⟨fs1, u1⟩ := undDraft32
 obtain ⟨w1, rfl, _⟩ := okWide_struct u1 (hval 1 29 v1 rfl rfl)
 obtain ⟨x0, s0, r0, o0⟩ := trod_arg tysOk (n := 7) (by kernel_rfl) h0
 obtain ⟨x1, s1, r1, o1⟩ := trod_arg tysOk (n := 7) (by kernel_rfl) h1
 obtain ⟨x0, rfl, m0⟩ := shpDraft32 s0
 obtain ⟨x1, rfl, m1⟩ := shpDraft32 s1
 have hargs : VRl W (Zw W) Env.no [.agg x0.row, .agg x1.row] [.agg w0, .agg w1] := by
  have e0 := vr_agg r0 o0
  have e1 := vr_agg r1 o1
  simp only [VRl]
  exact ⟨_, _, rfl, e0, _, _, rfl, e1, rfl⟩
 have hw := law_of_con (backLaw_ok x0 x1 m0 m1) hargs fn7 (by rfl) (by kernel_rfl)
 refine (hw).mono fun e W' ⟨he, hg⟩ => ?_
 subst he
 exact ⟨_, rfl, post_below hW' rfl (by kernel_rfl) undBool32 rfl rfl rfl laidOut32 (by rw [Tryz.params7]; simp only [List.mem_cons, List.not_mem_nil, or_false]; rintro t (rfl | rfl) <;> exact ⟨by kernel_rfl, of_decide_eq_true (by kernel_rfl)⟩) hg⟩
theorem chunkBackRow_holds : Rows.ChunkBackSaid :=
 OpenClaim.holds_of_wide 7 Tryz.f7 rfl rfl rfl rfl rfl rfl rfl ⟨rfl, rfl, rfl, rfl, rfl⟩ rfl rfl rfl rfl rfl (by kernel_rfl) Tryz.func7 (by kernel_rfl)
  (of_decide_eq_true (by kernel_rfl)) (by unfold Func.isWrapper; rw [if_neg (of_decide_eq_false (by kernel_rfl))]; exact ⟨rfl, rfl⟩)
  (fun os started H enc _ => chunkBack_lifted os started H enc)
theorem chunkBack : Rows.ChunkBackCardSaid :=
 Claim7.holds_tied_plain_at .later [] [.data, .pinned] true (true, "102b59b2478a4246669fa94a1afd9b08f71bb2222198bd3684d1f2344aa2ee43") true chunkBackRow_holds (fun _ h => by cases h) (by kernel_rfl) (fun _ h => by cases h) chunkBack_row_tie rfl ⟨rfl, rfl⟩ (by kernel_rfl) rfl
  (fun f fn hf hfn => by
   obtain rfl : f = 7 := Option.some.inj ((show Tryz.prog.funcNamed "tannoy/tannoylaw32.ChunkBack" = some 7 by kernel_rfl).symm.trans hf) |>.symm
   obtain rfl : fn = Tryz.f7 := (Option.some.inj (Tryz.func7.symm.trans hfn)).symm
   exact ⟨by kernel_rfl, fun j t ht => by
    rw [Tryz.params7] at ht
    have hm : t ∈ [29] := by simpa using Array.mem_of_getElem? ht
    have hall : ([29].all fun u => !Tryz.prog.wantsStandIn u) = true := by kernel_rfl
    exact (show Tryz.prog.wantsStandIn t = false by simpa using List.all_eq_true.1 hall t hm)⟩)
  (by kernel_rfl)
#print axioms chunkBack
end Go.Proofs.YtaacfnngodhecaaGreatDoor
end
