/- ChunkGot: for every input the law returns true; each argument reads behind the call as it read before. -/
import Derived.Test.YtaacfnngodhecaaGreatDoorP19
import Derived.Test.YtaacfnngodhecaaGreatDoorP20
import Derived.Test.YtaacfnngodhecaaGreatDoorCards
import Derived.Test.YtaacfnngodhecaaGreatDoorTie
import Derived.SevenTiedAt
import Derived.Stop.Joined
set_option linter.all false
section
namespace Go.Proofs.YtaacfnngodhecaaGreatDoor
open Go.ChangeShapes Go.WideShapes Go.ChangeAt Go.RowKit Go.Tx
set_option maxRecDepth 100000
theorem fn8 : Tryz.prog.funcs[8]? = some Tryz.f8 := by kernel_rfl
theorem got_lifted (os : Os) (started : os.Started) (H : Type) (enc : TypeId × Value → H) :
  ReturnsInHanded {} Tryz.checked os 8 .any (fun w args => (Rows.chunkGotSpec.pre enc Tryz.prog Tryz.f8 Rows.chunkGotRow.domain false w args ∧ laidMetH Tryz.prog Rows.chunkGotRow.laid w) ∧ sizedMet enc Tryz.prog Tryz.f8 (OpenSpec.ofChange Rows.chunkGotSpec) false w args)
   (Rows.chunkGotSpec.post enc Tryz.prog Tryz.f8 false true false false) := by
 refine returnsInHanded_of_change_and (C := Tryz.checked) (X := fun w _ => laidMetH Tryz.prog Rows.chunkGotRow.laid w) (fun _ _ _ hh h => h.of_heap hh) ownK32 started (by kernel_rfl) Tryz.func8
  (ChangeSpec.witness_shaped (enc := enc) (C := Tryz.checked) (os := os) (X := fun w _ => laidMetH Tryz.prog Rows.chunkGotRow.laid w) false (World.laidAll Tryz.prog os Rows.chunkGotRow.laid) #[.agg #[.int .u8 0, .int .u32 0, .int .u32 0, .int .u32 0, .int .u32 0, .slice none 0 0, .string ⟨#[]⟩]] 8 (World.laidAll_os _ _ _)
   (World.shaped_of_ZipB (by kernel_rfl) (by kernel_rfl)) (by kernel_rfl) (by kernel_rfl) (by kernel_rfl)
   (by rw [MakeChecks.laidMetH_plain _ _ _ (by kernel_rfl)]; exact laidMet_laidAll _ (by kernel_rfl) (by kernel_rfl))) ?_
 intro W base args ds gs before hval0 hW hcnd _ _ _
 have hval : ∀ (j : Nat) t v, Tryz.f8.params[j]? = some t → args[j]? = some v → Value.okWide Tryz.prog W .any base t v := hval0
 have hW' := hW
 obtain ⟨p, q, hA0, hV, rfl, hfz, hnd⟩ := hW
 have hA : DataW.TrodAll enc Tryz.prog W 0 (fun _ => true) true Tryz.f8.params.toList args.toList ds p := hA0
 rw [Tryz.params8] at hA hval
 obtain ⟨v0, d0, rfl, rfl, h0⟩ := trodAll_one hA
 obtain ⟨rfl, rfl⟩ := trodVars_none hV
 clear hA0 hval0
 simp only [List.append_nil] at hW'
 obtain ⟨fs0, u0⟩ := undPiece
 obtain ⟨c0, rfl, _⟩ := okWide_struct u0 (hval 0 65 v0 rfl rfl)
 obtain ⟨x0, s0, r0, o0⟩ := trod_arg tysOk (n := 5) (by kernel_rfl) h0
 obtain ⟨pc, rfl, hpc⟩ := shpPiece s0
 have hargs : VRl W (Zw W) Env.no [.agg pc.row] [.agg c0] := by
  have e0 := vr_agg r0 o0
  simp only [VRl]
  exact ⟨_, _, rfl, e0, rfl⟩
 have hw := law_of_con (gotLaw_ok pc hpc) hargs fn8 (by rfl) (by kernel_rfl)
 refine (hw).mono fun e W' ⟨he, hg⟩ => ?_
 subst he
 exact ⟨_, rfl, post_below hW' rfl (by kernel_rfl) undBool32 rfl rfl rfl laidOut32 (by rw [Tryz.params8]; simp only [List.mem_cons, List.not_mem_nil, or_false]; rintro t rfl; exact ⟨by kernel_rfl, of_decide_eq_true (by kernel_rfl)⟩) hg⟩
theorem chunkGotRow_holds : Rows.ChunkGotSaid :=
 OpenClaim.holds_of_wide 8 Tryz.f8 rfl rfl rfl rfl rfl rfl rfl ⟨rfl, rfl, rfl, rfl, rfl⟩ rfl rfl rfl rfl rfl (by kernel_rfl) Tryz.func8 (by kernel_rfl)
  (of_decide_eq_true (by kernel_rfl)) (by unfold Func.isWrapper; rw [if_neg (of_decide_eq_false (by kernel_rfl))]; exact ⟨rfl, rfl⟩)
  (fun os started H enc _ => got_lifted os started H enc)
theorem chunkGot : Rows.ChunkGotCardSaid :=
 Claim7.holds_tied_plain_at .later [] [.data, .pinned] true (true, "102b59b2478a4246669fa94a1afd9b08f71bb2222198bd3684d1f2344aa2ee43") true chunkGotRow_holds (fun _ h => by cases h) (by kernel_rfl) (fun _ h => by cases h) chunkGot_row_tie rfl ⟨rfl, rfl⟩ (by kernel_rfl) rfl
  (fun f fn hf hfn => by
   obtain rfl : f = 8 := Option.some.inj ((show Tryz.prog.funcNamed "tannoy/tannoylaw32.ChunkGot" = some 8 by kernel_rfl).symm.trans hf) |>.symm
   obtain rfl : fn = Tryz.f8 := (Option.some.inj (Tryz.func8.symm.trans hfn)).symm
   exact ⟨by kernel_rfl, fun j t ht => by
    rw [Tryz.params8] at ht
    have hm : t ∈ [65] := by simpa using Array.mem_of_getElem? ht
    have hall : ([65].all fun u => !Tryz.prog.wantsStandIn u) = true := by kernel_rfl
    exact (show Tryz.prog.wantsStandIn t = false by simpa using List.all_eq_true.1 hall t hm)⟩)
  (by kernel_rfl)
#print axioms chunkGot
end Go.Proofs.YtaacfnngodhecaaGreatDoor
end
