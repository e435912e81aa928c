/- ChunkKnown: for every input the law returns true; each argument reads behind the call asx it read before. -/
import Derived.Test.YtaacfnngodhecaaGreatDoorP17
import Derived.Test.YtaacfnngodhecaaGreatDoorP19
import Derived.Test.YtaacfnngodhecaaGreatDoorCards
import Derived.Test.YtaacfnngodhecaaGreatDoorTie
import Derived.SevenTiedAt
import Derived.Stop.Joined
set_option linter.all false
section
namespace Go.Proofs.YtaacfnngodhecaaGreatDoor
open Go.ChangeShapes Go.WideShapes Go.ChangeAt Go.RowKit Go.Tx
set_option maxRecDepth 100000
theorem fn9 : Tryz.prog.funcs[9]? = some Tryz.f9 := by kernel_rfl
theorem chunkKnown_lifted (os : Os) (started : os.Started) (H : Type) (enc : TypeId × Value → H) :
  ReturnsInHanded {} Tryz.checked os 9 .any (fun w args => (Rows.chunkKnownSpec.pre enc Tryz.prog Tryz.f9 Rows.chunkKnownRow.domain false w args ∧ laidMetH Tryz.prog Rows.chunkKnownRow.laid w) ∧ sizedMet enc Tryz.prog Tryz.f9 (OpenSpec.ofChange Rows.chunkKnownSpec) false w args)
   (Rows.chunkKnownSpec.post enc Tryz.prog Tryz.f9 false true false false) := by
 refine returnsInHanded_of_change_and (C := Tryz.checked) (X := fun w _ => laidMetH Tryz.prog Rows.chunkKnownRow.laid w) (fun _ _ _ hh h => h.of_heap hh) ownK32 started (by kernel_rfl) Tryz.func9
  (ChangeSpec.witness_shaped (enc := enc) (C := Tryz.checked) (os := os) (X := fun w _ => laidMetH Tryz.prog Rows.chunkKnownRow.laid w) false (World.laidAll Tryz.prog os Rows.chunkKnownRow.laid) #[] 9 (World.laidAll_os _ _ _)
   (World.shaped_of_ZipB (by kernel_rfl) (by kernel_rfl)) (by kernel_rfl) (by kernel_rfl) (by kernel_rfl)
   (by rw [MakeChecks.laidMetH_plain _ _ _ (by kernel_rfl)]; exact laidMet_laidAll _ (by kernel_rfl) (by kernel_rfl))) ?_
 intro W base args ds gs before hval0 hW hcnd _ _ _
 have hval : ∀ (j : Nat) t v, Tryz.f9.params[j]? = some t → args[j]? = some v → Value.okWide Tryz.prog W .any base t v := hval0
 have hW' := hW
 obtain ⟨p, q, hA0, hV, rfl, hfz, hnd⟩ := hW
 have hA : DataW.TrodAll enc Tryz.prog W 0 (fun _ => true) true Tryz.f9.params.toList args.toList ds p := hA0
 rw [Tryz.params9] at hA hval
 obtain ⟨hargs0, rfl, rfl⟩ := trodAll_nil hA
 have hae : args = #[] := by cases args; simp_all
 subst hae
 obtain ⟨rfl, rfl⟩ := trodVars_none hV
 clear hA0 hval0
 simp only [List.append_nil] at hW'
 have hargs : VRl W (Zw W) Env.no [] [] := by
  simp only [VRl]
 have hw := law_of_con (chunkKnown_law) hargs fn9 (by rfl) (by kernel_rfl)
 refine (hw).mono fun e W' ⟨he, hg⟩ => ?_
 subst he
 exact ⟨_, rfl, post_below hW' rfl (by kernel_rfl) undBool32 rfl rfl rfl laidOut32 (by rw [Tryz.params9]; simp only [List.not_mem_nil]; rintro t ht; exact ht.elim) hg⟩
theorem chunkKnownRow_holds : Rows.ChunkKnownSaid :=
 OpenClaim.holds_of_wide 9 Tryz.f9 rfl rfl rfl rfl rfl rfl rfl ⟨rfl, rfl, rfl, rfl, rfl⟩ rfl rfl rfl rfl rfl (by kernel_rfl) Tryz.func9 (by kernel_rfl)
  (of_decide_eq_true (by kernel_rfl)) (by unfold Func.isWrapper; rw [if_neg (of_decide_eq_false (by kernel_rfl))]; exact ⟨rfl, rfl⟩)
  (fun os started H enc _ => chunkKnown_lifted os started H enc)
theorem chunkKnown : Rows.ChunkKnownCardSaid :=
 Claim7.holds_tied_plain_at .later [] [.data, .pinned] true (true, "102b59b2478a4246669fa94a1afd9b08f71bb2222198bd3684d1f2344aa2ee43") true chunkKnownRow_holds (fun _ h => by cases h) (by kernel_rfl) (fun _ h => by cases h) chunkKnown_row_tie rfl ⟨rfl, rfl⟩ (by kernel_rfl) rfl
  (fun f fn hf hfn => by
   obtain rfl : f = 9 := Option.some.inj ((show Tryz.prog.funcNamed "tannoy/tannoylaw32.ChunkKnown" = some 9 by kernel_rfl).symm.trans hf) |>.symm
   obtain rfl : fn = Tryz.f9 := (Option.some.inj (Tryz.func9.symm.trans hfn)).symm
   exact ⟨by kernel_rfl, fun j t ht => by
    rw [Tryz.params9] at ht
    have hm : t ∈ [] := by simpa using Array.mem_of_getElem? ht
    have hall : ([].all fun u => !Tryz.prog.wantsStandIn u) = true := by kernel_rfl
    exact (show Tryz.prog.wantsStandIn t = false by simpa using List.all_eq_true.1 hall t hm)⟩)
  (by kernel_rfl)
#print axioms chunkKnown
end Go.Proofs.YtaacfnngodhecaaGreatDoor
end
