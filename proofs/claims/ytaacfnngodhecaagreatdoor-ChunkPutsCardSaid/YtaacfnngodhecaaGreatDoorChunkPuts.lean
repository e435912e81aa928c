/- ChunkPuts: for every input the law returns true; each argument reads behind the call asx it read before. -/
import Derived.Test.YtaacfnngodhecaaGreatDoorP18
import Derived.Test.YtaacfnngodhecaaGreatDoorP20
import Derived.Test.YtaacfnngodhecaaGreatDoorCards
import Derived.Test.YtaacfnngodhecaaGreatDoorTie
import Derived.SevenTiedAt
import Derived.Stop.Joined
set_option linter.all false
section
namespace Go.Proofs.YtaacfnngodhecaaGreatDoor
open Go.ChangeShapes Go.WideShapes Go.ChangeAt Go.RowKit Go.Tx
set_option maxRecDepth 100000
theorem fn4 : Tryz.prog.funcs[4]? = some Tryz.f4 := by kernel_rfl
theorem chunkPuts_lifted (os : Os) (started : os.Started) (H : Type) (enc : TypeId × Value → H) :
  ReturnsInHanded {} Tryz.checked os 4 .any (fun w args => (Rows.chunkPutsSpec.pre enc Tryz.prog Tryz.f4 Rows.chunkPutsRow.domain false w args ∧ laidMetH Tryz.prog Rows.chunkPutsRow.laid w) ∧ sizedMet enc Tryz.prog Tryz.f4 (OpenSpec.ofChange Rows.chunkPutsSpec) false w args)
   (Rows.chunkPutsSpec.post enc Tryz.prog Tryz.f4 false true false false) := by
 refine returnsInHanded_of_change_and (C := Tryz.checked) (X := fun w _ => laidMetH Tryz.prog Rows.chunkPutsRow.laid w) (fun _ _ _ hh h => h.of_heap hh) ownK32 started (by kernel_rfl) Tryz.func4
  (ChangeSpec.witness_shaped (enc := enc) (C := Tryz.checked) (os := os) (X := fun w _ => laidMetH Tryz.prog Rows.chunkPutsRow.laid w) false (World.laidAll Tryz.prog os Rows.chunkPutsRow.laid) #[.agg #[.int .i64 0, .int .i64 0, .int .i64 0, .int .i64 0, .bool false, .bool false, .bool false, .string ⟨#[]⟩], .agg #[.int .i64 0, .int .i64 0, .slice none 0 0, .slice none 0 0], .agg #[.int .i64 0, .int .i64 0, .int .i64 0, .int .i64 0, .int .i64 0, .string ⟨#[]⟩], .agg #[.int .i64 0, .slice none 0 0], .agg #[.int .i64 0, .int .i64 0, .int .i64 0, .int .i64 0, .slice none 0 0], .agg #[.int .u8 0, .int .u32 0, .int .u32 0, .int .u32 0, .int .u32 0, .slice none 0 0, .string ⟨#[]⟩]] 4 (World.laidAll_os _ _ _)
   (World.shaped_of_ZipB (by kernel_rfl) (by kernel_rfl)) (by kernel_rfl) (by kernel_rfl) (by kernel_rfl)
   (by rw [MakeChecks.laidMetH_plain _ _ _ (by kernel_rfl)]; exact laidMet_laidAll _ (by kernel_rfl) (by kernel_rfl))) ?_
 intro W base args ds gs before hval0 hW hcnd _ _ _
 have hval : ∀ (j : Nat) t v, Tryz.f4.params[j]? = some t → args[j]? = some v → Value.okWide Tryz.prog W .any base t v := hval0
 have hW' := hW
 obtain ⟨p, q, hA0, hV, rfl, hfz, hnd⟩ := hW
 have hA : DataW.TrodAll enc Tryz.prog W 0 (fun _ => true) true Tryz.f4.params.toList args.toList ds p := hA0
 rw [Tryz.params4] at hA hval
 obtain ⟨v0, v1, v2, v3, v4, v5, d0, d1, d2, d3, d4, d5, p0, p1, p2, p3, p4, p5, rfl, rfl, rfl, h0, h1, h2, h3, h4, h5⟩ := trodAll_six hA
 obtain ⟨rfl, rfl⟩ := trodVars_none hV
 clear hA0 hval0
 simp only [List.append_nil] at hW'
 obtain ⟨fs0, u0⟩ := undData32
 obtain ⟨w0, rfl, _⟩ := okWide_struct u0 (hval 0 51 v0 rfl rfl)
 obtain ⟨fs1, u1⟩ := undSack32
 obtain ⟨w1, rfl, _⟩ := okWide_struct u1 (hval 1 55 v1 rfl rfl)
 obtain ⟨fs2, u2⟩ := undInit32
 obtain ⟨w2, rfl, _⟩ := okWide_struct u2 (hval 2 57 v2 rfl rfl)
 obtain ⟨fs3, u3⟩ := undForward32
 obtain ⟨w3, rfl, _⟩ := okWide_struct u3 (hval 3 59 v3 rfl rfl)
 obtain ⟨fs4, u4⟩ := undReset32
 obtain ⟨w4, rfl, _⟩ := okWide_struct u4 (hval 4 61 v4 rfl rfl)
 obtain ⟨fs5, u5⟩ := undPiece
 obtain ⟨w5, rfl, _⟩ := okWide_struct u5 (hval 5 65 v5 rfl rfl)
 obtain ⟨x0, s0, r0, o0⟩ := trod_arg tysOk (n := 5) (by kernel_rfl) h0
 obtain ⟨x1, s1, r1, o1⟩ := trod_arg tysOk (n := 5) (by kernel_rfl) h1
 obtain ⟨x2, s2, r2, o2⟩ := trod_arg tysOk (n := 5) (by kernel_rfl) h2
 obtain ⟨x3, s3, r3, o3⟩ := trod_arg tysOk (n := 5) (by kernel_rfl) h3
 obtain ⟨x4, s4, r4, o4⟩ := trod_arg tysOk (n := 5) (by kernel_rfl) h4
 obtain ⟨x5, s5, r5, o5⟩ := trod_arg tysOk (n := 5) (by kernel_rfl) h5
 obtain ⟨x0, rfl, m0⟩ := shpData32 s0
 obtain ⟨a1, b1, c1, e1, rfl, m1, l1⟩ := shpSack32 s1
 obtain ⟨x2, rfl, m2⟩ := shpInit32 s2
 obtain ⟨a3, b3, rfl, m3⟩ := shpForward32 s3
 obtain ⟨a4, b4, c4, e4, f4, rfl, m4⟩ := shpReset32 s4
 obtain ⟨x5, rfl, m5⟩ := shpPiece s5
 have hargs : VRl W (Zw W) Env.no [.agg x0.row, sackP a1 b1 c1 e1, .agg x2.row, fwdP a3 b3, rstP a4 b4 c4 e4 (.fs 1 (f4.map eI)), .agg x5.row] [.agg w0, .agg w1, .agg w2, .agg w3, .agg w4, .agg w5] := by
  have e0 := vr_agg r0 o0
  have e1 := vr_agg r1 o1
  have e2 := vr_agg r2 o2
  have e3 := vr_agg r3 o3
  have e4 := vr_agg r4 o4
  have e5 := vr_agg r5 o5
  simp only [VRl]
  exact ⟨_, _, rfl, e0, _, _, rfl, e1, _, _, rfl, e2, _, _, rfl, e3, _, _, rfl, e4, _, _, rfl, e5, rfl⟩
 have hw := law_of_con (putsLaw_ok x0 a1 b1 c1 e1 x2 a3 b3 a4 b4 c4 e4 f4 x5 m5 m0 m2 m1 l1 m3 m4) hargs fn4 (by rfl) (by kernel_rfl)
 refine (hw).mono fun e W' ⟨he, hg⟩ => ?_
 subst he
 exact ⟨_, rfl, post_below hW' rfl (by kernel_rfl) undBool32 rfl rfl rfl laidOut32 (by rw [Tryz.params4]; simp only [List.mem_cons, List.not_mem_nil, or_false]; rintro t (rfl | rfl | rfl | rfl | rfl | rfl) <;> exact ⟨by kernel_rfl, of_decide_eq_true (by kernel_rfl)⟩) hg⟩
theorem chunkPutsRow_holds : Rows.ChunkPutsSaid :=
 OpenClaim.holds_of_wide 4 Tryz.f4 rfl rfl rfl rfl rfl rfl rfl ⟨rfl, rfl, rfl, rfl, rfl⟩ rfl rfl rfl rfl rfl (by kernel_rfl) Tryz.func4 (by kernel_rfl)
  (of_decide_eq_true (by kernel_rfl)) (by unfold Func.isWrapper; rw [if_neg (of_decide_eq_false (by kernel_rfl))]; exact ⟨rfl, rfl⟩)
  (fun os started H enc _ => chunkPuts_lifted os started H enc)
theorem chunkPuts : Rows.ChunkPutsCardSaid :=
 Claim7.holds_tied_plain_at .later [] [.data, .pinned] true (true, "102b59b2478a4246669fa94a1afd9b08f71bb2222198bd3684d1f2344aa2ee43") true chunkPutsRow_holds (fun _ h => by cases h) (by kernel_rfl) (fun _ h => by cases h) chunkPuts_row_tie rfl ⟨rfl, rfl⟩ (by kernel_rfl) rfl
  (fun f fn hf hfn => by
   obtain rfl : f = 4 := Option.some.inj ((show Tryz.prog.funcNamed "tannoy/tannoylaw32.ChunkPuts" = some 4 by kernel_rfl).symm.trans hf) |>.symm
   obtain rfl : fn = Tryz.f4 := (Option.some.inj (Tryz.func4.symm.trans hfn)).symm
   exact ⟨by kernel_rfl, fun j t ht => by
    rw [Tryz.params4] at ht
    have hm : t ∈ [51, 55, 57, 59, 61, 65] := by simpa using Array.mem_of_getElem? ht
    have hall : ([51, 55, 57, 59, 61, 65].all fun u => !Tryz.prog.wantsStandIn u) = true := by kernel_rfl
    exact (show Tryz.prog.wantsStandIn t = false by simpa using List.all_eq_true.1 hall t hm)⟩)
  (by kernel_rfl)
#print axioms chunkPuts
end Go.Proofs.YtaacfnngodhecaaGreatDoor
end
