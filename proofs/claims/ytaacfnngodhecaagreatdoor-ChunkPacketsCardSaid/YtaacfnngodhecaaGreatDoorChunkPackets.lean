/- ChunkPackets: for every input the law returns true; each argument reads behind the call asx it read before. -/
import Derived.Test.YtaacfnngodhecaaGreatDoorP22
import Derived.Test.YtaacfnngodhecaaGreatDoorCards
import Derived.Test.YtaacfnngodhecaaGreatDoorTie
import Derived.SevenTiedAt
import Derived.Stop.Joined
set_option linter.all false
section
namespace Go.Proofs.YtaacfnngodhecaaGreatDoor
open Go.ChangeShapes Go.WideShapes Go.ChangeAt Go.RowKit Go.Tx
set_option maxRecDepth 100000
theorem fn3 : Tryz.prog.funcs[3]? = some Tryz.f3 := by kernel_rfl
theorem chunkPackets_lifted (os : Os) (started : os.Started) (H : Type) (enc : TypeId × Value → H) :
  ReturnsInHanded {} Tryz.checked os 3 .any (fun w args => (Rows.chunkPacketsSpec.pre enc Tryz.prog Tryz.f3 Rows.chunkPacketsRow.domain false w args ∧ laidMetH Tryz.prog Rows.chunkPacketsRow.laid w) ∧ sizedMet enc Tryz.prog Tryz.f3 (OpenSpec.ofChange Rows.chunkPacketsSpec) false w args)
   (Rows.chunkPacketsSpec.post enc Tryz.prog Tryz.f3 false true false false) := by
 refine returnsInHanded_of_change_and (C := Tryz.checked) (X := fun w _ => laidMetH Tryz.prog Rows.chunkPacketsRow.laid w) (fun _ _ _ hh h => h.of_heap hh) ownK32 started (by kernel_rfl) Tryz.func3
  (ChangeSpec.witness_shaped (enc := enc) (C := Tryz.checked) (os := os) (X := fun w _ => laidMetH Tryz.prog Rows.chunkPacketsRow.laid w) false (World.laidAll Tryz.prog os Rows.chunkPacketsRow.laid) #[.agg #[.int .i64 0, .int .i64 0, .int .i64 0, .slice none 0 0], .agg #[.int .u16 0, .int .u16 0, .int .u32 0, .slice none 0 0], .string ⟨#[]⟩, .int .u16 0, .agg #[.int .u16 0, .int .u8 0, .string ⟨#[]⟩]] 3 (World.laidAll_os _ _ _)
   (World.shaped_of_ZipB (by kernel_rfl) (by kernel_rfl)) (by kernel_rfl) (by kernel_rfl) (by kernel_rfl)
   (by rw [MakeChecks.laidMetH_plain _ _ _ (by kernel_rfl)]; exact laidMet_laidAll _ (by kernel_rfl) (by kernel_rfl))) ?_
 intro W base args ds gs before hval0 hW hcnd _ _ _
 have hval : ∀ (j : Nat) t v, Tryz.f3.params[j]? = some t → args[j]? = some v → Value.okWide Tryz.prog W .any base t v := hval0
 have hW' := hW
 obtain ⟨p, q, hA0, hV, rfl, hfz, hnd⟩ := hW
 have hA : DataW.TrodAll enc Tryz.prog W 0 (fun _ => true) true Tryz.f3.params.toList args.toList ds p := hA0
 rw [Tryz.params3] at hA hval
 obtain ⟨v0, v1, v2, v3, v4, d0, d1, d2, d3, d4, p0, p1, p2, p3, p4, rfl, rfl, rfl, h0, h1, h2, h3, h4⟩ := trodAll_five32 hA
 obtain ⟨rfl, rfl⟩ := trodVars_none hV
 clear hA0 hval0
 simp only [List.append_nil] at hW'
 obtain ⟨fs0, u0⟩ := undSctp32
 obtain ⟨w0, rfl, _⟩ := okWide_struct u0 (hval 0 24 v0 rfl rfl)
 obtain ⟨fs1, u1⟩ := undDraft32
 obtain ⟨w1, rfl, _⟩ := okWide_struct u1 (hval 1 29 v1 rfl rfl)
 obtain ⟨w2, rfl⟩ := okWide_string undStr_32 (hval 2 9 v2 rfl rfl)
 obtain ⟨w3, rfl⟩ := okWide_int undU16_32 (hval 3 25 v3 rfl rfl)
 obtain ⟨fs4, u4⟩ := undEdit32
 obtain ⟨w4, rfl, _⟩ := okWide_struct u4 (hval 4 31 v4 rfl rfl)
 obtain ⟨x0, s0, r0, o0⟩ := trod_arg tysOk (n := 7) (by kernel_rfl) h0
 obtain ⟨x1, s1, r1, o1⟩ := trod_arg tysOk (n := 7) (by kernel_rfl) h1
 obtain ⟨x2, s2, r2, o2⟩ := trod_arg tysOk (n := 7) (by kernel_rfl) h2
 obtain ⟨x3, s3, r3, o3⟩ := trod_arg tysOk (n := 7) (by kernel_rfl) h3
 obtain ⟨x4, s4, r4, o4⟩ := trod_arg tysOk (n := 7) (by kernel_rfl) h4
 obtain ⟨x0, rfl, m0, f0⟩ := shpSctp32 s0
 obtain ⟨x1, rfl, m1⟩ := shpDraft32 s1
 obtain ⟨b2, rfl, q2⟩ := Shp.str g9 s2
 obtain ⟨m3, rfl, y3⟩ := Shp.int g25 s3
 have e3 : m3 = w3 := by
  simp only [VRl, VR, Value.cells] at r3
  obtain ⟨v, t, h, hv, _⟩ := r3
  subst hv
  simp at h; exact h.1.symm
 subst e3
 obtain ⟨b3, rfl, q3⟩ := wf16 y3
 obtain ⟨x4, rfl, m4⟩ := shpEdit32 s4
 have hargs : VRl W (Zw W) Env.no [.agg x0.row, .agg x1.row, .str b2, .int .u16 b3, .agg x4.row] [.agg w0, .agg w1, .string w2, .int .u16 b3, .agg w4] := by
  have e0 := vr_agg r0 o0
  have e1 := vr_agg r1 o1
  have e2 := vr_one32 r2
  have e4 := vr_agg r4 o4
  simp only [VRl]
  exact ⟨_, _, rfl, e0, _, _, rfl, e1, _, _, rfl, e2, _, _, rfl, by simp only [VR], _, _, rfl, e4, rfl⟩
 have hw := law_of_con (packetsLaw_ok x0 x1 b2 b3 x4 m1 m4 q3 q2 m0 f0) hargs fn3 (by rfl) (by kernel_rfl)
 refine (hw).mono fun e W' ⟨he, hg⟩ => ?_
 subst he
 exact ⟨_, rfl, post_below hW' rfl (by kernel_rfl) undBool32 rfl rfl rfl laidOut32 (by rw [Tryz.params3]; simp only [List.mem_cons, List.not_mem_nil, or_false]; rintro t (rfl | rfl | rfl | rfl | rfl) <;> exact ⟨by kernel_rfl, of_decide_eq_true (by kernel_rfl)⟩) hg⟩
theorem chunkPacketsRow_holds : Rows.ChunkPacketsSaid :=
 OpenClaim.holds_of_wide 3 Tryz.f3 rfl rfl rfl rfl rfl rfl rfl ⟨rfl, rfl, rfl, rfl, rfl⟩ rfl rfl rfl rfl rfl (by kernel_rfl) Tryz.func3 (by kernel_rfl)
  (of_decide_eq_true (by kernel_rfl)) (by unfold Func.isWrapper; rw [if_neg (of_decide_eq_false (by kernel_rfl))]; exact ⟨rfl, rfl⟩)
  (fun os started H enc _ => chunkPackets_lifted os started H enc)
theorem chunkPackets : Rows.ChunkPacketsCardSaid :=
 Claim7.holds_tied_plain_at .later [] [.data, .pinned] true (true, "102b59b2478a4246669fa94a1afd9b08f71bb2222198bd3684d1f2344aa2ee43") true chunkPacketsRow_holds (fun _ h => by cases h) (by kernel_rfl) (fun _ h => by cases h) chunkPackets_row_tie rfl ⟨rfl, rfl⟩ (by kernel_rfl) rfl
  (fun f fn hf hfn => by
   obtain rfl : f = 3 := Option.some.inj ((show Tryz.prog.funcNamed "tannoy/tannoylaw32.ChunkPackets" = some 3 by kernel_rfl).symm.trans hf) |>.symm
   obtain rfl : fn = Tryz.f3 := (Option.some.inj (Tryz.func3.symm.trans hfn)).symm
   exact ⟨by kernel_rfl, fun j t ht => by
    rw [Tryz.params3] at ht
    have hm : t ∈ [24, 29, 9, 25, 31] := by simpa using Array.mem_of_getElem? ht
    have hall : ([24, 29, 9, 25, 31].all fun u => !Tryz.prog.wantsStandIn u) = true := by kernel_rfl
    exact (show Tryz.prog.wantsStandIn t = false by simpa using List.all_eq_true.1 hall t hm)⟩)
  (by kernel_rfl)
#print axioms chunkPackets
end Go.Proofs.YtaacfnngodhecaaGreatDoor
end
