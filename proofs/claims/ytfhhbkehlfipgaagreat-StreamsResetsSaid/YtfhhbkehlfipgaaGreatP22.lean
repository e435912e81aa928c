/- Lemmas for the walk: ZC55, T36, ZC85. -/
import Derived.Test.YtfhhbkehlfipgaaGreatP17
import Derived.Test.YtfhhbkehlfipgaaGreatP11
import Derived.Test.YtfhhbkehlfipgaaGreatP21
import Derived.Test.YtfhhbkehlfipgaaGreatP19
set_option linter.all false
section
namespace Go.Proofs.YtfhhbkehlfipgaaGreat
open Go.Tx
set_option maxRecDepth 100000
set_option maxHeartbeats 16000000
theorem strW0 : Str0 [0, 0] [0, 0] 0 (-1) [] := ⟨by decide, by decide, by decide, by decide, by decide, by decide, by decide, .inl rfl, rfl, by simp⟩
theorem works_ok {F : SF} {L nx : Nat} : Con Tryz.prog 6 [] F L nx nx (.bool true) [] [] := by
 have f0 : ((0 : Int) != 0) = false := rfl
 have eI0 : ∀ x : Int, eI x = [.int .i64 x] := fun _ => rfl
 have hrep := fun F L nx => repeat_ok (F := F) (L := L) (nx := nx) [109] 2500 (by omega) (by simp)
 rw [repeatL_one, show List.replicate 2500 (109 : UInt8) = txW from rfl] at hrep
 have hme : ∀ m ∈ [mW, nW], MsgOk 2 m := by
  intro m hm
  simp only [List.mem_cons, List.not_mem_nil, or_false] at hm
  rcases hm with rfl | rfl
  ·exact ⟨by decide, by decide, by decide, by show 1 ≤ txW.length; rw [txW_len]; omega, by show txW.length ≤ 8000; rw [txW_len]; omega⟩
  ·exact ⟨by decide, by decide, by decide, by decide, by decide⟩
 have hnum := fun F L nx => numbered_ok (F := F) (L := L) (nx := nx) [0, 0] [0, 0] 0 (by decide) (by decide) (by decide) (by decide) (by decide) (by decide) (by decide) [mW, nW] hme (by decide) 10 (by decide) (by decide)
 rw [numW] at hnum
 have q0 := pW_len0
 have q1 := pW_len1
 have q2 := pW_len2
 have q3 := pW_all
 obtain ⟨p, hp⟩ : ∃ x, x = pW 0 := ⟨_, rfl⟩
 obtain ⟨q, hq⟩ : ∃ x, x = pW 1 := ⟨_, rfl⟩
 obtain ⟨r, hr⟩ : ∃ x, x = pW 2 := ⟨_, rfl⟩
 obtain ⟨X, hX⟩ : ∃ x, x = txW := ⟨_, rfl⟩
 have hXl := txW_len
 rw [← hp] at q0 q3 hnum
 rw [← hq] at q1 q3 hnum
 rw [← hr] at q2 q3 hnum
 simp only [strV, List.map_cons, List.map_nil, Dat.row, Msg.row, l0, l1, l2, l3, mW, nW, eI0] at hnum
 rw [← hX] at hnum hrep q3 hXl
 have pl0 : ((p.length : Int) != 1000) = false := by rw [q0]; rfl
 have pl2 : ((r.length : Int) != 500) = false := by rw [q2]; rfl
 have n44 : (((4 : Nat) : Int) != 4) = false := rfl
 have n11 : (((1 : Nat) : Int) == 1) = true := rfl
 have n00 : (((0 : Nat) : Int) != 0) = false := rfl
 have n55 : ((8 : Int) == 8) = true := rfl
 have hP0 : PsOk [0, 0] [] := ⟨by simp, by simp, by simp⟩
 have ok0 : (l0 p).ok = true := by
  have h32 : (2 : Int) ^ (Int.toNat 32) = 4294967296 := rfl
  have h16 : (2 : Int) ^ (Int.toNat 16) = 65536 := rfl
  simp [Dat.ok, l0, serB, q0]
 have ok1 : (l1 q).ok = true := by
  have h32 : (2 : Int) ^ (Int.toNat 32) = 4294967296 := rfl
  have h16 : (2 : Int) ^ (Int.toNat 16) = 65536 := rfl
  simp [Dat.ok, l1, serB, q1]
 have ok2 : (l2 r).ok = true := by
  have h32 : (2 : Int) ^ (Int.toNat 32) = 4294967296 := rfl
  have h16 : (2 : Int) ^ (Int.toNat 16) = 65536 := rfl
  simp [Dat.ok, l2, serB, q2]
 have ok3 : l3.ok = true := rfl
 have ok4 : l4.ok = true := rfl
 have okA : ∀ d ∈ [l3, l2 r, l0 p], d.ok = true ∧ d.st < ([0, 0] : List Int).length := by
  intro d hd
  simp only [List.mem_cons, List.not_mem_nil, or_false] at hd
  rcases hd with rfl | rfl | rfl <;> exact ⟨by assumption, by show (1 : Int) < 2; omega⟩
 have okB : ∀ d ∈ [l3, l2 r, l0 p, l1 q], d.ok = true ∧ d.st < ([0, 0] : List Int).length := by
  intro d hd
  simp only [List.mem_cons, List.not_mem_nil, or_false] at hd
  rcases hd with rfl | rfl | rfl | rfl <;> exact ⟨by assumption, by show (1 : Int) < 2; omega⟩
 have okC : ∀ d ∈ [l4], d.ok = true ∧ d.st < ([0, 0] : List Int).length := by
  intro d hd
  simp only [List.mem_cons, List.not_mem_nil, or_false] at hd
  rcases hd with rfl <;> exact ⟨by assumption, by show (1 : Int) < 2; omega⟩
 have okD : ∀ d ∈ [l4, l2 r, l0 p, l1 q], d.ok = true ∧ d.st < ([0, 0] : List Int).length := by
  intro d hd
  simp only [List.mem_cons, List.not_mem_nil, or_false] at hd
  rcases hd with rfl | rfl | rfl | rfl <;> exact ⟨by assumption, by show (1 : Int) < 2; omega⟩
 have okE : ∀ d ∈ [l3], d.ok = true ∧ d.st < ([0, 0] : List Int).length := by
  intro d hd
  simp only [List.mem_cons, List.not_mem_nil, or_false] at hd
  rcases hd with rfl <;> exact ⟨by assumption, by show (1 : Int) < 2; omega⟩
 have hcA := fun F L nx => comes_ok (F := F) (L := L) (nx := nx) [0, 0] [0, 0] [] 0 (-1) strW0 [] hP0 rfl _ okA (by simp)
 have hcB := fun F L nx => comes_ok (F := F) (L := L) (nx := nx) [0, 0] [0, 0] [] 0 (-1) strW0 [] hP0 rfl _ okB (by simp)
 have hcC := fun F L nx => comes_ok (F := F) (L := L) (nx := nx) [0, 0] [0, 0] [] 0 (-1) strW0 [] hP0 rfl _ okC (by simp)
 have hcD := fun F L nx => comes_ok (F := F) (L := L) (nx := nx) [0, 0] [0, 0] [] 0 (-1) strW0 [] hP0 rfl _ okD (by simp)
 have hcE := fun F L nx => comes_ok (F := F) (L := L) (nx := nx) [0, 0] [0, 0] [] 0 (-1) strW0 [] hP0 rfl _ okE (by simp)
 rw [comes1] at hcA
 rw [comes2, List.nil_append, List.append_assoc, q3] at hcB
 rw [comes3] at hcC
 rw [comes4, List.nil_append, List.append_assoc, q3] at hcD
 rw [comes5] at hcE
 simp only [strV, List.map_cons, List.map_nil, Dat.row, Msg.row, l0, l1, l2, l3, l4, nW, nW2, eI0] at hcA hcB hcC hcD hcE
 have hsA := fun F L nx => same_ok (F := F) (L := L) (nx := nx) [⟨1, 0, false, X⟩, nW] [⟨1, 0, false, X⟩, nW] (by simp) (by simp)
 have hsB := fun F L nx => same_ok (F := F) (L := L) (nx := nx) [nW2] [nW2] (by simp) (by simp)
 have hsC := fun F L nx => same_ok (F := F) (L := L) (nx := nx) [nW2, ⟨1, 0, false, X⟩] [nW2, ⟨1, 0, false, X⟩] (by simp) (by simp)
 have hsD := fun F L nx => same_ok (F := F) (L := L) (nx := nx) [nW] [nW] (by simp) (by simp)
 simp only [List.map_cons, List.map_nil, Msg.row, nW, nW2, decide_true] at hsA hsB hsC hsD
 have hP3 : PsOk [0, 0] [l3] := ⟨by simp, by intro d hd; simp only [List.mem_cons, List.not_mem_nil, or_false] at hd; subst hd; rfl, by simp⟩
 have hsk := fun F L nx => skip_ok (F := F) (L := L) (nx := nx) [0, 0] [0, 0] [] 0 (-1) strW0 [l3] hP3 rfl 12 [(1, 0)] rfl rfl
 rw [skipW] at hsk
 have hd1 := fun F L nx => dropsAll_ok (F := F) (L := L) (nx := nx) (flW p q r) [-1, 0] (by simp [flW]) (by simp)
 have hd2 := fun F L nx => dropsAll_ok (F := F) (L := L) (nx := nx) (flW p q r) [-1, 1] (by simp [flW]) (by simp)
 rw [dropsW1] at hd1
 rw [dropsW2] at hd2
 have hi1 := fun F L nx => ints_ok (F := F) (L := L) (nx := nx) [10, 11, 12] [10, 11, 12] (by simp) (by simp)
 have hi2 := fun F L nx => ints_ok (F := F) (L := L) (nx := nx) [0, 0] [0, 0] (by simp) (by simp)
 rw [show (([10, 11, 12] : List Int) == [10, 11, 12]) = true from rfl] at hi1
 rw [show (([0, 0] : List Int) == [0, 0]) = true from rfl] at hi2
 have hS2 : Str0 [0, 2] [0, 0] 0 (-1) [] := ⟨by decide, by decide, by decide, by decide, by decide, by decide, by decide, .inl rfl, rfl, by simp⟩
 have hS3 : Str0 [0, 2] [0, 0] 0 (-1) [1] := ⟨by decide, by decide, by decide, by decide, by decide, by decide, by decide, .inl rfl, rfl, by simp⟩
 have hask := fun F L nx => ask0_ok (F := F) (L := L) (nx := nx) [0, 2] [0, 0] 0 (-1) hS2 13 [1] (by decide) (by decide) rfl (by decide)
 have hs8 := fun F L nx => send8_ok (F := F) (L := L) (nx := nx) [0, 2] [0, 0] [1] 0 (-1) hS3 [] hP0 rfl 1 0 false [110] (by decide) (by decide) (by decide) (by decide) (by decide) rfl
 have hans := fun F L nx => answered1_ok (F := F) (L := L) (nx := nx) [0, 2] [0, 0] 0 (-1) [1] (by decide) hS3 rfl
 rw [show zeroAt [0, 2] [1] ([1] : List Int).length = [0, 0] from rfl, show ((0 : Int) + 1) % 4294967296 = 1 from rfl] at hans
 have hs9 := fun F L nx => sendF_ok (F := F) (L := L) (nx := nx) [0, 0] [0, 0] 1 (by decide) (by decide) (by decide) (by decide) (by decide) (by decide) (by decide) 1 0 false [110] (by decide) (by decide) (by decide) (by decide)
 rw [show sendD ((1 : Nat) : Int) 0 (seqS [0, 0] 1 false) false [110] ((([110] : List UInt8).length + 999) / 1000) = [⟨0, 1, 0, 0, true, true, false, [110]⟩] from rfl, show outS [0, 0] 1 false = [0, 1] from rfl, show ((1 : Nat) : Int) = 1 from rfl] at hs9
 simp only [strV, strZ, strV0, rstP, fwdP, kE, List.map_cons, List.map_nil, Dat.row, Msg.row, Fl.row, l0, l1, l2, l3, nW, eI0, flW] at hsk hd1 hd2 hi1 hi2 hask hs8 hans hs9
 refine bdy Tryz.f6 ?_
 intro F3 hF1 hF2
 simp (config := {maxSteps := 2000000}) only [Tryz.f6, cx, List.append_eq, List.cons_append, List.nil_append]
 simp (config := {maxSteps := 2000000}) only [Nat.reduceAdd, go_sem, meths, Nat.reduceSub, Nat.reduceAdd, Nat.reduceLT]
 refine CallVC.same (new_ok 2 2 (by omega) (by omega) (by omega) (by omega)) ?_
 simp (config := {maxSteps := 2000000}) only [strV, zrs, List.replicate, List.map_cons, eI0, Nat.reduceBEq, Nat.reduceAdd, go_sem, Nat.reduceAdd, Nat.reduceLT, Nat.reduceLeDiff, Nat.reduceBEq]
 refine CallVC.same (hrep _ _ _) ?_
 simp (config := {maxSteps := 2000000}) only [Nat.reduceBEq, Nat.reduceAdd, go_sem, Nat.reduceAdd, Nat.reduceMul, Nat.reduceEqDiff, Nat.reduceLT, Nat.reduceLeDiff, Nat.reduceBEq]
 refine CallVC.gen (by simp [Wk, WkL]) (hnum _ _ _) ?_
 simp (config := {maxSteps := 2000000}) only [wkNL, wkN, unown, f0, n44, pl0, pl2, Nat.reduceBEq, Nat.reduceAdd, Nat.add_zero, go_sem, Nat.reduceAdd, Nat.reduceMul, Nat.reduceEqDiff, Nat.reduceLT, Nat.reduceLeDiff, Nat.reduceBEq, Int.reduceToNat]
 repeat refine sd1 ?_
 refine CallVC.gen (by simp [Wk, WkL]) (hcA _ _ _) ?_
 simp (config := {maxSteps := 2000000}) only [wkNL, wkN, unown, Nat.reduceBEq, Nat.reduceAdd, Nat.add_zero, go_sem, Nat.reduceAdd, Nat.reduceMul, Nat.reduceEqDiff, Nat.reduceLT, Nat.reduceLeDiff, Nat.reduceBEq, Int.reduceToNat]
 repeat refine sd1 ?_
 refine CallVC.gen (by simp [Wk, WkL]) (hcB _ _ _) ?_
 simp (config := {maxSteps := 2000000}) only [wkNL, wkN, unown, Nat.reduceBEq, Nat.reduceAdd, go_sem, Nat.reduceAdd, Nat.reduceMul, Nat.reduceEqDiff, Nat.reduceLT, Nat.reduceLeDiff, Nat.reduceBEq, Int.reduceToNat]
 repeat refine sd1 ?_
 refine CallVC.gen (by simp [Wk, WkL]) (hcC _ _ _) ?_
 simp (config := {maxSteps := 2000000}) only [wkNL, wkN, unown, Nat.reduceBEq, Nat.reduceAdd, Nat.add_zero, go_sem, Nat.reduceAdd, Nat.reduceMul, Nat.reduceEqDiff, Nat.reduceLT, Nat.reduceLeDiff, Nat.reduceBEq, Int.reduceToNat]
 repeat refine sd1 ?_
 refine CallVC.gen (by simp [Wk, WkL]) (hcD _ _ _) ?_
 simp (config := {maxSteps := 2000000}) only [wkNL, wkN, unown, n00, Nat.reduceBEq, Nat.reduceAdd, go_sem, Nat.reduceAdd, Nat.reduceMul, Nat.reduceEqDiff, Nat.reduceLT, Nat.reduceLeDiff, Nat.reduceBEq]
 repeat refine sd1 ?_
 refine CallVC.gen (by simp [Wk, WkL]) (hsA _ _ _) ?_
 simp (config := {maxSteps := 2000000}) only [wkNL, wkN, unown, Nat.reduceBEq, Nat.reduceAdd, go_sem, Nat.reduceAdd, Nat.reduceMul, Nat.reduceEqDiff, Nat.reduceLT, Nat.reduceLeDiff, Nat.reduceBEq]
 repeat refine sd1 ?_
 refine CallVC.gen (by simp [Wk, WkL]) (hsB _ _ _) ?_
 simp (config := {maxSteps := 2000000}) only [wkNL, wkN, unown, Nat.reduceBEq, Nat.reduceAdd, go_sem, Nat.reduceAdd, Nat.reduceMul, Nat.reduceEqDiff, Nat.reduceLT, Nat.reduceLeDiff, Nat.reduceBEq]
 repeat refine sd1 ?_
 refine CallVC.gen (by simp [Wk, WkL]) (hsC _ _ _) ?_
 simp (config := {maxSteps := 2000000}) only [wkNL, wkN, unown, Nat.reduceBEq, Nat.reduceAdd, go_sem, Nat.reduceAdd, Nat.reduceMul, Nat.reduceEqDiff, Nat.reduceLT, Nat.reduceLeDiff, Nat.reduceBEq, Int.reduceToNat]
 repeat refine sd1 ?_
 refine CallVC.gen (by simp [Wk, WkL]) (hcE _ _ _) ?_
 simp (config := {maxSteps := 2000000}) only [wkNL, wkN, unown, Nat.reduceBEq, Nat.reduceAdd, go_sem, Nat.reduceAdd, Nat.reduceMul, Nat.reduceEqDiff, Nat.reduceLT, Nat.reduceLeDiff, Nat.reduceBEq]
 repeat refine sd1 ?_
 refine CallVC.gen (by simp [Wk, WkL]) (hsk _ _ _) ?_
 simp (config := {maxSteps := 2000000}) only [wkNL, wkN, unown, f0, Nat.reduceBEq, Nat.reduceAdd, go_sem, Nat.reduceAdd, Nat.reduceMul, Nat.reduceEqDiff, Nat.reduceLT, Nat.reduceLeDiff, Nat.reduceBEq]
 repeat refine sd1 ?_
 refine CallVC.gen (by simp [Wk, WkL]) (hsD _ _ _) ?_
 simp (config := {maxSteps := 2000000}) only [wkNL, wkN, unown, Nat.reduceBEq, Nat.reduceAdd, Nat.add_zero, go_sem, Nat.reduceAdd, Nat.reduceMul, Nat.reduceEqDiff, Nat.reduceLT, Nat.reduceLeDiff, Nat.reduceBEq, Int.reduceToNat]
 repeat refine sd1 ?_
 refine CallVC.gen (by simp [Wk, WkL]) (hd1 _ _ _) ?_
 simp (config := {maxSteps := 2000000}) only [wkNL, wkN, unown, Nat.reduceBEq, Nat.reduceAdd, go_sem, Nat.reduceAdd, Nat.reduceMul, Nat.reduceEqDiff, Nat.reduceLT, Nat.reduceBEq]
 repeat refine sd1 ?_
 refine CallVC.gen (by simp [Wk, WkL]) (hd2 _ _ _) ?_
 simp (config := {maxSteps := 2000000}) only [wkNL, wkN, unown, f0, Nat.reduceBEq, Nat.reduceAdd, go_sem, Nat.reduceAdd, Nat.reduceMul, Nat.reduceEqDiff, Nat.reduceLT, Nat.reduceBEq]
 repeat refine sd1 ?_
 refine CallVC.gen (by simp [Wk, WkL]) (hi1 _ _ _) ?_
 simp (config := {maxSteps := 2000000}) only [wkNL, wkN, unown, f0, n00, Nat.reduceBEq, Nat.reduceAdd, go_sem, Nat.reduceAdd, Nat.reduceMul, Nat.reduceEqDiff, Nat.reduceLT, Nat.reduceLeDiff, Nat.reduceBEq]
 repeat refine sd1 ?_
 refine CallVC.gen (by simp [Wk, WkL]) (hask _ _ _) ?_
 simp (config := {maxSteps := 2000000}) only [wkNL, wkN, unown, Nat.reduceBEq, Nat.reduceAdd, go_sem, Nat.reduceAdd, Nat.reduceEqDiff, Nat.reduceLT, Nat.reduceLeDiff, Nat.reduceBEq]
 repeat refine sd1 ?_
 refine CallVC.same (hs8 _ _ _) ?_
 simp (config := {maxSteps := 2000000}) only [Nat.reduceBEq, Nat.reduceAdd, go_sem, Nat.reduceAdd, Nat.reduceEqDiff, Nat.reduceLT, Nat.reduceLeDiff, Nat.reduceBEq]
 repeat refine sd1 ?_
 refine CallVC.gen (by simp [Wk, WkL]) (hans _ _ _) ?_
 simp (config := {maxSteps := 2000000}) only [wkNL, wkN, unown, Nat.reduceBEq, Nat.reduceAdd, go_sem, Nat.reduceAdd, Nat.reduceEqDiff, Nat.reduceLT, Nat.reduceLeDiff, Nat.reduceBEq]
 repeat refine sd1 ?_
 refine CallVC.same (hs9 _ _ _) ?_
 simp (config := {maxSteps := 2000000}) only [n55, Nat.reduceBEq, Nat.reduceAdd, Nat.add_zero, go_sem, Nat.reduceAdd, Nat.reduceMul, Nat.reduceEqDiff, Nat.reduceLT, Nat.reduceLeDiff, Nat.reduceBEq]
 repeat refine sd1 ?_
 refine CallVC.gen (by simp [Wk, WkL]) (hi2 _ _ _) ?_
 simp (config := {maxSteps := 2000000}) only [wkNL, wkN, unown, n11, Nat.reduceBEq, Nat.reduceAdd, Nat.add_zero, go_sem, Nat.reduceAdd, Nat.reduceEqDiff, Nat.reduceLT, Nat.reduceLeDiff, Nat.reduceBEq, Int.reduceToNat]
 repeat refine sd1 ?_
 exact .bool (.inr rfl) rfl rfl (by simp [UpdAll])
end Go.Proofs.YtfhhbkehlfipgaaGreat
end
section
namespace Go.Tx
theorem Sub.frz {L : Nat} {F0 : SF} {t : List (Option PV)} {H : List (Nm × SBlk)} {nx : Nat} (d : Nat) {v : PV} (v' : PV) (hd : t[d]? = some (some v)) (hw : Wk (look F0 H) v v') :
  Sub L F0 ⟨t, H, nx⟩ ⟨t.set d (some v'), updH H (unown (look F0 H) (wkN v v')), nx⟩ := by
 intro E0 w0 E a w hd0 hR
 have hle := unown_le (look F0 H) (wkN v v')
 have hS := StepR.less hR.step.rel hle
 refine ⟨E, by rw [look_updH]; exact hR.step.trans hS, ⟨by simpa using hR.tmps.size, fun i x hx => ?_⟩, by rw [look_updH]; exact hR.marks.mono hS.ext, hR.news⟩
 simp only [TF, List.getD_eq_getElem?_getD, List.getElem?_set] at hx
 rw [look_updH]
 by_cases hi : d = i
 ·subst hi
  rw [if_pos rfl] at hx
  have hlt := Sx.lt_of_get hd
  rw [if_pos hlt] at hx
  simp at hx; subst hx
  obtain ⟨y, a1, a2⟩ := hR.tmps.val d v (by simp [TF, List.getD_eq_getElem?_getD, hd])
  exact ⟨y, a1, wk_vr hR.step.rel hle _ _ _ hw (fun n hn c hc => unown_own hn hc) a2⟩
 ·rw [if_neg hi] at hx
  obtain ⟨y, a1, a2⟩ := hR.tmps.val i x (by simpa [TF, List.getD_eq_getElem?_getD] using hx)
  exact ⟨y, a1, VR.mono hS.ext _ _ a2⟩
end Go.Tx
end
section
namespace Go.Proofs.YtfhhbkehlfipgaaGreat
open Go.Tx
set_option maxRecDepth 100000
set_option maxHeartbeats 16000000
noncomputable def cxw (L : Nat) : Cx := ⟨Tryz.prog, tys, meths, true, L, none, []⟩
theorem cxwOk (L : Nat) : (cxw L).Ok := ⟨tysOk, fieldsOk, mixedOk, methsOk⟩
theorem sameRst_ok {F : SF} {L nx : Nat} (x : Rst) (hx : x.ss.length ≤ 1000000) : Con Tryz.prog 28 [x.v, x.v] F L nx nx (.bool true) [] [] := by
 have f1 : (x.k == x.k) = true := by simp
 have f2 : (x.n == x.n) = true := by simp
 have f3 : (x.la == x.la) = true := by simp
 have f4 : (x.r == x.r) = true := by simp
 refine bdy Tryz.f28 ?_
 intro F3 hF1 hF2
 simp only [Tryz.f28, cx, Rst.v, rstP, f1, f2, f3, f4, Nat.add_zero, go_sem, meths]
 repeat refine sd2 ?_
 refine CallVC.same (ints_ok x.ss x.ss hx hx) ?_
 simp only [beq_self_eq_true, go_sem]
 exact .bool (.inr rfl) rfl rfl (by simp [UpdAll])
theorem Rst.v_eq (x : Rst) : x.v = .agg [.int .i64 x.k, .int .i64 x.n, .int .i64 x.la, .int .i64 x.r, .fs 1 (x.ss.map eI)] := rfl
theorem askR_le {s : StX} {k : Nat} (h : s.Le k) (last : Int) (l : List Int) (hl : l.length ≤ k) : (askR s last l).1.Le k ∧ (askR s last l).2.1.ss.length ≤ k := by
 have hz := StX.z_le k
 have hz2 : Rst.z.ss.length ≤ k := Nat.zero_le _
 unfold askR
 split <;> try exact ⟨hz, hz2⟩
 split <;> try exact ⟨hz, hz2⟩
 split <;> try exact ⟨hz, hz2⟩
 split <;> try exact ⟨hz, hz2⟩
 split <;> try exact ⟨hz, hz2⟩
 exact ⟨⟨h.o, h.i, h.p, hl⟩, hl⟩
theorem askedR_le {s : StX} {k : Nat} (h : s.Le k) (cum : Int) (x : Rst) : (askedR s cum x).1.Le k ∧ (askedR s cum x).2.1.ss.length ≤ k := by
 have hz := StX.z_le k
 have hz2 : Rst.z.ss.length ≤ k := Nat.zero_le _
 unfold askedR
 repeat (first | exact ⟨hz, hz2⟩ | exact ⟨h, Nat.zero_le _⟩ | split)
 exact ⟨⟨h.o, by rw [zeroAt_len]; exact h.i, Nat.le_trans (List.length_filter_le _ _) h.p, h.a⟩, Nat.zero_le _⟩
theorem answeredR_le {s : StX} {k : Nat} (h : s.Le k) (x : Rst) : (answeredR s x).1.Le k := by
 have hz := StX.z_le k
 unfold answeredR
 repeat (first | exact hz | exact h | exact ⟨by rw [zeroAt_len]; exact h.o, h.i, h.p, Nat.zero_le _⟩ | exact ⟨h.o, h.i, h.p, Nat.zero_le _⟩ | split)
def selM (set : Int) (n : Nat) : List Int := ((List.range n).filter fun i => bitB set (i % 16)).map Int.ofNat
theorem selM_succ (set : Int) (n : Nat) : selM set (n + 1) = selM set n ++ (if bitB set (n % 16) then [(n : Int)] else []) := by
 unfold selM
 rw [List.range_succ, List.filter_append, List.map_append]
 cases h : bitB set (n % 16) <;> simp [h]
theorem selM_len (set : Int) (n : Nat) : (selM set n).length ≤ n := by
 unfold selM
 rw [List.length_map]
 exact Nat.le_trans (List.length_filter_le _ _) (by simp)
structure RtX where
 x : Nat
 i : Nat
structure RsX3 where
 j : Nat
 i : Nat
 s : StX
theorem resetsLaw_ok {F : SF} {L nx : Nat} (d : Df) (hd : d.ok) (b c : Bd) (hb : b.ok) (hc : c.ok) (last : Int) (l : List Int) (rs : Rst) (set : Nat) (bk : Int) (hset : set < 65536) (hbk1 : -128 ≤ bk) (hbk2 : bk < 128) :
  Con Tryz.prog 5 [.agg d.row, .agg b.row, .agg c.row, .int .i64 last, .fs 1 (l.map eI), rs.v, .int .u16 set, .int .i8 bk] F L nx nx (.bool true) [] [] := by
 obtain ⟨l2, hl2⟩ : ∃ x, x = l.take 32 := ⟨_, rfl⟩
 obtain ⟨ss2, hss2⟩ : ∃ x, x = rs.ss.take 32 := ⟨_, rfl⟩
 have hll : l2.length ≤ 32 := by rw [hl2]; simp; omega
 have hsl : ss2.length ≤ 32 := by rw [hss2]; simp; omega
 have t1 : (min (l.length : Int) 32).toNat = min l.length 32 := by omega
 have t0 : List.take (min l.length 32 - 0) (l.map eI) = l2.map eI := by
  rw [hl2, List.map_take, List.take_eq_take_iff]; simp; omega
 have t3 : (min (rs.ss.length : Int) 32).toNat = min rs.ss.length 32 := by omega
 have t2 : List.take (min rs.ss.length 32 - 0) (rs.ss.map eI) = ss2.map eI := by
  rw [hss2, List.map_take, List.take_eq_take_iff]; simp; omega
 have hss := fun F L nx => states_ok (F := F) (L := L) (nx := nx) d hd b c hb hc
 obtain ⟨ALL, hALL⟩ : ∃ x, x = stA d b c := ⟨_, rfl⟩
 rw [← hALL] at hss
 simp only [Df.row, Bd.row] at hss
 refine Con.body (cxwOk (L + 1)) rfl rfl (fn := Tryz.f5) (c := Tryz.f5.body.getD .skip) (by kernel_rfl) (by rfl) (by kernel_rfl) rfl (by simp) ?_
 intro F3 hF1 hF2
 simp only [Tryz.f5, List.append_eq, List.cons_append, List.nil_append]
 simp only [cxw, Df.row, Bd.row, Rst.v, rstP, go_sem, meths]
 refine CallVC.same works_ok ?_
 simp only [t0, t1, t2, t3, List.length_map, go_sem]
 repeat refine sd2 ?_
 refine ⟨okDyn_num (fun x => x.i) (by kernel_rfl), ?_⟩
 repeat refine sd2 ?_
 refine CallVC.same (hss _ _ _) ?_
 simp only [go_sem]
 repeat refine sd2 ?_
 refine loopK.intro _ _ (I := fun z : RtX => ⟨[none, none, none, some (.int .i64 last), some (.fs 1 (l2.map eI)), none, some (.int .u16 set), some (.int .i8 bk), none, none, none, none, none, some (.ptr ⟨L + 1, 96⟩ 0 0), none, none, some (.bool false), none, none, none, none, none, none, none, none, none, none, none, none, none, none, none, none, none, none, none, none, none, none, none, none, none, none, none, none, none, none, none, none, none, none, none, none, none, none, none, none, none, none, none, none, none, none, some (.agg ALL), some (.int .i64 z.x), none, none, none, none, none, none, none, none, none, none, none, none, none, none, none, none, none, none, none, none, none, none, none, none, none, none, none, none, none, none, none, none, none, none, none, none, none, none, none, none, none, none, none, none, none, none, none, none, none, none, none, none, none, none, none, none, none, none, none, none, none, none, none, none, none, none, none, none, none, none, none, none, none, none, none, none, none, none, none, none, none, none, none, none, none, none, none, none, none, none, none, none, none, none, none, none, none, none, none, none, none, none, none, none, none, none, none, none, none, none, none, none, none, none, none, none, none, none, none, none, none, none, none, none, none, none, none, none, none, none, none, none, none, none, none, none, none, none, none, none, none, none, none, none, none, none, none, none, none, none, none, none, none, none, none, none, none, none], [(⟨L + 1, 96⟩, .rows 75 5 true true [[.int .i64 rs.k, .int .i64 rs.n, .int .i64 rs.la, .int .i64 rs.r, .fs 1 (ss2.map eI)]])], 10000 * (z.i + 1)⟩) (pre := fun z => z.x ≤ 3 ∧ 200 ≤ z.i) (μ := fun z => 3 - z.x) ⟨0, 200⟩ ⟨by simp, by simp⟩ ?_ ?_
 ·refine Sub.of (hfz hF2) (by simp only [go_sem, subT, and_self, Int.natCast_zero]) ?_ (by simp [subK, keys]) (by simp)
  simp [subH, Tx.look]
 ·rintro ⟨x, i⟩ ⟨h1, h2⟩
  simp only at h1 h2 ⊢
  have nd1 : ∀ k, k < 1000000 → (10000 * (i + 1) = k) = False := fun k h => by apply eq_false; omega
  have nd2 : ∀ k, k < 1000000 → (k = 10000 * (i + 1)) = False := fun k h => by apply eq_false; omega
  by_cases hx : x < 3
  ·have f1 : decide ((x : Int) < 3) = true := dT (by omega)
   have wx : IntKind.i64.wrap ((x : Int) + 1) = (x : Int) + 1 := Sx.wrap_i64 ⟨by omega, by omega⟩
   have hA := stA_at d b c hx
   have hle0 := stG_le hd b c x
   rw [← hALL] at hA
   obtain ⟨S0, hS⟩ : ∃ y, y = stG d b c x := ⟨_, rfl⟩
   rw [← hS] at hA hle0
   simp only [StX.cells] at hA
   have hle : S0.Le 1000 := hle0.mono (by omega)
   simp only [f1, hA, Int.toNat_natCast, nd1, Nat.add_assoc, List.length_map, Nat.add_zero, go_sem]
   repeat refine sd2 ?_
   obtain ⟨y, hy⟩ : ∃ y, y = 10000 * (i + 1) + 64 := ⟨_, rfl⟩
   have hy6 : 2000000 ≤ y := by omega
   simp only [← hy]
   have hoL := hle0.o
   have hiL := hle0.i
   obtain ⟨q0, hq0⟩ : ∃ q, q = 10000 * (i + 1) + 320 := ⟨_, rfl⟩
   simp only [← hq0]
   refine loopK.intro _ _ (I := fun z : AkX => ⟨[none, none, none, some (.int .i64 last), some (.fs 1 (l2.map eI)), none, some (.int .u16 set), some (.int .i8 bk), none, none, none, none, none, some (.ptr ⟨L + 1, 96⟩ 0 0), none, none, some (.bool false), none, some (.ptr ⟨L + 1, y⟩ 0 0), some (.sl ⟨L + 1, z.q⟩ 0 (selM set z.j).length), some (.nilS), none, none, none, none, none, none, none, none, none, none, none, none, none, none, none, none, none, none, none, none, none, none, none, none, none, none, none, none, none, none, none, none, none, none, none, none, none, none, none, none, none, none, some (.agg ALL), some (.int .i64 x), none, none, none, none, some (.int .i64 S0.out.length), some (.int .i64 z.j), none, none, none, none, none, none, none, none, none, none, none, none, none, none, none, none, none, none, none, none, none, none, none, none, none, none, none, none, none, none, none, none, none, none, none, none, none, none, none, none, none, none, none, none, none, none, none, none, none, none, none, none, none, none, none, none, none, none, none, none, none, none, none, none, none, none, none, none, none, none, none, none, none, none, none, none, none, none, none, none, none, none, none, none, none, none, none, none, none, none, none, none, none, none, none, none, none, none, none, none, none, none, none, none, none, none, none, none, none, none, none, none, none, none, none, none, none, none, none, none, none, none, none, none, none, none, none, none, none, none, none, none, none, none, none, none, none, none, none, none, none, none, none, none, none, none, none, none, none, none, none, none], [(⟨L + 1, 96⟩, .rows 75 5 true true [[.int .i64 rs.k, .int .i64 rs.n, .int .i64 rs.la, .int .i64 rs.r, .fs 1 (ss2.map eI)]]), (⟨L + 1, y⟩, .rows 41 6 true true [[.fs 1 (S0.out.map eI), .fs 1 (S0.inn.map eI), .fs 8 (S0.ps.map Dat.row), .int .i64 S0.num, .int .i64 S0.seen, .fs 1 (S0.asked.map eI)]]), (⟨L + 1, z.q⟩, .rows 3 1 true true ((selM set z.j).map eI))], 10000 * (z.i + 1)⟩) (pre := fun z => z.j ≤ S0.out.length ∧ y < 10000 * (z.i + 1) ∧ y < z.q ∧ z.q < 10000 * (z.i + 1)) (μ := fun z => S0.out.length - z.j) ⟨0, q0, i + 1⟩ ⟨by simp, by simp only []; omega, by simp only []; omega, by simp only []; omega⟩ ?_ ?_
   ·clear nd1 nd2
    have y1 : (y = 96) = False := by apply eq_false; omega
    have y2 : (96 = y) = False := by apply eq_false; omega
    have y3 : (y = q0) = False := by apply eq_false; omega
    have y4 : (q0 = y) = False := by apply eq_false; omega
    have y5 : (96 = q0) = False := by apply eq_false; omega
    have y6 : (q0 = 96) = False := by apply eq_false; omega
    have e0 : selM set 0 = [] := rfl
    refine Sub.trans (Sub.nilName 19 3 (wd := 1) (by omega) rfl) ?_
    refine Sub.of (hfz hF2) (by simp only [e0, List.length_nil, go_sem, subT, and_self, Int.natCast_zero]) ?_ (by simp [subK, keys, updH, setH, y1, y2, y3, y4, y5, y6]) (by simp only []; omega)
    simp [subH, Tx.look, updH, setH, e0, y1, y4, y6]
   ·clear nd1 nd2 hq0 q0 hy h2 i
    rintro ⟨j, q, i⟩ ⟨g1, g2, g3, g4⟩
    simp only at g1 g2 g3 g4 ⊢
    have nd1 : ∀ k, k < 1000000 → (10000 * (i + 1) = k) = False := fun k h => by apply eq_false; omega
    have nd2 : ∀ k, k < 1000000 → (k = 10000 * (i + 1)) = False := fun k h => by apply eq_false; omega
    have y_96 : (y = 96) = False := by apply eq_false; omega
    have n96_y : (96 = y) = False := by apply eq_false; omega
    have y_n1 : ∀ kk, (10000 * (i + 1) + kk = y) = False := fun kk => by apply eq_false; omega
    have y_n2 : ∀ kk, (y = 10000 * (i + 1) + kk) = False := fun kk => by apply eq_false; omega
    have y_n3 : (10000 * (i + 1) = y) = False := by apply eq_false; omega
    have y_n4 : (y = 10000 * (i + 1)) = False := by apply eq_false; omega
    have y_n5 : ∀ kk, ((⟨L + 1, y⟩ : Nm) == ⟨L + 1, 10000 * (i + 1) + kk⟩) = false := fun kk => by simp; omega
    have q_96 : (q = 96) = False := by apply eq_false; omega
    have n96_q : (96 = q) = False := by apply eq_false; omega
    have q_y : (q = y) = False := by apply eq_false; omega
    have ny_q : (y = q) = False := by apply eq_false; omega
    have q_n1 : ∀ kk, (10000 * (i + 1) + kk = q) = False := fun kk => by apply eq_false; omega
    have q_n2 : ∀ kk, (q = 10000 * (i + 1) + kk) = False := fun kk => by apply eq_false; omega
    have q_n3 : (10000 * (i + 1) = q) = False := by apply eq_false; omega
    have q_n4 : (q = 10000 * (i + 1)) = False := by apply eq_false; omega
    have q_n5 : ∀ kk, ((⟨L + 1, q⟩ : Nm) == ⟨L + 1, 10000 * (i + 1) + kk⟩) = false := fun kk => by simp; omega
    by_cases hj : j < S0.out.length
    ·have f2 : decide ((j : Int) < (S0.out.length : Int)) = true := dT (by omega)
     have wj : IntKind.i64.wrap ((j : Int) + 1) = (j : Int) + 1 := Sx.wrap_i64 ⟨by omega, by omega⟩
     have r0 : ((j : Int).tmod 16) = ((j % 16 : Nat) : Int) := rfl
     have hsu := selM_succ set j
     have hsl2 := selM_len set j
     cases hb9 : bitB set (j % 16) with
     | false =>
      have hb2 : (Go.Sx.ibits .and .u16 ((set : Int).fdiv (2 ^ min (j % 16) 16)) 1 == 1) = false := hb9
      rw [hb9] at hsu
      simp only [Bool.false_eq_true, if_false, List.append_nil] at hsu
      simp only [f2, r0, wj, hb2, Int.toNat_natCast, Nat.add_assoc, go_sem]
      repeat refine sd2 ?_
      refine ⟨⟨j + 1, q, i + 1⟩, ⟨by simp only []; omega, by simp only []; omega, by simp only []; omega, by simp only []; omega⟩, by simp only []; omega, ?_⟩
      refine Sub.of (hfz hF2) (by simp only [hsu, go_sem, subT, and_self, Int.natCast_succ]) ?_ (by simp [subK, keys]) (by simp only []; omega)
      simp [subH, Tx.look, hsu, y_96, q_96, q_y]
     | true =>
      have hb2 : (Go.Sx.ibits .and .u16 ((set : Int).fdiv (2 ^ min (j % 16) 16)) 1 == 1) = true := hb9
      rw [hb9] at hsu
      simp only [if_true] at hsu
      simp only [f2, r0, wj, hb2, Int.toNat_natCast, y_n1, q_96, q_y, q_n1, q_n2, q_n5, nS2, Nat.add_assoc, List.length_map, go_sem]
      repeat refine sd2 ?_
      refine ⟨⟨j + 1, 10000 * (i + 1) + 384, i + 1⟩, ⟨by simp only []; omega, by simp only []; omega, by simp only []; omega, by simp only []; omega⟩, by simp only []; omega, ?_⟩
      refine Sub.of (hfz hF2) (by simp only [hsu, List.length_append, go_sem, subT, and_self, Int.natCast_succ]) ?_ (by simp [subK, keys]) (by simp only []; omega)
      simp [subH, Tx.look, hsu, eI, y_96, y_n1, q_n1]
    ·have f2 : decide ((j : Int) < (S0.out.length : Int)) = false := dF (by omega)
     have e : j = S0.out.length := by omega
     subst e
     simp only [f2, y_96, ny_q, Nat.add_assoc, List.length_map, go_sem]
     repeat refine sd2 ?_
     have hOl := selM_len set S0.out.length
     obtain ⟨OW, hOW⟩ : ∃ x, x = selM set S0.out.length := ⟨_, rfl⟩
     rw [← hOW] at hOl
     rw [← hOW]
     obtain ⟨q0, hq0⟩ : ∃ q, q = 10000 * (i + 1) + 160 := ⟨_, rfl⟩
     simp only [← hq0]
     refine loopK.intro _ _ (I := fun z : AkX => ⟨[none, none, none, some (.int .i64 last), some (.fs 1 (l2.map eI)), none, some (.int .u16 set), some (.int .i8 bk), none, none, none, none, none, some (.ptr ⟨L + 1, 96⟩ 0 0), none, none, some (.bool false), none, some (.ptr ⟨L + 1, y⟩ 0 0), some (.fs 1 (OW.map eI)), some (.sl ⟨L + 1, z.q⟩ 0 (selM set z.j).length), none, none, none, none, none, none, none, none, none, none, none, none, none, none, none, none, none, none, none, none, none, none, none, none, none, none, none, none, none, none, none, none, none, none, none, none, none, none, none, none, none, none, some (.agg ALL), some (.int .i64 x), none, none, none, none, none, none, none, none, none, none, none, none, none, none, none, none, none, none, none, none, none, some (.int .i64 S0.inn.length), some (.int .i64 z.j), none, none, none, none, none, none, none, none, none, none, none, none, none, none, none, none, none, none, none, none, none, none, none, none, none, none, none, none, none, none, none, none, none, none, none, none, none, none, none, none, none, none, none, none, none, none, none, none, none, none, none, none, none, none, none, none, none, none, none, none, none, none, none, none, none, none, none, none, none, none, none, none, none, none, none, none, none, none, none, none, none, none, none, none, none, none, none, none, none, none, none, none, none, none, none, none, none, none, none, none, none, none, none, none, none, none, none, none, none, none, none, none, none, none, none, none, none, none, none, none, none, none, none, none, none, none, none, none, none, none, none, none, none, none, none], [(⟨L + 1, 96⟩, .rows 75 5 true true [[.int .i64 rs.k, .int .i64 rs.n, .int .i64 rs.la, .int .i64 rs.r, .fs 1 (ss2.map eI)]]), (⟨L + 1, y⟩, .rows 41 6 true true [[.fs 1 (S0.out.map eI), .fs 1 (S0.inn.map eI), .fs 8 (S0.ps.map Dat.row), .int .i64 S0.num, .int .i64 S0.seen, .fs 1 (S0.asked.map eI)]]), (⟨L + 1, z.q⟩, .rows 3 1 true true ((selM set z.j).map eI))], 10000 * (z.i + 1)⟩) (pre := fun z => z.j ≤ S0.inn.length ∧ y < 10000 * (z.i + 1) ∧ y < z.q ∧ z.q < 10000 * (z.i + 1)) (μ := fun z => S0.inn.length - z.j) ⟨0, q0, i + 1⟩ ⟨by simp, by simp only []; omega, by simp only []; omega, by simp only []; omega⟩ ?_ ?_
     ·clear nd1 nd2
      have y1 : (y = 96) = False := by apply eq_false; omega
      have y2 : (96 = y) = False := by apply eq_false; omega
      have y3 : (y = q0) = False := by apply eq_false; omega
      have y4 : (q0 = y) = False := by apply eq_false; omega
      have y5 : (96 = q0) = False := by apply eq_false; omega
      have y6 : (q0 = 96) = False := by apply eq_false; omega
      have z1 : (q = 96) = False := by apply eq_false; omega
      have z2 : (96 = q) = False := by apply eq_false; omega
      have z3 : (q = y) = False := by apply eq_false; omega
      have z4 : (y = q) = False := by apply eq_false; omega
      have z5 : (q = q0) = False := by apply eq_false; omega
      have z6 : (q0 = q) = False := by apply eq_false; omega
      have e0 : selM set 0 = [] := rfl
      refine Sub.trans (Sub.frz 19 (.fs 1 (OW.map eI)) rfl (by simp [Wk, Tx.look, List.take_of_length_le, z1, z3])) ?_
      refine Sub.trans (Sub.nilName 20 3 (wd := 1) (by omega) rfl) ?_
      refine Sub.of (hfz hF2) (by simp only [e0, List.length_nil, go_sem, subT, and_self, Int.natCast_zero]) ?_ (by simp [subK, keys, updH, setH, unown, wkN, Tx.look, y1, y2, y3, y4, y5, y6, z1, z3, z5, z6]) (by simp only []; omega)
      simp [subH, Tx.look, updH, setH, unown, wkN, e0, y1, y4, y6, z1, z3, z6]
     ·clear nd1 nd2 hq0 q0
      rintro ⟨j, q, i⟩ ⟨g1, g2, g3, g4⟩
      simp only at g1 g2 g3 g4 ⊢
      have nd1 : ∀ k, k < 1000000 → (10000 * (i + 1) = k) = False := fun k h => by apply eq_false; omega
      have nd2 : ∀ k, k < 1000000 → (k = 10000 * (i + 1)) = False := fun k h => by apply eq_false; omega
      have y_96 : (y = 96) = False := by apply eq_false; omega
      have n96_y : (96 = y) = False := by apply eq_false; omega
      have y_n1 : ∀ kk, (10000 * (i + 1) + kk = y) = False := fun kk => by apply eq_false; omega
      have y_n2 : ∀ kk, (y = 10000 * (i + 1) + kk) = False := fun kk => by apply eq_false; omega
      have y_n3 : (10000 * (i + 1) = y) = False := by apply eq_false; omega
      have y_n4 : (y = 10000 * (i + 1)) = False := by apply eq_false; omega
      have y_n5 : ∀ kk, ((⟨L + 1, y⟩ : Nm) == ⟨L + 1, 10000 * (i + 1) + kk⟩) = false := fun kk => by simp; omega
      have q_96 : (q = 96) = False := by apply eq_false; omega
      have n96_q : (96 = q) = False := by apply eq_false; omega
      have q_y : (q = y) = False := by apply eq_false; omega
      have ny_q : (y = q) = False := by apply eq_false; omega
      have q_n1 : ∀ kk, (10000 * (i + 1) + kk = q) = False := fun kk => by apply eq_false; omega
      have q_n2 : ∀ kk, (q = 10000 * (i + 1) + kk) = False := fun kk => by apply eq_false; omega
      have q_n3 : (10000 * (i + 1) = q) = False := by apply eq_false; omega
      have q_n4 : (q = 10000 * (i + 1)) = False := by apply eq_false; omega
      have q_n5 : ∀ kk, ((⟨L + 1, q⟩ : Nm) == ⟨L + 1, 10000 * (i + 1) + kk⟩) = false := fun kk => by simp; omega
      by_cases hj : j < S0.inn.length
      ·have f2 : decide ((j : Int) < (S0.inn.length : Int)) = true := dT (by omega)
       have wj : IntKind.i64.wrap ((j : Int) + 1) = (j : Int) + 1 := Sx.wrap_i64 ⟨by omega, by omega⟩
       have r0 : ((j : Int).tmod 16) = ((j % 16 : Nat) : Int) := rfl
       have hsu := selM_succ set j
       have hsl2 := selM_len set j
       cases hb9 : bitB set (j % 16) with
       | false =>
        have hb2 : (Go.Sx.ibits .and .u16 ((set : Int).fdiv (2 ^ min (j % 16) 16)) 1 == 1) = false := hb9
        rw [hb9] at hsu
        simp only [Bool.false_eq_true, if_false, List.append_nil] at hsu
        simp only [f2, r0, wj, hb2, Int.toNat_natCast, Nat.add_assoc, go_sem]
        repeat refine sd2 ?_
        refine ⟨⟨j + 1, q, i + 1⟩, ⟨by simp only []; omega, by simp only []; omega, by simp only []; omega, by simp only []; omega⟩, by simp only []; omega, ?_⟩
        refine Sub.of (hfz hF2) (by simp only [hsu, go_sem, subT, and_self, Int.natCast_succ]) ?_ (by simp [subK, keys]) (by simp only []; omega)
        simp [subH, Tx.look, hsu, y_96, q_96, q_y]
       | true =>
        have hb2 : (Go.Sx.ibits .and .u16 ((set : Int).fdiv (2 ^ min (j % 16) 16)) 1 == 1) = true := hb9
        rw [hb9] at hsu
        simp only [if_true] at hsu
        simp only [f2, r0, wj, hb2, Int.toNat_natCast, y_n1, q_96, q_y, q_n1, q_n2, q_n5, nS2, Nat.add_assoc, List.length_map, go_sem]
        repeat refine sd2 ?_
        refine ⟨⟨j + 1, 10000 * (i + 1) + 384, i + 1⟩, ⟨by simp only []; omega, by simp only []; omega, by simp only []; omega, by simp only []; omega⟩, by simp only []; omega, ?_⟩
        refine Sub.of (hfz hF2) (by simp only [hsu, List.length_append, go_sem, subT, and_self, Int.natCast_succ]) ?_ (by simp [subK, keys]) (by simp only []; omega)
        simp [subH, Tx.look, hsu, eI, y_96, y_n1, q_n1]
      ·have f2 : decide ((j : Int) < (S0.inn.length : Int)) = false := dF (by omega)
       have e : j = S0.inn.length := by omega
       subst e
       simp only [f2, Nat.add_assoc, go_sem]
       repeat refine sd2 ?_
       have hTl := selM_len set S0.inn.length
       obtain ⟨OT, hOT⟩ : ∃ x, x = selM set S0.inn.length := ⟨_, rfl⟩
       rw [← hOT] at hTl
       rw [← hOT]
       obtain ⟨q0, hq0⟩ : ∃ q, q = 10000 * (i + 1) + 160 := ⟨_, rfl⟩
       simp only [← hq0]
       obtain ⟨MS2, hMS2⟩ : ∃ x : List PV, x = [.fs 1 (l2.map eI), .fs 1 (OW.map eI)] := ⟨_, rfl⟩
       have hML : MS2.length = 2 := by rw [hMS2]; rfl
       have hM2 : ∀ j, j < 2 → ∃ X : List Int, X.length ≤ 1000 ∧ MS2.getD j (.tup []) = .fs 1 (X.map eI) := by
        intro j hj
        rcases (show j = 0 ∨ j = 1 by omega) with rfl | rfl
        ·exact ⟨l2, by omega, by rw [hMS2]; rfl⟩
        ·exact ⟨OW, by omega, by rw [hMS2]; rfl⟩
       refine loopK.intro _ _ (I := fun z : RsX3 => ⟨[none, none, none, some (.int .i64 last), some (.fs 1 (l2.map eI)), none, some (.int .u16 set), some (.int .i8 bk), none, none, none, none, none, some (.ptr ⟨L + 1, 96⟩ 0 0), none, none, some (.bool false), none, some (.ptr ⟨L + 1, y⟩ 0 0), none, some (.fs 1 (OT.map eI)), none, none, none, none, none, none, none, none, none, none, none, none, none, none, none, none, none, none, none, none, none, none, none, none, none, none, none, none, none, none, none, none, none, none, none, none, none, none, none, none, none, none, some (.agg ALL), some (.int .i64 x), none, none, none, none, none, none, none, none, none, none, none, none, none, none, none, none, none, none, none, none, none, none, none, none, none, none, none, none, none, none, none, none, none, none, none, none, none, none, some (.agg MS2), some (.int .i64 z.j), none, none, none, none, none, none, none, none, none, none, none, none, none, none, none, none, none, none, none, none, none, none, none, none, none, none, none, none, none, none, none, none, none, none, none, none, none, none, none, none, none, none, none, none, none, none, none, none, none, none, none, none, none, none, none, none, none, none, none, none, none, none, none, none, none, none, none, none, none, none, none, none, none, none, none, none, none, none, none, none, none, none, none, none, none, none, none, none, none, none, none, none, none, none, none, none, none, none, none, none, none, none, none, none, none, none, none, none, none, none, none, none, none, none, none, none, none, none], [(⟨L + 1, 96⟩, .rows 75 5 true true [[.int .i64 rs.k, .int .i64 rs.n, .int .i64 rs.la, .int .i64 rs.r, .fs 1 (ss2.map eI)]]), (⟨L + 1, y⟩, .rows 41 6 true true [[.fs 1 (z.s.out.map eI), .fs 1 (z.s.inn.map eI), .fs 8 (z.s.ps.map Dat.row), .int .i64 z.s.num, .int .i64 z.s.seen, .fs 1 (z.s.asked.map eI)]])], 10000 * (z.i + 1)⟩) (pre := fun z => z.j ≤ 2 ∧ y < 10000 * (z.i + 1) ∧ z.s.Le 1000) (μ := fun z => 2 - z.j) ⟨0, i + 1, S0⟩ ⟨by simp, by simp only []; omega, hle⟩ ?_ ?_
       ·clear nd1 nd2
        have y1 : (y = 96) = False := by apply eq_false; omega
        have y2 : (96 = y) = False := by apply eq_false; omega
        have y3 : (y = q0) = False := by apply eq_false; omega
        have y4 : (q0 = y) = False := by apply eq_false; omega
        have y5 : (96 = q0) = False := by apply eq_false; omega
        have y6 : (q0 = 96) = False := by apply eq_false; omega
        have z1 : (q = 96) = False := by apply eq_false; omega
        have z2 : (96 = q) = False := by apply eq_false; omega
        have z3 : (q = y) = False := by apply eq_false; omega
        have z4 : (y = q) = False := by apply eq_false; omega
        have z5 : (q = q0) = False := by apply eq_false; omega
        have z6 : (q0 = q) = False := by apply eq_false; omega
        have e0 : selM set 0 = [] := rfl
        refine Sub.trans (Sub.frz 20 (.fs 1 (OT.map eI)) rfl (by simp [Wk, Tx.look, List.take_of_length_le, z1, z3])) ?_
        refine Sub.of (hfz hF2) (by simp only [hMS2, go_sem, subT, and_self, Int.natCast_zero]) ?_ (by simp [subK, keys, updH, setH, unown, wkN, Tx.look, y1, y2, z1, z3]) (by simp only []; omega)
        simp [subH, Tx.look, updH, setH, unown, wkN, y1, z1, z3]
       ·clear nd1 nd2 hq0 q0
        rintro ⟨j, i, S⟩ ⟨g1, g2, hle⟩
        simp only at g1 g2 hle ⊢
        have nd1 : ∀ k, k < 1000000 → (10000 * (i + 1) = k) = False := fun k h => by apply eq_false; omega
        have nd2 : ∀ k, k < 1000000 → (k = 10000 * (i + 1)) = False := fun k h => by apply eq_false; omega
        have y_96 : (y = 96) = False := by apply eq_false; omega
        have n96_y : (96 = y) = False := by apply eq_false; omega
        have y_n1 : ∀ kk, (10000 * (i + 1) + kk = y) = False := fun kk => by apply eq_false; omega
        have y_n2 : ∀ kk, (y = 10000 * (i + 1) + kk) = False := fun kk => by apply eq_false; omega
        have y_n3 : (10000 * (i + 1) = y) = False := by apply eq_false; omega
        have y_n4 : (y = 10000 * (i + 1)) = False := by apply eq_false; omega
        have y_n5 : ∀ kk, ((⟨L + 1, y⟩ : Nm) == ⟨L + 1, 10000 * (i + 1) + kk⟩) = false := fun kk => by simp; omega
        by_cases hj : j < 2
        ·have f3 : decide ((j : Int) < 2) = true := dT (by omega)
         have wj : IntKind.i64.wrap ((j : Int) + 1) = (j : Int) + 1 := Sx.wrap_i64 ⟨by omega, by omega⟩
         obtain ⟨X, hX, hMX⟩ := hM2 j hj
         simp only [f3, hMX, Int.toNat_natCast, y_96, Nat.add_assoc, go_sem]
         repeat refine sd2 ?_
         have hak := fun F L nx => askAll_ok (F := F) (L := L) (nx := nx) S hle last X hX
         have hrk := fun F L nx => refAskAll_ok (F := F) (L := L) (nx := nx) S hle last X hX
         obtain ⟨n1, n2⟩ := askR_le hle last X hX
         obtain ⟨r, hr⟩ : ∃ r, r = askR S last X := ⟨_, rfl⟩
         rw [← hr] at hak hrk n1 n2
         obtain ⟨S', x', e⟩ := r
         simp only at n1 n2
         have hsa := fun F L nx => sameS_ok (F := F) (L := L) (nx := nx) S'.out S'.inn S'.asked S'.num S'.seen S'.ps (by have := n1.o; omega) (by have := n1.i; omega) (by have := n1.a; omega) (by have := n1.p; omega)
         have hsr := fun F L nx => sameRst_ok (F := F) (L := L) (nx := nx) x' (by omega)
         have e0 : (e != e) = false := neF rfl
         simp only [ansR_ok, StX.v_eq, StX.cells] at hak hrk
         simp only [strV] at hsa
         simp only [Rst.v_eq] at hsr
         refine CallVC.same (hak _ _ _) ?_
         simp only [y_96, y_n1, y_n2, nS2, nS2', Nat.add_assoc, go_sem]
         repeat refine sd2 ?_
         refine CallVC.same (hrk _ _ _) ?_
         simp only [e0, y_n1, nS2, nS2', Nat.add_assoc, go_sem]
         repeat refine sd2 ?_
         refine CallVC.same (hsa _ _ _) ?_
         simp only [y_n1, nS2, nS2', Nat.add_assoc, go_sem]
         repeat refine sd2 ?_
         refine CallVC.same (hsr _ _ _) ?_
         cases he : e == 0 with
         | false =>
          simp only [wj, he, Nat.add_assoc, go_sem]
          repeat refine sd2 ?_
          refine ⟨⟨j + 1, i + 1, S⟩, ⟨by simp only []; omega, by simp only []; omega, hle⟩, by simp only []; omega, ?_⟩
          refine Sub.o hF2 ?_
          simp [subH, Tx.look, y_96]
         | true =>
          simp only [wj, he, y_96, y_n1, y_n2, nS2, nS2', Nat.add_assoc, go_sem]
          repeat refine sd2 ?_
          refine ⟨⟨j + 1, i + 1, S'⟩, ⟨by simp only []; omega, by simp only []; omega, n1⟩, by simp only []; omega, ?_⟩
          refine Sub.o hF2 ?_
          simp [subH, Tx.look, y_96]
        ·have f3 : decide ((j : Int) < 2) = false := dF (by omega)
         have t7 : ((set : Int).tmod 8) = ((set % 8 : Nat) : Int) := rfl
         simp only [f3, t7, y_96, n96_y, y_n1, y_n2, nS2, nS2', Nat.add_assoc, go_sem]
         repeat refine sd2 ?_
         obtain ⟨MS3, hMS3⟩ : ∃ x : List PV, x = [.int .i64 rs.k, .int .i64 rs.n, .int .i64 rs.la, .int .i64 rs.r, .fs 1 (ss2.map eI), .int .i64 1, .int .i64 ((IntKind.i64.wrap (IntKind.i64.wrap (S.seen + bk) + 4294967296)).tmod 4294967296), .int .i64 (Sx.ibits .and .i64 (IntKind.i64.wrap (last + bk)) 4294967295), .int .i64 0, .fs 1 (OT.map eI), .int .i64 2, .int .i64 S.num, .int .i64 0, .int .i64 ((set % 8 : Nat) : Int), .fs 1 []] := ⟨_, rfl⟩
         have hML3 : MS3.length = 15 := by rw [hMS3]; rfl
         have hM3 : ∀ j, j < 3 → ∃ X : Rst, X.ss.length ≤ 1000 ∧ (MS3.drop (j * 5)).take 5 = [.int .i64 X.k, .int .i64 X.n, .int .i64 X.la, .int .i64 X.r, .fs 1 (X.ss.map eI)] := by
          intro j hj
          rcases (show j = 0 ∨ j = 1 ∨ j = 2 by omega) with rfl | rfl | rfl
          ·exact ⟨⟨rs.k, rs.n, rs.la, rs.r, ss2⟩, by simp only []; omega, by rw [hMS3]; rfl⟩
          ·exact ⟨⟨1, _, _, 0, OT⟩, by simp only []; omega, by rw [hMS3]; rfl⟩
          ·exact ⟨⟨2, S.num, 0, ((set % 8 : Nat) : Int), []⟩, by simp, by rw [hMS3]; rfl⟩
         refine loopK.intro _ _ (I := fun z : RtX => ⟨[none, none, none, some (.int .i64 last), some (.fs 1 (l2.map eI)), none, some (.int .u16 set), some (.int .i8 bk), none, none, none, none, none, some (.ptr ⟨L + 1, 96⟩ 0 0), none, none, some (.bool false), none, some (.ptr ⟨L + 1, y⟩ 0 0), none, none, none, none, none, none, none, none, none, none, none, none, none, none, none, none, none, none, none, none, none, none, none, none, none, none, none, none, none, none, none, none, none, none, none, none, none, none, none, none, none, none, none, none, some (.agg ALL), some (.int .i64 x), none, none, none, none, none, none, none, none, none, none, none, none, none, none, none, none, none, none, none, none, none, none, none, none, none, none, none, none, none, none, none, none, none, none, none, none, none, none, none, none, none, none, none, none, none, none, none, none, none, none, none, none, none, none, none, none, none, none, none, none, none, none, none, none, none, none, none, none, none, none, none, none, none, none, none, none, none, none, none, none, none, none, none, none, none, none, none, none, none, none, none, none, none, none, none, none, none, none, none, none, some (.agg MS3), some (.int .i64 z.x), none, none, none, none, none, none, none, none, none, none, none, none, none, none, none, none, none, none, none, none, none, none, none, none, none, none, none, none, none, none, none, none, none, none, none, none, none, none, none, none, none, none, none, none, none, none, none, none, none, none, none, none, none, none, none, none], [(⟨L + 1, 96⟩, .rows 75 5 true true [[.int .i64 rs.k, .int .i64 rs.n, .int .i64 rs.la, .int .i64 rs.r, .fs 1 (ss2.map eI)]]), (⟨L + 1, y⟩, .rows 41 6 true true [[.fs 1 (S.out.map eI), .fs 1 (S.inn.map eI), .fs 8 (S.ps.map Dat.row), .int .i64 S.num, .int .i64 S.seen, .fs 1 (S.asked.map eI)]])], 10000 * (z.i + 1)⟩) (pre := fun z => z.x ≤ 3 ∧ y < 10000 * (z.i + 1)) (μ := fun z => 3 - z.x) ⟨0, i + 1⟩ ⟨by simp, by simp only []; omega⟩ ?_ ?_
         ·refine Sub.trans (Sub.frz 165 (.agg MS3) rfl (by rw [hMS3]; simp [Wk, WkL])) ?_
          rw [hMS3]
          refine Sub.of (hfz hF2) (by simp only [go_sem, subT, and_self, Int.natCast_zero]) ?_ (by simp [subK, keys, updH, unown, wkN, wkNL, Tx.look, y_96, n96_y, y_n1]) (by simp only []; omega)
          simp [subH, Tx.look, updH, unown, wkN, wkNL, y_96]
         ·clear nd1 nd2
          rintro ⟨j, i⟩ ⟨g1, g2⟩
          simp only at g1 g2 ⊢
          have nd1 : ∀ k, k < 1000000 → (10000 * (i + 1) = k) = False := fun k h => by apply eq_false; omega
          have nd2 : ∀ k, k < 1000000 → (k = 10000 * (i + 1)) = False := fun k h => by apply eq_false; omega
          have y_96 : (y = 96) = False := by apply eq_false; omega
          have n96_y : (96 = y) = False := by apply eq_false; omega
          have y_n1 : ∀ kk, (10000 * (i + 1) + kk = y) = False := fun kk => by apply eq_false; omega
          have y_n2 : ∀ kk, (y = 10000 * (i + 1) + kk) = False := fun kk => by apply eq_false; omega
          have y_n3 : (10000 * (i + 1) = y) = False := by apply eq_false; omega
          have y_n4 : (y = 10000 * (i + 1)) = False := by apply eq_false; omega
          have y_n5 : ∀ kk, ((⟨L + 1, y⟩ : Nm) == ⟨L + 1, 10000 * (i + 1) + kk⟩) = false := fun kk => by simp; omega
          by_cases hj : j < 3
          ·have f4 : decide ((j : Int) < 3) = true := dT (by omega)
           have wj : IntKind.i64.wrap ((j : Int) + 1) = (j : Int) + 1 := Sx.wrap_i64 ⟨by omega, by omega⟩
           obtain ⟨X, hX, hMX⟩ := hM3 j hj
           have hak := fun F L nx => askedAll_ok (F := F) (L := L) (nx := nx) S hle last X hX
           have hrk := fun F L nx => refAskedAll_ok (F := F) (L := L) (nx := nx) S hle last X hX
           have haw := fun F L nx => answeredAll_ok (F := F) (L := L) (nx := nx) S hle X hX
           have hrw := fun F L nx => refAnsweredAll_ok (F := F) (L := L) (nx := nx) S hle X hX
           obtain ⟨n1, n2⟩ := askedR_le hle last X
           have n3 := answeredR_le hle X
           obtain ⟨r, hr⟩ : ∃ r, r = askedR S last X := ⟨_, rfl⟩
           obtain ⟨r2, hr2⟩ : ∃ r, r = answeredR S X := ⟨_, rfl⟩
           rw [← hr] at hak hrk n1 n2
           rw [← hr2] at haw hrw n3
           obtain ⟨S', x', e⟩ := r
           obtain ⟨S4, e4⟩ := r2
           simp only at n1 n2 n3
           have hsa := fun F L nx => sameS_ok (F := F) (L := L) (nx := nx) S'.out S'.inn S'.asked S'.num S'.seen S'.ps (by have := n1.o; omega) (by have := n1.i; omega) (by have := n1.a; omega) (by have := n1.p; omega)
           have hsr := fun F L nx => sameRst_ok (F := F) (L := L) (nx := nx) x' (by omega)
           have hsb := fun F L nx => sameS_ok (F := F) (L := L) (nx := nx) S4.out S4.inn S4.asked S4.num S4.seen S4.ps (by have := n3.o; omega) (by have := n3.i; omega) (by have := n3.a; omega) (by have := n3.p; omega)
           have e0 : (e != e) = false := neF rfl
           have e5 : (e4 != e4) = false := neF rfl
           simp only [ansR_ok, StX.v_eq, StX.cells, Rst.v_eq] at hak hrk
           simp only [ansA_ok, StX.v_eq, StX.cells, Rst.v_eq] at haw hrw
           simp only [strV] at hsa hsb
           simp only [Rst.v_eq] at hsr
           simp only [f4, hMX, Int.toNat_natCast, y_96, y_n1, y_n2, nd1, Nat.add_assoc, go_sem]
           repeat refine sd2 ?_
           refine CallVC.same (hak _ _ _) ?_
           simp only [y_96, y_n1, y_n2, nd1, nS2, nS2', Nat.add_assoc, go_sem]
           repeat refine sd2 ?_
           refine CallVC.same (hrk _ _ _) ?_
           simp only [e0, y_n1, nS2, nS2', Nat.add_assoc, go_sem]
           repeat refine sd2 ?_
           refine CallVC.same (hsa _ _ _) ?_
           simp only [y_n1, nS2, nS2', Nat.add_assoc, go_sem]
           repeat refine sd2 ?_
           refine CallVC.same (hsr _ _ _) ?_
           simp only [y_96, y_n1, y_n2, nd1, nS2', Nat.add_assoc, go_sem]
           repeat refine sd2 ?_
           refine CallVC.same (haw _ _ _) ?_
           simp only [y_96, y_n1, y_n2, nd1, nS2, nS2', Nat.add_assoc, go_sem]
           repeat refine sd2 ?_
           refine CallVC.same (hrw _ _ _) ?_
           simp only [e5, y_n1, nS2, nS2', Nat.add_assoc, go_sem]
           repeat refine sd2 ?_
           refine CallVC.same (hsb _ _ _) ?_
           simp only [wj, Nat.add_assoc, go_sem]
           repeat refine sd2 ?_
           refine ⟨⟨j + 1, i + 1⟩, ⟨by simp only []; omega, by simp only []; omega⟩, by simp only []; omega, ?_⟩
           refine Sub.o hF2 ?_
           simp [subH, Tx.look, y_96]
          ·have f4 : decide ((j : Int) < 3) = false := dF (by omega)
           simp only [f4, wx, Nat.add_assoc, go_sem]
           repeat refine sd2 ?_
           refine ⟨⟨x + 1, i + 1⟩, ⟨by simp only []; omega, by simp only []; omega⟩, by simp only []; omega, ?_⟩
           refine Sub.o hF2 ?_
           simp [subH, Tx.look]
  ·have f1 : decide ((x : Int) < 3) = false := dF (by omega)
   simp only [f1, Nat.add_assoc, go_sem]
   repeat refine sd2 ?_
   exact .bool (.inr rfl) rfl rfl (by simp [UpdAll])
end Go.Proofs.YtfhhbkehlfipgaaGreat
end
