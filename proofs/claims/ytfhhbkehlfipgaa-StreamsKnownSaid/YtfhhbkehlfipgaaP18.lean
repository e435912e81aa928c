/- Lemmas for the walk: YC55, T36, YC86. -/
import Derived.Test.YtfhhbkehlfipgaaP15
import Derived.Test.YtfhhbkehlfipgaaP10
import Derived.Test.YtfhhbkehlfipgaaP17
import Derived.Test.YtfhhbkehlfipgaaP14
import Derived.Test.YtfhhbkehlfipgaaP16
set_option linter.all false
section
namespace Go.Proofs.Ytfhhbkehlfipgaa
open Go.Tx
set_option maxRecDepth 100000
set_option maxHeartbeats 16000000
theorem strW0 : Str0 [0, 0] [0, 0] 0 (-1) [] := ⟨by decide, by decide, by decide, by decide, by decide, by decide, by decide, .inl rfl, rfl, by simp⟩
theorem works_ok {F : SF} {L nx : Nat} : Con Try.prog 32 [] F L nx nx (.bool true) [] [] := by
 have f0 : ((0 : Int) != 0) = false := rfl
 have eI0 : ∀ x : Int, eI x = [.int .i64 x] := fun _ => rfl
 have hrep := fun F L nx => repeat_ok (F := F) (L := L) (nx := nx) [109] 2500 (by omega) (by simp)
 rw [repeatL_one, show List.replicate 2500 (109 : UInt8) = txW from rfl] at hrep
 have hme : ∀ m ∈ [mW, nW], MsgOk 2 m := by
  intro m hm
  simp only [List.mem_cons, List.not_mem_nil, or_false] at hm
  rcases hm with rfl | rfl
  ·exact ⟨by decide, by decide, by decide, by show 1 ≤ txW.length; rw [txW_len]; omega, by show txW.length ≤ 8000; rw [txW_len]; omega⟩
  ·exact ⟨by decide, by decide, by decide, by decide, by decide⟩
 have hnum := fun F L nx => numbered_ok (F := F) (L := L) (nx := nx) [0, 0] [0, 0] 0 (by decide) (by decide) (by decide) (by decide) (by decide) (by decide) (by decide) [mW, nW] hme (by decide) 10 (by decide) (by decide)
 rw [numW] at hnum
 have q0 := pW_len0
 have q1 := pW_len1
 have q2 := pW_len2
 have q3 := pW_all
 obtain ⟨p, hp⟩ : ∃ x, x = pW 0 := ⟨_, rfl⟩
 obtain ⟨q, hq⟩ : ∃ x, x = pW 1 := ⟨_, rfl⟩
 obtain ⟨r, hr⟩ : ∃ x, x = pW 2 := ⟨_, rfl⟩
 obtain ⟨X, hX⟩ : ∃ x, x = txW := ⟨_, rfl⟩
 have hXl := txW_len
 rw [← hp] at q0 q3 hnum
 rw [← hq] at q1 q3 hnum
 rw [← hr] at q2 q3 hnum
 simp only [strV, List.map_cons, List.map_nil, Dat.row, Msg.row, l0, l1, l2, l3, mW, nW, eI0] at hnum
 rw [← hX] at hnum hrep q3 hXl
 have pl0 : ((p.length : Int) != 1000) = false := by rw [q0]; rfl
 have pl2 : ((r.length : Int) != 500) = false := by rw [q2]; rfl
 have n44 : (((4 : Nat) : Int) != 4) = false := rfl
 have n11 : (((1 : Nat) : Int) == 1) = true := rfl
 have n00 : (((0 : Nat) : Int) != 0) = false := rfl
 have n55 : ((8 : Int) == 8) = true := rfl
 have hP0 : PsOk [0, 0] [] := ⟨by simp, by simp, by simp⟩
 have ok0 : (l0 p).ok = true := by
  have h32 : (2 : Int) ^ (Int.toNat 32) = 4294967296 := rfl
  have h16 : (2 : Int) ^ (Int.toNat 16) = 65536 := rfl
  simp [Dat.ok, l0, serB, q0]
 have ok1 : (l1 q).ok = true := by
  have h32 : (2 : Int) ^ (Int.toNat 32) = 4294967296 := rfl
  have h16 : (2 : Int) ^ (Int.toNat 16) = 65536 := rfl
  simp [Dat.ok, l1, serB, q1]
 have ok2 : (l2 r).ok = true := by
  have h32 : (2 : Int) ^ (Int.toNat 32) = 4294967296 := rfl
  have h16 : (2 : Int) ^ (Int.toNat 16) = 65536 := rfl
  simp [Dat.ok, l2, serB, q2]
 have ok3 : l3.ok = true := rfl
 have ok4 : l4.ok = true := rfl
 have okA : ∀ d ∈ [l3, l2 r, l0 p], d.ok = true ∧ d.st < ([0, 0] : List Int).length := by
  intro d hd
  simp only [List.mem_cons, List.not_mem_nil, or_false] at hd
  rcases hd with rfl | rfl | rfl <;> exact ⟨by assumption, by show (1 : Int) < 2; omega⟩
 have okB : ∀ d ∈ [l3, l2 r, l0 p, l1 q], d.ok = true ∧ d.st < ([0, 0] : List Int).length := by
  intro d hd
  simp only [List.mem_cons, List.not_mem_nil, or_false] at hd
  rcases hd with rfl | rfl | rfl | rfl <;> exact ⟨by assumption, by show (1 : Int) < 2; omega⟩
 have okC : ∀ d ∈ [l4], d.ok = true ∧ d.st < ([0, 0] : List Int).length := by
  intro d hd
  simp only [List.mem_cons, List.not_mem_nil, or_false] at hd
  rcases hd with rfl <;> exact ⟨by assumption, by show (1 : Int) < 2; omega⟩
 have okD : ∀ d ∈ [l4, l2 r, l0 p, l1 q], d.ok = true ∧ d.st < ([0, 0] : List Int).length := by
  intro d hd
  simp only [List.mem_cons, List.not_mem_nil, or_false] at hd
  rcases hd with rfl | rfl | rfl | rfl <;> exact ⟨by assumption, by show (1 : Int) < 2; omega⟩
 have okE : ∀ d ∈ [l3], d.ok = true ∧ d.st < ([0, 0] : List Int).length := by
  intro d hd
  simp only [List.mem_cons, List.not_mem_nil, or_false] at hd
  rcases hd with rfl <;> exact ⟨by assumption, by show (1 : Int) < 2; omega⟩
 have hcA := fun F L nx => comes_ok (F := F) (L := L) (nx := nx) [0, 0] [0, 0] [] 0 (-1) strW0 [] hP0 rfl _ okA (by simp)
 have hcB := fun F L nx => comes_ok (F := F) (L := L) (nx := nx) [0, 0] [0, 0] [] 0 (-1) strW0 [] hP0 rfl _ okB (by simp)
 have hcC := fun F L nx => comes_ok (F := F) (L := L) (nx := nx) [0, 0] [0, 0] [] 0 (-1) strW0 [] hP0 rfl _ okC (by simp)
 have hcD := fun F L nx => comes_ok (F := F) (L := L) (nx := nx) [0, 0] [0, 0] [] 0 (-1) strW0 [] hP0 rfl _ okD (by simp)
 have hcE := fun F L nx => comes_ok (F := F) (L := L) (nx := nx) [0, 0] [0, 0] [] 0 (-1) strW0 [] hP0 rfl _ okE (by simp)
 rw [comes1] at hcA
 rw [comes2, List.nil_append, List.append_assoc, q3] at hcB
 rw [comes3] at hcC
 rw [comes4, List.nil_append, List.append_assoc, q3] at hcD
 rw [comes5] at hcE
 simp only [strV, List.map_cons, List.map_nil, Dat.row, Msg.row, l0, l1, l2, l3, l4, nW, nW2, eI0] at hcA hcB hcC hcD hcE
 have hsA := fun F L nx => same_ok (F := F) (L := L) (nx := nx) [⟨1, 0, false, X⟩, nW] [⟨1, 0, false, X⟩, nW] (by simp) (by simp)
 have hsB := fun F L nx => same_ok (F := F) (L := L) (nx := nx) [nW2] [nW2] (by simp) (by simp)
 have hsC := fun F L nx => same_ok (F := F) (L := L) (nx := nx) [nW2, ⟨1, 0, false, X⟩] [nW2, ⟨1, 0, false, X⟩] (by simp) (by simp)
 have hsD := fun F L nx => same_ok (F := F) (L := L) (nx := nx) [nW] [nW] (by simp) (by simp)
 simp only [List.map_cons, List.map_nil, Msg.row, nW, nW2, decide_true] at hsA hsB hsC hsD
 have hP3 : PsOk [0, 0] [l3] := ⟨by simp, by intro d hd; simp only [List.mem_cons, List.not_mem_nil, or_false] at hd; subst hd; rfl, by simp⟩
 have hsk := fun F L nx => skip_ok (F := F) (L := L) (nx := nx) [0, 0] [0, 0] [] 0 (-1) strW0 [l3] hP3 rfl 12 [(1, 0)] rfl rfl
 rw [skipW] at hsk
 have hd1 := fun F L nx => dropsAll_ok (F := F) (L := L) (nx := nx) (flW p q r) [-1, 0] (by simp [flW]) (by simp)
 have hd2 := fun F L nx => dropsAll_ok (F := F) (L := L) (nx := nx) (flW p q r) [-1, 1] (by simp [flW]) (by simp)
 rw [dropsW1] at hd1
 rw [dropsW2] at hd2
 have hi1 := fun F L nx => ints_ok (F := F) (L := L) (nx := nx) [10, 11, 12] [10, 11, 12] (by simp) (by simp)
 have hi2 := fun F L nx => ints_ok (F := F) (L := L) (nx := nx) [0, 0] [0, 0] (by simp) (by simp)
 rw [show (([10, 11, 12] : List Int) == [10, 11, 12]) = true from rfl] at hi1
 rw [show (([0, 0] : List Int) == [0, 0]) = true from rfl] at hi2
 have hS2 : Str0 [0, 2] [0, 0] 0 (-1) [] := ⟨by decide, by decide, by decide, by decide, by decide, by decide, by decide, .inl rfl, rfl, by simp⟩
 have hS3 : Str0 [0, 2] [0, 0] 0 (-1) [1] := ⟨by decide, by decide, by decide, by decide, by decide, by decide, by decide, .inl rfl, rfl, by simp⟩
 have hask := fun F L nx => ask0_ok (F := F) (L := L) (nx := nx) [0, 2] [0, 0] 0 (-1) hS2 13 [1] (by decide) (by decide) rfl (by decide)
 have hs8 := fun F L nx => send8_ok (F := F) (L := L) (nx := nx) [0, 2] [0, 0] [1] 0 (-1) hS3 [] hP0 rfl 1 0 false [110] (by decide) (by decide) (by decide) (by decide) (by decide) rfl
 have hans := fun F L nx => answered1_ok (F := F) (L := L) (nx := nx) [0, 2] [0, 0] 0 (-1) [1] (by decide) hS3 rfl
 rw [show zeroAt [0, 2] [1] ([1] : List Int).length = [0, 0] from rfl, show ((0 : Int) + 1) % 4294967296 = 1 from rfl] at hans
 have hs9 := fun F L nx => sendF_ok (F := F) (L := L) (nx := nx) [0, 0] [0, 0] 1 (by decide) (by decide) (by decide) (by decide) (by decide) (by decide) (by decide) 1 0 false [110] (by decide) (by decide) (by decide) (by decide)
 rw [show sendD ((1 : Nat) : Int) 0 (seqS [0, 0] 1 false) false [110] ((([110] : List UInt8).length + 999) / 1000) = [⟨0, 1, 0, 0, true, true, false, [110]⟩] from rfl, show outS [0, 0] 1 false = [0, 1] from rfl, show ((1 : Nat) : Int) = 1 from rfl] at hs9
 simp only [strV, strZ, strV0, rstP, fwdP, kE, List.map_cons, List.map_nil, Dat.row, Msg.row, Fl.row, l0, l1, l2, l3, nW, eI0, flW] at hsk hd1 hd2 hi1 hi2 hask hs8 hans hs9
 refine bdy Try.f32 ?_
 intro F3 hF1 hF2
 simp (config := {maxSteps := 2000000}) only [Try.f32, cx, List.append_eq, List.cons_append, List.nil_append]
 simp (config := {maxSteps := 2000000}) only [Nat.reduceAdd, go_sem, meths, Nat.reduceSub, Nat.reduceAdd, Nat.reduceLT]
 refine CallVC.same (new_ok 2 2 (by omega) (by omega) (by omega) (by omega)) ?_
 simp (config := {maxSteps := 2000000}) only [strV, zrs, List.replicate, List.map_cons, eI0, Nat.reduceBEq, Nat.reduceAdd, go_sem, Nat.reduceAdd, Nat.reduceLT, Nat.reduceLeDiff, Nat.reduceBEq]
 refine CallVC.same (hrep _ _ _) ?_
 simp (config := {maxSteps := 2000000}) only [Nat.reduceBEq, Nat.reduceAdd, go_sem, Nat.reduceAdd, Nat.reduceMul, Nat.reduceEqDiff, Nat.reduceLT, Nat.reduceLeDiff, Nat.reduceBEq]
 refine CallVC.gen (by simp [Wk, WkL]) (hnum _ _ _) ?_
 simp (config := {maxSteps := 2000000}) only [wkNL, wkN, unown, f0, n44, pl0, pl2, Nat.reduceBEq, Nat.reduceAdd, Nat.add_zero, go_sem, Nat.reduceAdd, Nat.reduceMul, Nat.reduceEqDiff, Nat.reduceLT, Nat.reduceLeDiff, Nat.reduceBEq, Int.reduceToNat]
 repeat refine sd1 ?_
 refine CallVC.gen (by simp [Wk, WkL]) (hcA _ _ _) ?_
 simp (config := {maxSteps := 2000000}) only [wkNL, wkN, unown, Nat.reduceBEq, Nat.reduceAdd, Nat.add_zero, go_sem, Nat.reduceAdd, Nat.reduceMul, Nat.reduceEqDiff, Nat.reduceLT, Nat.reduceLeDiff, Nat.reduceBEq, Int.reduceToNat]
 repeat refine sd1 ?_
 refine CallVC.gen (by simp [Wk, WkL]) (hcB _ _ _) ?_
 simp (config := {maxSteps := 2000000}) only [wkNL, wkN, unown, Nat.reduceBEq, Nat.reduceAdd, go_sem, Nat.reduceAdd, Nat.reduceMul, Nat.reduceEqDiff, Nat.reduceLT, Nat.reduceLeDiff, Nat.reduceBEq, Int.reduceToNat]
 repeat refine sd1 ?_
 refine CallVC.gen (by simp [Wk, WkL]) (hcC _ _ _) ?_
 simp (config := {maxSteps := 2000000}) only [wkNL, wkN, unown, Nat.reduceBEq, Nat.reduceAdd, Nat.add_zero, go_sem, Nat.reduceAdd, Nat.reduceMul, Nat.reduceEqDiff, Nat.reduceLT, Nat.reduceLeDiff, Nat.reduceBEq, Int.reduceToNat]
 repeat refine sd1 ?_
 refine CallVC.gen (by simp [Wk, WkL]) (hcD _ _ _) ?_
 simp (config := {maxSteps := 2000000}) only [wkNL, wkN, unown, n00, Nat.reduceBEq, Nat.reduceAdd, go_sem, Nat.reduceAdd, Nat.reduceMul, Nat.reduceEqDiff, Nat.reduceLT, Nat.reduceLeDiff, Nat.reduceBEq]
 repeat refine sd1 ?_
 refine CallVC.gen (by simp [Wk, WkL]) (hsA _ _ _) ?_
 simp (config := {maxSteps := 2000000}) only [wkNL, wkN, unown, Nat.reduceBEq, Nat.reduceAdd, go_sem, Nat.reduceAdd, Nat.reduceMul, Nat.reduceEqDiff, Nat.reduceLT, Nat.reduceLeDiff, Nat.reduceBEq]
 repeat refine sd1 ?_
 refine CallVC.gen (by simp [Wk, WkL]) (hsB _ _ _) ?_
 simp (config := {maxSteps := 2000000}) only [wkNL, wkN, unown, Nat.reduceBEq, Nat.reduceAdd, go_sem, Nat.reduceAdd, Nat.reduceMul, Nat.reduceEqDiff, Nat.reduceLT, Nat.reduceLeDiff, Nat.reduceBEq]
 repeat refine sd1 ?_
 refine CallVC.gen (by simp [Wk, WkL]) (hsC _ _ _) ?_
 simp (config := {maxSteps := 2000000}) only [wkNL, wkN, unown, Nat.reduceBEq, Nat.reduceAdd, go_sem, Nat.reduceAdd, Nat.reduceMul, Nat.reduceEqDiff, Nat.reduceLT, Nat.reduceLeDiff, Nat.reduceBEq, Int.reduceToNat]
 repeat refine sd1 ?_
 refine CallVC.gen (by simp [Wk, WkL]) (hcE _ _ _) ?_
 simp (config := {maxSteps := 2000000}) only [wkNL, wkN, unown, Nat.reduceBEq, Nat.reduceAdd, go_sem, Nat.reduceAdd, Nat.reduceMul, Nat.reduceEqDiff, Nat.reduceLT, Nat.reduceLeDiff, Nat.reduceBEq]
 repeat refine sd1 ?_
 refine CallVC.gen (by simp [Wk, WkL]) (hsk _ _ _) ?_
 simp (config := {maxSteps := 2000000}) only [wkNL, wkN, unown, f0, Nat.reduceBEq, Nat.reduceAdd, go_sem, Nat.reduceAdd, Nat.reduceMul, Nat.reduceEqDiff, Nat.reduceLT, Nat.reduceLeDiff, Nat.reduceBEq]
 repeat refine sd1 ?_
 refine CallVC.gen (by simp [Wk, WkL]) (hsD _ _ _) ?_
 simp (config := {maxSteps := 2000000}) only [wkNL, wkN, unown, Nat.reduceBEq, Nat.reduceAdd, Nat.add_zero, go_sem, Nat.reduceAdd, Nat.reduceMul, Nat.reduceEqDiff, Nat.reduceLT, Nat.reduceLeDiff, Nat.reduceBEq, Int.reduceToNat]
 repeat refine sd1 ?_
 refine CallVC.gen (by simp [Wk, WkL]) (hd1 _ _ _) ?_
 simp (config := {maxSteps := 2000000}) only [wkNL, wkN, unown, Nat.reduceBEq, Nat.reduceAdd, go_sem, Nat.reduceAdd, Nat.reduceMul, Nat.reduceEqDiff, Nat.reduceLT, Nat.reduceBEq]
 repeat refine sd1 ?_
 refine CallVC.gen (by simp [Wk, WkL]) (hd2 _ _ _) ?_
 simp (config := {maxSteps := 2000000}) only [wkNL, wkN, unown, f0, Nat.reduceBEq, Nat.reduceAdd, go_sem, Nat.reduceAdd, Nat.reduceMul, Nat.reduceEqDiff, Nat.reduceLT, Nat.reduceBEq]
 repeat refine sd1 ?_
 refine CallVC.gen (by simp [Wk, WkL]) (hi1 _ _ _) ?_
 simp (config := {maxSteps := 2000000}) only [wkNL, wkN, unown, f0, n00, Nat.reduceBEq, Nat.reduceAdd, go_sem, Nat.reduceAdd, Nat.reduceMul, Nat.reduceEqDiff, Nat.reduceLT, Nat.reduceLeDiff, Nat.reduceBEq]
 repeat refine sd1 ?_
 refine CallVC.gen (by simp [Wk, WkL]) (hask _ _ _) ?_
 simp (config := {maxSteps := 2000000}) only [wkNL, wkN, unown, Nat.reduceBEq, Nat.reduceAdd, go_sem, Nat.reduceAdd, Nat.reduceEqDiff, Nat.reduceLT, Nat.reduceLeDiff, Nat.reduceBEq]
 repeat refine sd1 ?_
 refine CallVC.same (hs8 _ _ _) ?_
 simp (config := {maxSteps := 2000000}) only [Nat.reduceBEq, Nat.reduceAdd, go_sem, Nat.reduceAdd, Nat.reduceEqDiff, Nat.reduceLT, Nat.reduceLeDiff, Nat.reduceBEq]
 repeat refine sd1 ?_
 refine CallVC.gen (by simp [Wk, WkL]) (hans _ _ _) ?_
 simp (config := {maxSteps := 2000000}) only [wkNL, wkN, unown, Nat.reduceBEq, Nat.reduceAdd, go_sem, Nat.reduceAdd, Nat.reduceEqDiff, Nat.reduceLT, Nat.reduceLeDiff, Nat.reduceBEq]
 repeat refine sd1 ?_
 refine CallVC.same (hs9 _ _ _) ?_
 simp (config := {maxSteps := 2000000}) only [n55, Nat.reduceBEq, Nat.reduceAdd, Nat.add_zero, go_sem, Nat.reduceAdd, Nat.reduceMul, Nat.reduceEqDiff, Nat.reduceLT, Nat.reduceLeDiff, Nat.reduceBEq]
 repeat refine sd1 ?_
 refine CallVC.gen (by simp [Wk, WkL]) (hi2 _ _ _) ?_
 simp (config := {maxSteps := 2000000}) only [wkNL, wkN, unown, n11, Nat.reduceBEq, Nat.reduceAdd, Nat.add_zero, go_sem, Nat.reduceAdd, Nat.reduceEqDiff, Nat.reduceLT, Nat.reduceLeDiff, Nat.reduceBEq, Int.reduceToNat]
 repeat refine sd1 ?_
 exact .bool (.inr rfl) rfl rfl (by simp [UpdAll])
end Go.Proofs.Ytfhhbkehlfipgaa
end
section
namespace Go.Tx
theorem Sub.frz {L : Nat} {F0 : SF} {t : List (Option PV)} {H : List (Nm × SBlk)} {nx : Nat} (d : Nat) {v : PV} (v' : PV) (hd : t[d]? = some (some v)) (hw : Wk (look F0 H) v v') :
  Sub L F0 ⟨t, H, nx⟩ ⟨t.set d (some v'), updH H (unown (look F0 H) (wkN v v')), nx⟩ := by
 intro E0 w0 E a w hd0 hR
 have hle := unown_le (look F0 H) (wkN v v')
 have hS := StepR.less hR.step.rel hle
 refine ⟨E, by rw [look_updH]; exact hR.step.trans hS, ⟨by simpa using hR.tmps.size, fun i x hx => ?_⟩, by rw [look_updH]; exact hR.marks.mono hS.ext, hR.news⟩
 simp only [TF, List.getD_eq_getElem?_getD, List.getElem?_set] at hx
 rw [look_updH]
 by_cases hi : d = i
 ·subst hi
  rw [if_pos rfl] at hx
  have hlt := Sx.lt_of_get hd
  rw [if_pos hlt] at hx
  simp at hx; subst hx
  obtain ⟨y, a1, a2⟩ := hR.tmps.val d v (by simp [TF, List.getD_eq_getElem?_getD, hd])
  exact ⟨y, a1, wk_vr hR.step.rel hle _ _ _ hw (fun n hn c hc => unown_own hn hc) a2⟩
 ·rw [if_neg hi] at hx
  obtain ⟨y, a1, a2⟩ := hR.tmps.val i x (by simpa [TF, List.getD_eq_getElem?_getD] using hx)
  exact ⟨y, a1, VR.mono hS.ext _ _ a2⟩
end Go.Tx
end
section
namespace Go.Proofs.Ytfhhbkehlfipgaa
open Go.Tx
set_option maxRecDepth 100000
set_option maxHeartbeats 16000000
structure KnX where
 x : Nat
 i : Nat
def kS : StX := ⟨zrs 16, zrs 16, [], 0, -1, []⟩
def kD : Dat := ⟨0, 0, 0, 0, false, false, false, []⟩
def kM : StX := bendG 7 3 0 kD kS
def kU : StX := bendG 3 0 0 { kD with fi := true, la := true, pl := [120] } kS
theorem kS_le : kS.Le 1000 := ⟨by decide, by decide, by decide, by decide⟩
theorem kM_le : kM.Le 1000 := (bendG_le (k := 900) ⟨by decide, by decide, by decide, by decide⟩ 7 3 0 kD)
theorem StX.v_cells (s : StX) : s.v = .agg [.fs 1 (s.out.map eI), .fs 1 (s.inn.map eI), .fs 8 (s.ps.map Dat.row), .int .i64 s.num, .int .i64 s.seen, .fs 1 (s.asked.map eI)] := rfl
theorem sd9 {A B : Prop} (h : B) (a : A := by first | omega | exact ⟨by omega, by omega⟩ | exact ⟨by omega, by omega, by omega⟩ | exact ⟨⟨by omega, by omega⟩, by omega, by omega⟩ | exact okS0 (by kernel_rfl) | exact okDyn_num (fun x => x.i) (by kernel_rfl)) : A ∧ B := ⟨a, h⟩
theorem known1_ok {F : SF} {L nx : Nat} (s : StX) (hs : s.Le 1000) (m : Msg) (n : Int) (hn : n ≠ 0) (hE : sendE s.out s.inn s.num s.seen s.asked s.ps m = n) (a : Nm) (ha : a.l ≤ L) (ea : TypeId) (o p : Bool) (hF : F a = some (.rows ea 6 o p [[.fs 1 (s.out.map eI), .fs 1 (s.inn.map eI), .fs 8 (s.ps.map Dat.row), .int .i64 s.num, .int .i64 s.seen, .fs 1 (s.asked.map eI)]])) :
  Con Try.prog 37 [.agg m.row, .ptr a 0 0] F L nx nx (.int .i64 n) [] [a] := by
 have hsd := fun F L nx => sendAll_ok (F := F) (L := L) (nx := nx) s.out s.inn s.asked s.num s.seen s.ps (by have := hs.o; omega) (by have := hs.i; omega) (by have := hs.a; omega) (by have := hs.p; omega) m
 have hv : sendV s.out s.inn s.num s.seen s.asked s.ps m = .tup [strZ, .nilS, .int .i64 n] := by unfold sendV; rw [hE, if_neg hn]
 rw [hv] at hsd
 simp only [strV, strZ, Msg.row] at hsd
 have hsz := fun F L nx => sameS_ok (F := F) (L := L) (nx := nx) [] [] [] 0 0 [] (by simp) (by simp) (by simp) (by simp)
 simp only [strV, List.map_nil] at hsz
 refine bdy Try.f37 (hrd := (by simpa using ha)) ?_
 intro F3 hF1 hF2
 have hF := (hF1 a (by simp)).trans hF
 have q1 := nm_out' ha
 have q2 := nm_out ha
 have q3 : ((0 : Int) != 0) = false := rfl
 simp only [Try.f37, cx, Msg.row, hF, q2, go_sem, meths]
 repeat refine sd9 ?_
 refine CallVC.same (hsd _ _ _) ?_
 simp only [go_sem]
 repeat refine sd9 ?_
 refine CallVC.gen (args2 := [.agg [.fs 1 [], .fs 1 [], .fs 8 [], .int .i64 0, .int .i64 0, .fs 1 []], .agg [.fs 1 [], .fs 1 [], .fs 8 [], .int .i64 0, .int .i64 0, .fs 1 []]]) (by simp [WkL, Wk]) (hsz _ _ _) ?_
 simp only [wkNL, wkN, unown, q3, go_sem]
 repeat refine sd9 ?_
 exact .int (.inr rfl) rfl rfl (by simp [UpdAll])
theorem kS_chk : kS.chk = true := by kernel_rfl
theorem kM_len : kM.ps.length = 80 := by kernel_rfl
theorem kM_1 : takeR kM { kD with tsn := 1, fi := true, pl := [120] } = (StX.z, [], 3) := by kernel_rfl
theorem kM_2 : takeR kM (fillD 0) = (kM, [], 0) := by kernel_rfl
theorem kM_3 : takeR kM { kD with tsn := 1, st := 16, pl := [120] } = (StX.z, [], 2) := by kernel_rfl
theorem kM_4 : takeR kM { kD with tsn := 1 } = (StX.z, [], 320) := by kernel_rfl
theorem kM_5 : skipR kM 0 [(16, 0)] = (StX.z, [], 2) := by kernel_rfl
theorem kM_6 : skipR kM 0 [(1, 0), (1, 0)] = (StX.z, [], 320) := by kernel_rfl
theorem kM_7 : (skipR kM 2000000 []).2.2 = 0 := by kernel_rfl
theorem kM_8 : (skipR kM 2000000 []).1.ps = [] := by kernel_rfl
theorem kU_chk : kU.chk = false := by kernel_rfl
theorem kS_ask1 : askR kS (-1) [0] = (StX.z, Rst.z, 2) := by kernel_rfl
theorem kS_ask2 : askR kS 0 [1, 0] = (StX.z, Rst.z, 2) := by kernel_rfl
theorem kS_ans : answeredR kS ⟨2, 0, 0, 0, []⟩ = (StX.z, 8) := by kernel_rfl
def kE5 : StX := { kS with seen := 5 }
theorem kE_1 : askedR kE5 0 ⟨1, 4, 0, 0, [0]⟩ = (StX.z, Rst.z, 10) := by kernel_rfl
theorem kE_2 : askedR kE5 0 ⟨1, 5, 9, 0, [0]⟩ = (kE5, ⟨2, 5, 0, 1, []⟩, 0) := by kernel_rfl
theorem kE_3 : askedR kE5 0 ⟨1, 6, 1, 0, [0]⟩ = (kE5, ⟨2, 6, 0, 6, []⟩, 0) := by kernel_rfl
theorem kE_4 : askedR kE5 0 ⟨2, 6, 0, 0, []⟩ = (StX.z, Rst.z, 2) := by kernel_rfl
def row98 : TI := ⟨.array 9 95, [.int .u8 0, .int .u8 0, .int .i64 0, .int .i64 0, .int .i64 0, .int .i64 0, .int .i64 0, .bool false, .bool false, .bool false, .str [], .int .u8 0, .int .u8 0, .int .i64 0, .int .i64 0, .int .i64 0, .int .i64 0, .int .i64 0, .bool false, .bool false, .bool false, .str [], .int .u8 0, .int .u8 0, .int .i64 0, .int .i64 0, .int .i64 0, .int .i64 0, .int .i64 0, .bool false, .bool false, .bool false, .str [], .int .u8 0, .int .u8 0, .int .i64 0, .int .i64 0, .int .i64 0, .int .i64 0, .int .i64 0, .bool false, .bool false, .bool false, .str [], .int .u8 0, .int .u8 0, .int .i64 0, .int .i64 0, .int .i64 0, .int .i64 0, .int .i64 0, .bool false, .bool false, .bool false, .str [], .int .u8 0, .int .u8 0, .int .i64 0, .int .i64 0, .int .i64 0, .int .i64 0, .int .i64 0, .bool false, .bool false, .bool false, .str [], .int .u8 0, .int .u8 0, .int .i64 0, .int .i64 0, .int .i64 0, .int .i64 0, .int .i64 0, .bool false, .bool false, .bool false, .str [], .int .u8 0, .int .u8 0, .int .i64 0, .int .i64 0, .int .i64 0, .int .i64 0, .int .i64 0, .bool false, .bool false, .bool false, .str [], .int .u8 0, .int .u8 0, .int .i64 0, .int .i64 0, .int .i64 0, .int .i64 0, .int .i64 0, .bool false, .bool false, .bool false, .str []], 99, 648, false, []⟩
def tysX : Tys := (98, row98) :: tys
theorem tok98 : TOk Try.prog 98 row98 (.agg #[Value.int IntKind.u8 0, Value.int IntKind.u8 0, Value.int IntKind.i64 0, Value.int IntKind.i64 0, Value.int IntKind.i64 0, Value.int IntKind.i64 0, Value.int IntKind.i64 0, Value.bool false, Value.bool false, Value.bool false, Value.string { data := #[] }, Value.int IntKind.u8 0, Value.int IntKind.u8 0, Value.int IntKind.i64 0, Value.int IntKind.i64 0, Value.int IntKind.i64 0, Value.int IntKind.i64 0, Value.int IntKind.i64 0, Value.bool false, Value.bool false, Value.bool false, Value.string { data := #[] }, Value.int IntKind.u8 0, Value.int IntKind.u8 0, Value.int IntKind.i64 0, Value.int IntKind.i64 0, Value.int IntKind.i64 0, Value.int IntKind.i64 0, Value.int IntKind.i64 0, Value.bool false, Value.bool false, Value.bool false, Value.string { data := #[] }, Value.int IntKind.u8 0, Value.int IntKind.u8 0, Value.int IntKind.i64 0, Value.int IntKind.i64 0, Value.int IntKind.i64 0, Value.int IntKind.i64 0, Value.int IntKind.i64 0, Value.bool false, Value.bool false, Value.bool false, Value.string { data := #[] }, Value.int IntKind.u8 0, Value.int IntKind.u8 0, Value.int IntKind.i64 0, Value.int IntKind.i64 0, Value.int IntKind.i64 0, Value.int IntKind.i64 0, Value.int IntKind.i64 0, Value.bool false, Value.bool false, Value.bool false, Value.string { data := #[] }, Value.int IntKind.u8 0, Value.int IntKind.u8 0, Value.int IntKind.i64 0, Value.int IntKind.i64 0, Value.int IntKind.i64 0, Value.int IntKind.i64 0, Value.int IntKind.i64 0, Value.bool false, Value.bool false, Value.bool false, Value.string { data := #[] }, Value.int IntKind.u8 0, Value.int IntKind.u8 0, Value.int IntKind.i64 0, Value.int IntKind.i64 0, Value.int IntKind.i64 0, Value.int IntKind.i64 0, Value.int IntKind.i64 0, Value.bool false, Value.bool false, Value.bool false, Value.string { data := #[] }, Value.int IntKind.u8 0, Value.int IntKind.u8 0, Value.int IntKind.i64 0, Value.int IntKind.i64 0, Value.int IntKind.i64 0, Value.int IntKind.i64 0, Value.int IntKind.i64 0, Value.bool false, Value.bool false, Value.bool false, Value.string { data := #[] }, Value.int IntKind.u8 0, Value.int IntKind.u8 0, Value.int IntKind.i64 0, Value.int IntKind.i64 0, Value.int IntKind.i64 0, Value.int IntKind.i64 0, Value.int IntKind.i64 0, Value.bool false, Value.bool false, Value.bool false, Value.string { data := #[] }]) := ⟨⟨by kernel_rfl, by kernel_rfl, rfl, rfl, rfl, (fun h => by cases h), rfl⟩, by simp [ofVl, ofV, Go.Sx.cellsOf, row98], by simp [row98]⟩
theorem tysXOk : Tys.Ok Try.prog tysX := by
 intro t i h
 simp only [tysX, Tys.get] at h
 split at h
 ·rename_i he
  injection h with h; subst h
  have := eq_of_beq he; subst this
  exact ⟨_, tok98⟩
 ·exact tysOk t i h
theorem fieldsX : AllFields tysX := FieldsIn.ok (by kernel_rfl)
theorem gX (n : Nat) : Tys.get tysX n = if (98 == n) = true then some ⟨.array 9 95, [.int .u8 0, .int .u8 0, .int .i64 0, .int .i64 0, .int .i64 0, .int .i64 0, .int .i64 0, .bool false, .bool false, .bool false, .str [], .int .u8 0, .int .u8 0, .int .i64 0, .int .i64 0, .int .i64 0, .int .i64 0, .int .i64 0, .bool false, .bool false, .bool false, .str [], .int .u8 0, .int .u8 0, .int .i64 0, .int .i64 0, .int .i64 0, .int .i64 0, .int .i64 0, .bool false, .bool false, .bool false, .str [], .int .u8 0, .int .u8 0, .int .i64 0, .int .i64 0, .int .i64 0, .int .i64 0, .int .i64 0, .bool false, .bool false, .bool false, .str [], .int .u8 0, .int .u8 0, .int .i64 0, .int .i64 0, .int .i64 0, .int .i64 0, .int .i64 0, .bool false, .bool false, .bool false, .str [], .int .u8 0, .int .u8 0, .int .i64 0, .int .i64 0, .int .i64 0, .int .i64 0, .int .i64 0, .bool false, .bool false, .bool false, .str [], .int .u8 0, .int .u8 0, .int .i64 0, .int .i64 0, .int .i64 0, .int .i64 0, .int .i64 0, .bool false, .bool false, .bool false, .str [], .int .u8 0, .int .u8 0, .int .i64 0, .int .i64 0, .int .i64 0, .int .i64 0, .int .i64 0, .bool false, .bool false, .bool false, .str [], .int .u8 0, .int .u8 0, .int .i64 0, .int .i64 0, .int .i64 0, .int .i64 0, .int .i64 0, .bool false, .bool false, .bool false, .str []], 99, 648, false, []⟩ else Tys.get tys n := rfl
noncomputable def cxk (L : Nat) : Cx := ⟨Try.prog, tysX, meths, false, L, none, []⟩
theorem cxkOk (L : Nat) : (cxk L).Ok := ⟨tysXOk, fieldsX, mixedOk, methsOk⟩
theorem knownLaw_ok {F : SF} {L nx : Nat} : Con Try.prog 9 [] F L nx nx (.bool true) [] [] := by
 obtain ⟨s, hs⟩ : ∃ s, s = kS := ⟨_, rfl⟩
 obtain ⟨M, hM⟩ : ∃ s, s = kM := ⟨_, rfl⟩
 obtain ⟨U, hU⟩ : ∃ s, s = kU := ⟨_, rfl⟩
 obtain ⟨E5, hE5⟩ : ∃ s, s = kE5 := ⟨_, rfl⟩
 obtain ⟨T, hT⟩ : ∃ T, T = List.replicate 8001 (116 : UInt8) := ⟨_, rfl⟩
 have hTl : T.length = 8001 := by rw [hT]; simp
 obtain ⟨T8, hT8⟩ : ∃ x, x = T.take 8000 := ⟨_, rfl⟩
 have hT8l : T8.length = 8000 := by rw [hT8]; simp; omega
 have hsl : s.Le 1000 := by rw [hs]; exact kS_le
 have hMl : M.Le 1000 := by rw [hM]; exact kM_le
 have hso : s.out.length = 16 := by rw [hs]; rfl
 have hM80 : M.ps.length = 80 := by rw [hM]; exact kM_len
 have hchk : chkB s.out s.inn s.num s.seen s.asked s.ps = true := by rw [hs]; exact kS_chk
 have c_new : ∀ F L nx, Con Try.prog 20 [.int .i64 16, .int .i64 16] F L nx nx (.tup [.agg [.fs 1 (s.out.map eI), .fs 1 (s.inn.map eI), .fs 8 (s.ps.map Dat.row), .int .i64 s.num, .int .i64 s.seen, .fs 1 (s.asked.map eI)], .int .i64 0]) [] [] := by
  intro F L nx
  rw [hs]
  exact new_ok 16 16 (by omega) (by omega) (by omega) (by omega)
 have c_n1 : ∀ F L nx, Con Try.prog 20 [.int .i64 0, .int .i64 1] F L nx nx (.tup [.agg [.nilS, .nilS, .nilS, .int .i64 0, .int .i64 0, .nilS], .int .i64 2]) [] [] := by
  intro F L nx
  exact newBad_ok 0 1 (by omega)
 have c_n2 : ∀ F L nx, Con Try.prog 20 [.int .i64 1, .int .i64 17] F L nx nx (.tup [.agg [.nilS, .nilS, .nilS, .int .i64 0, .int .i64 0, .nilS], .int .i64 2]) [] [] := by
  intro F L nx
  exact newBad_ok 1 17 (by omega)
 have c_rep : ∀ F L nx, Con Try.prog 36 [.str [116], .int .i64 8001] F L nx nx (.str T) [] [] := by
  intro F L nx
  have h := repeat_ok (F := F) (L := L) (nx := nx) [116] 8001 (by omega) (by simp)
  rw [repeatL_one] at h
  rw [hT]; exact h
 have hE8 : sendE s.out s.inn s.num s.seen s.asked s.ps ⟨15, 4294967295, false, T8⟩ = 0 := by
  have h1 : msgB s.out.length ⟨15, 4294967295, false, T8⟩ = true := by
   simp only [msgB, hso, hT8l]; rfl
  have h2 : (s.asked.any fun x => (15 : Int) == x) = false := by rw [hs]; rfl
  unfold sendE; rw [hchk, h1]; simp only [h2, Bool.true_eq_false, Bool.false_eq_true, if_false]
 obtain ⟨F1, hF1e⟩ : ∃ x : StX, x = { s with out := outS s.out 15 false } := ⟨_, rfl⟩
 obtain ⟨D8, hD8⟩ : ∃ x, x = sendD 15 4294967295 (seqS s.out 15 false) false T8 8 := ⟨_, rfl⟩
 have hD8l : D8.length = 8 := by rw [hD8]; exact sendD_len _ _ _ _ _ _
 obtain ⟨P7, hP7⟩ : ∃ x, x = pieceS T8 7 := ⟨_, rfl⟩
 have hP7l : P7.length = 1000 := by rw [hP7]; simp [pieceS, hT8l]
 obtain ⟨q7, hq7⟩ : ∃ x, x = seqS s.out 15 false := ⟨_, rfl⟩
 have r7 : (D8.map Dat.row).getD 7 [] = [.int .i64 0, .int .i64 15, .int .i64 q7, .int .i64 4294967295, .bool false, .bool true, .bool false, .str P7] := by rw [hD8, hP7, hq7]; rfl
 have hF1l : F1.out.length = 16 := by rw [hF1e]; simp only []; rw [outS_len, hso]
 have rF1 : (F1.out.map eI).getD 15 [] = [.int .i64 1] := by rw [hF1e, hs]; rfl
 have c_full : ∀ F L nx, Con Try.prog 12 [.agg [.fs 1 (s.out.map eI), .fs 1 (s.inn.map eI), .fs 8 (s.ps.map Dat.row), .int .i64 s.num, .int .i64 s.seen, .fs 1 (s.asked.map eI)], .agg [.int .i64 15, .int .i64 4294967295, .bool false, .str T8]] F L nx nx (.tup [.agg [.fs 1 (F1.out.map eI), .fs 1 (F1.inn.map eI), .fs 8 (F1.ps.map Dat.row), .int .i64 F1.num, .int .i64 F1.seen, .fs 1 (F1.asked.map eI)], .fs 8 (D8.map Dat.row), .int .i64 0]) [] [] := by
  intro F L nx
  have h := sendAll_ok (F := F) (L := L) (nx := nx) s.out s.inn s.asked s.num s.seen s.ps (by have := hsl.o; omega) (by have := hsl.i; omega) (by have := hsl.a; omega) (by have := hsl.p; omega) ⟨15, 4294967295, false, T8⟩
  have hv : sendV s.out s.inn s.num s.seen s.asked s.ps ⟨15, 4294967295, false, T8⟩ = .tup [.agg [.fs 1 (F1.out.map eI), .fs 1 (F1.inn.map eI), .fs 8 (F1.ps.map Dat.row), .int .i64 F1.num, .int .i64 F1.seen, .fs 1 (F1.asked.map eI)], .fs 8 (D8.map Dat.row), .int .i64 0] := by
   unfold sendV; rw [if_pos hE8, hF1e, hD8]; simp only [hT8l]; rfl
  rw [hv] at h
  exact h
 have e_m0 : sendE s.out s.inn s.num s.seen s.asked s.ps ⟨0, 0, false, T⟩ = 2 := by
  have h1 : msgB s.out.length ⟨0, 0, false, T⟩ = false := by
   simp only [msgB, hso, hTl]; rfl
  unfold sendE; rw [hchk, h1]; rfl
 have e_m1 : sendE s.out s.inn s.num s.seen s.asked s.ps ⟨0, 0, false, []⟩ = 2 := by
  rw [hs]; kernel_rfl
 have e_m2 : sendE s.out s.inn s.num s.seen s.asked s.ps ⟨16, 0, false, [120]⟩ = 2 := by
  rw [hs]; kernel_rfl
 have e_m3 : sendE s.out s.inn s.num s.seen s.asked s.ps ⟨-1, 0, false, [120]⟩ = 2 := by
  rw [hs]; kernel_rfl
 have e_m4 : sendE s.out s.inn s.num s.seen s.asked s.ps ⟨0, 4294967296, false, [120]⟩ = 2 := by
  rw [hs]; kernel_rfl
 obtain ⟨W, hW⟩ : ∃ x : StX, x = { s with out := s.out.set 0 65535 } := ⟨_, rfl⟩
 obtain ⟨F2, hF2e⟩ : ∃ x : StX, x = { W with out := outS W.out 0 false } := ⟨_, rfl⟩
 obtain ⟨D1, hD1⟩ : ∃ x, x = sendD 0 0 (seqS W.out 0 false) false [120] 1 := ⟨_, rfl⟩
 have hD1l : D1.length = 1 := by rw [hD1]; rfl
 have r1 : (D1.map Dat.row).getD 0 [] = [.int .i64 0, .int .i64 0, .int .i64 65535, .int .i64 0, .bool true, .bool true, .bool false, .str [120]] := by rw [hD1, hW, hs]; rfl
 have hF2l : F2.out.length = 16 := by rw [hF2e, hW, hs]; rfl
 have rF2 : (F2.out.map eI).getD 0 [] = [.int .i64 0] := by rw [hF2e, hW, hs]; rfl
 have hWe : W.out = s.out.set 0 65535 ∧ W.inn = s.inn ∧ W.ps = s.ps ∧ W.num = s.num ∧ W.seen = s.seen ∧ W.asked = s.asked := by rw [hW]; exact ⟨rfl, rfl, rfl, rfl, rfl, rfl⟩
 obtain ⟨w1, w2, w3, w4, w5, w6⟩ := hWe
 have c_w : ∀ F L nx, Con Try.prog 12 [.agg [.fs 1 ((s.out.set 0 65535).map eI), .fs 1 (s.inn.map eI), .fs 8 (s.ps.map Dat.row), .int .i64 s.num, .int .i64 s.seen, .fs 1 (s.asked.map eI)], .agg [.int .i64 0, .int .i64 0, .bool false, .str [120]]] F L nx nx (.tup [.agg [.fs 1 (F2.out.map eI), .fs 1 (F2.inn.map eI), .fs 8 (F2.ps.map Dat.row), .int .i64 F2.num, .int .i64 F2.seen, .fs 1 (F2.asked.map eI)], .fs 8 (D1.map Dat.row), .int .i64 0]) [] [] := by
  intro F L nx
  have h := sendAll_ok (F := F) (L := L) (nx := nx) (s.out.set 0 65535) s.inn s.asked s.num s.seen s.ps (by rw [hs]; decide) (by have := hsl.i; omega) (by have := hsl.a; omega) (by have := hsl.p; omega) ⟨0, 0, false, [120]⟩
  have hv : sendV (s.out.set 0 65535) s.inn s.num s.seen s.asked s.ps ⟨0, 0, false, [120]⟩ = .tup [.agg [.fs 1 (F2.out.map eI), .fs 1 (F2.inn.map eI), .fs 8 (F2.ps.map Dat.row), .int .i64 F2.num, .int .i64 F2.seen, .fs 1 (F2.asked.map eI)], .fs 8 (D1.map Dat.row), .int .i64 0] := by
   rw [hF2e, hD1, hW, hs]; rfl
  rw [hv] at h
  exact h
 have c_bM : ∀ F L nx, Con Try.prog 38 [.agg [.int .u8 7, .int .u8 3, .int .i64 0, .int .i64 0, .int .i64 0, .int .i64 0, .int .i64 0, .bool false, .bool false, .bool false, .str []], .agg [.fs 1 (s.out.map eI), .fs 1 (s.inn.map eI), .fs 8 (s.ps.map Dat.row), .int .i64 s.num, .int .i64 s.seen, .fs 1 (s.asked.map eI)]] F L nx nx (.agg [.fs 1 (M.out.map eI), .fs 1 (M.inn.map eI), .fs 8 (M.ps.map Dat.row), .int .i64 M.num, .int .i64 M.seen, .fs 1 (M.asked.map eI)]) [] [] := by
  intro F L nx
  have h := bend_ok (F := F) (L := L) (nx := nx) 7 3 (by omega) (by omega) 0 kD (by decide) s (hsl.mono (by omega))
  rw [hM]
  unfold kM
  rw [← hs]
  exact h
 have c_bU : ∀ F L nx, Con Try.prog 38 [.agg [.int .u8 3, .int .u8 0, .int .i64 0, .int .i64 0, .int .i64 0, .int .i64 0, .int .i64 0, .bool true, .bool true, .bool false, .str [120]], .agg [.fs 1 (s.out.map eI), .fs 1 (s.inn.map eI), .fs 8 (s.ps.map Dat.row), .int .i64 s.num, .int .i64 s.seen, .fs 1 (s.asked.map eI)]] F L nx nx (.agg [.fs 1 (U.out.map eI), .fs 1 (U.inn.map eI), .fs 8 (U.ps.map Dat.row), .int .i64 U.num, .int .i64 U.seen, .fs 1 (U.asked.map eI)]) [] [] := by
  intro F L nx
  have h := bend_ok (F := F) (L := L) (nx := nx) 3 0 (by omega) (by omega) 0 { kD with fi := true, la := true, pl := [120] } (by decide) s (hsl.mono (by omega))
  rw [hU]
  unfold kU
  rw [← hs]
  exact h
 have c_t1 : ∀ F L nx, Con Try.prog 39 [.agg [.fs 1 (M.out.map eI), .fs 1 (M.inn.map eI), .fs 8 (M.ps.map Dat.row), .int .i64 M.num, .int .i64 M.seen, .fs 1 (M.asked.map eI)], .agg [.int .i64 1, .int .i64 0, .int .i64 0, .int .i64 0, .bool true, .bool false, .bool false, .str [120]]] F L nx nx (.tup [.agg [.fs 1 [], .fs 1 [], .fs 8 [], .int .i64 0, .int .i64 0, .fs 1 []], .fs 4 [], .int .i64 3]) [] [] := by
  intro F L nx
  have h := takeAll_ok (F := F) (L := L) (nx := nx) M hMl { kD with tsn := 1, fi := true, pl := [120] }
  rw [hM] at h ⊢
  rw [kM_1] at h
  exact h
 have c_t2 : ∀ F L nx, Con Try.prog 39 [.agg [.fs 1 (M.out.map eI), .fs 1 (M.inn.map eI), .fs 8 (M.ps.map Dat.row), .int .i64 M.num, .int .i64 M.seen, .fs 1 (M.asked.map eI)], .agg [.int .i64 1000000, .int .i64 0, .int .i64 0, .int .i64 0, .bool false, .bool false, .bool true, .str [119]]] F L nx nx (.tup [.agg [.fs 1 (M.out.map eI), .fs 1 (M.inn.map eI), .fs 8 (M.ps.map Dat.row), .int .i64 M.num, .int .i64 M.seen, .fs 1 (M.asked.map eI)], .fs 4 [], .int .i64 0]) [] [] := by
  intro F L nx
  have h := takeAll_ok (F := F) (L := L) (nx := nx) M hMl (fillD 0)
  rw [hM] at h ⊢
  rw [kM_2] at h
  exact h
 have c_t3 : ∀ F L nx, Con Try.prog 39 [.agg [.fs 1 (M.out.map eI), .fs 1 (M.inn.map eI), .fs 8 (M.ps.map Dat.row), .int .i64 M.num, .int .i64 M.seen, .fs 1 (M.asked.map eI)], .agg [.int .i64 1, .int .i64 16, .int .i64 0, .int .i64 0, .bool false, .bool false, .bool false, .str [120]]] F L nx nx (.tup [.agg [.fs 1 [], .fs 1 [], .fs 8 [], .int .i64 0, .int .i64 0, .fs 1 []], .fs 4 [], .int .i64 2]) [] [] := by
  intro F L nx
  have h := takeAll_ok (F := F) (L := L) (nx := nx) M hMl { kD with tsn := 1, st := 16, pl := [120] }
  rw [hM] at h ⊢
  rw [kM_3] at h
  exact h
 have c_t4 : ∀ F L nx, Con Try.prog 39 [.agg [.fs 1 (M.out.map eI), .fs 1 (M.inn.map eI), .fs 8 (M.ps.map Dat.row), .int .i64 M.num, .int .i64 M.seen, .fs 1 (M.asked.map eI)], .agg [.int .i64 1, .int .i64 0, .int .i64 0, .int .i64 0, .bool false, .bool false, .bool false, .str []]] F L nx nx (.tup [.agg [.fs 1 [], .fs 1 [], .fs 8 [], .int .i64 0, .int .i64 0, .fs 1 []], .fs 4 [], .int .i64 320]) [] [] := by
  intro F L nx
  have h := takeAll_ok (F := F) (L := L) (nx := nx) M hMl { kD with tsn := 1 }
  rw [hM] at h ⊢
  rw [kM_4] at h
  exact h
 have rM0 : (M.ps.map Dat.row).getD 0 [] = [.int .i64 1000000, .int .i64 0, .int .i64 0, .int .i64 0, .bool false, .bool false, .bool true, .str [119]] := by rw [hM]; rfl
 have c_s1 : ∀ F L nx, Con Try.prog 30 [.agg [.fs 1 (M.out.map eI), .fs 1 (M.inn.map eI), .fs 8 (M.ps.map Dat.row), .int .i64 M.num, .int .i64 M.seen, .fs 1 (M.asked.map eI)], .agg [.int .i64 0, .fs 2 ([(16, 0)].map kE)]] F L nx nx (.tup [.agg [.fs 1 [], .fs 1 [], .fs 8 [], .int .i64 0, .int .i64 0, .fs 1 []], .fs 4 [], .int .i64 2]) [] [] := by
  intro F L nx
  have h := skipAll_ok (F := F) (L := L) (nx := nx) M hMl 0 [(16, 0)] (by decide)
  rw [hM] at h ⊢
  rw [kM_5] at h
  exact h
 have c_s2 : ∀ F L nx, Con Try.prog 30 [.agg [.fs 1 (M.out.map eI), .fs 1 (M.inn.map eI), .fs 8 (M.ps.map Dat.row), .int .i64 M.num, .int .i64 M.seen, .fs 1 (M.asked.map eI)], .agg [.int .i64 0, .fs 2 ([(1, 0), (1, 0)].map kE)]] F L nx nx (.tup [.agg [.fs 1 [], .fs 1 [], .fs 8 [], .int .i64 0, .int .i64 0, .fs 1 []], .fs 4 [], .int .i64 320]) [] [] := by
  intro F L nx
  have h := skipAll_ok (F := F) (L := L) (nx := nx) M hMl 0 [(1, 0), (1, 0)] (by decide)
  rw [hM] at h ⊢
  rw [kM_6] at h
  exact h
 obtain ⟨G, hG⟩ : ∃ x, x = skipR kM 2000000 [] := ⟨_, rfl⟩
 obtain ⟨G1, Gm, Ge⟩ := G
 have hGe : Ge = 0 := by have := kM_7; rw [← hG] at this; exact this
 have hGp : G1.ps.length = 0 := by have := kM_8; rw [← hG] at this; simp only at this; rw [this]; rfl
 subst hGe
 have c_s3 : ∀ F L nx, Con Try.prog 30 [.agg [.fs 1 (M.out.map eI), .fs 1 (M.inn.map eI), .fs 8 (M.ps.map Dat.row), .int .i64 M.num, .int .i64 M.seen, .fs 1 (M.asked.map eI)], .agg [.int .i64 2000000, .fs 2 []]] F L nx nx (.tup [.agg [.fs 1 (G1.out.map eI), .fs 1 (G1.inn.map eI), .fs 8 (G1.ps.map Dat.row), .int .i64 G1.num, .int .i64 G1.seen, .fs 1 (G1.asked.map eI)], .fs 4 (Gm.map Msg.row), .int .i64 0]) [] [] := by
  intro F L nx
  have h := skipAll_ok (F := F) (L := L) (nx := nx) M hMl 2000000 [] (by decide)
  rw [hM] at h ⊢
  rw [← hG] at h
  exact h
 have c_same : ∀ F L nx, Con Try.prog 18 [.agg [.fs 1 (M.out.map eI), .fs 1 (M.inn.map eI), .fs 8 (M.ps.map Dat.row), .int .i64 M.num, .int .i64 M.seen, .fs 1 (M.asked.map eI)], .agg [.fs 1 (M.out.map eI), .fs 1 (M.inn.map eI), .fs 8 (M.ps.map Dat.row), .int .i64 M.num, .int .i64 M.seen, .fs 1 (M.asked.map eI)]] F L nx nx (.bool true) [] [] := by
  intro F L nx
  exact sameS_ok M.out M.inn M.asked M.num M.seen M.ps (by have := hMl.o; omega) (by have := hMl.i; omega) (by have := hMl.a; omega) (by have := hMl.p; omega)
 have c_d1 : ∀ F L nx, Con Try.prog 34 [.fs 14 ((List.replicate 31 ⟨kD, 0, 0, 0, false, false, false⟩ : List Fl).map Fl.row), .fs 1 (([] : List Int).map eI)] F L nx nx (.tup [.fs 1 [], .int .i64 3]) [] [] := by
  intro F L nx
  have h := dropsAll_ok (F := F) (L := L) (nx := nx) (List.replicate 31 ⟨kD, 0, 0, 0, false, false, false⟩ : List Fl) [] (by decide) (by decide)
  rw [show dropsR (List.replicate 31 ⟨kD, 0, 0, 0, false, false, false⟩ : List Fl) [] = ([], 3) by kernel_rfl] at h
  exact h
 have c_d2 : ∀ F L nx, Con Try.prog 34 [.fs 14 (([] : List Fl).map Fl.row), .fs 1 (((List.replicate 17 0) : List Int).map eI)] F L nx nx (.tup [.fs 1 [], .int .i64 3]) [] [] := by
  intro F L nx
  have h := dropsAll_ok (F := F) (L := L) (nx := nx) ([] : List Fl) (List.replicate 17 0) (by decide) (by decide)
  rw [show dropsR ([] : List Fl) (List.replicate 17 0) = ([], 3) by kernel_rfl] at h
  exact h
 have c_d3 : ∀ F L nx, Con Try.prog 34 [.fs 14 ((List.replicate 1 ⟨kD, 0, 0, 0, false, false, false⟩ : List Fl).map Fl.row), .fs 1 (([] : List Int).map eI)] F L nx nx (.tup [.fs 1 [], .int .i64 2]) [] [] := by
  intro F L nx
  have h := dropsAll_ok (F := F) (L := L) (nx := nx) (List.replicate 1 ⟨kD, 0, 0, 0, false, false, false⟩ : List Fl) [] (by decide) (by decide)
  rw [show dropsR (List.replicate 1 ⟨kD, 0, 0, 0, false, false, false⟩ : List Fl) [] = ([], 2) by kernel_rfl] at h
  exact h
 have c_d4 : ∀ F L nx, Con Try.prog 34 [.fs 14 (([] : List Fl).map Fl.row), .fs 1 (([15] : List Int).map eI)] F L nx nx (.tup [.fs 1 [], .int .i64 2]) [] [] := by
  intro F L nx
  have h := dropsAll_ok (F := F) (L := L) (nx := nx) ([] : List Fl) [15] (by decide) (by decide)
  rw [show dropsR ([] : List Fl) [15] = ([], 2) by kernel_rfl] at h
  exact h
 have c_d5 : ∀ F L nx, Con Try.prog 34 [.fs 14 (([] : List Fl).map Fl.row), .fs 1 (([-2] : List Int).map eI)] F L nx nx (.tup [.fs 1 [], .int .i64 2]) [] [] := by
  intro F L nx
  have h := dropsAll_ok (F := F) (L := L) (nx := nx) ([] : List Fl) [-2] (by decide) (by decide)
  rw [show dropsR ([] : List Fl) [-2] = ([], 2) by kernel_rfl] at h
  exact h
 have c_k1 : ∀ F L nx, Con Try.prog 15 [.agg [.fs 1 (s.out.map eI), .fs 1 (s.inn.map eI), .fs 8 (s.ps.map Dat.row), .int .i64 s.num, .int .i64 s.seen, .fs 1 (s.asked.map eI)], .int .i64 (-1), .fs 1 (([0] : List Int).map eI)] F L nx nx (.tup [.agg [.fs 1 [], .fs 1 [], .fs 8 [], .int .i64 0, .int .i64 0, .fs 1 []], .agg [.int .i64 0, .int .i64 0, .int .i64 0, .int .i64 0, .fs 1 []], .int .i64 2]) [] [] := by
  intro F L nx
  have h := askAll_ok (F := F) (L := L) (nx := nx) s hsl (-1) [0] (by decide)
  rw [hs] at h ⊢
  rw [kS_ask1] at h
  exact h
 have c_k2 : ∀ F L nx, Con Try.prog 15 [.agg [.fs 1 (s.out.map eI), .fs 1 (s.inn.map eI), .fs 8 (s.ps.map Dat.row), .int .i64 s.num, .int .i64 s.seen, .fs 1 (s.asked.map eI)], .int .i64 0, .fs 1 (([1, 0] : List Int).map eI)] F L nx nx (.tup [.agg [.fs 1 [], .fs 1 [], .fs 8 [], .int .i64 0, .int .i64 0, .fs 1 []], .agg [.int .i64 0, .int .i64 0, .int .i64 0, .int .i64 0, .fs 1 []], .int .i64 2]) [] [] := by
  intro F L nx
  have h := askAll_ok (F := F) (L := L) (nx := nx) s hsl 0 [1, 0] (by decide)
  rw [hs] at h ⊢
  rw [kS_ask2] at h
  exact h
 have c_an : ∀ F L nx, Con Try.prog 17 [.agg [.fs 1 (s.out.map eI), .fs 1 (s.inn.map eI), .fs 8 (s.ps.map Dat.row), .int .i64 s.num, .int .i64 s.seen, .fs 1 (s.asked.map eI)], .agg [.int .i64 2, .int .i64 0, .int .i64 0, .int .i64 0, .fs 1 []]] F L nx nx (.tup [.agg [.fs 1 [], .fs 1 [], .fs 8 [], .int .i64 0, .int .i64 0, .fs 1 []], .int .i64 8]) [] [] := by
  intro F L nx
  have h := answeredAll_ok (F := F) (L := L) (nx := nx) s hsl ⟨2, 0, 0, 0, []⟩ (by decide)
  rw [hs] at h ⊢
  rw [kS_ans] at h
  exact h
 have c_a1 : ∀ F L nx, Con Try.prog 16 [.agg [.fs 1 (s.out.map eI), .fs 1 (s.inn.map eI), .fs 8 (s.ps.map Dat.row), .int .i64 s.num, .int .i64 5, .fs 1 (s.asked.map eI)], .int .i64 0, .agg [.int .i64 1, .int .i64 4, .int .i64 0, .int .i64 0, .fs 1 (([0] : List Int).map eI)]] F L nx nx (.tup [.agg [.fs 1 [], .fs 1 [], .fs 8 [], .int .i64 0, .int .i64 0, .fs 1 []], .agg [.int .i64 0, .int .i64 0, .int .i64 0, .int .i64 0, .fs 1 []], .int .i64 10]) [] [] := by
  intro F L nx
  have h := askedAll_ok (F := F) (L := L) (nx := nx) kE5 ⟨by decide, by decide, by decide, by decide⟩ 0 ⟨1, 4, 0, 0, [0]⟩ (by decide)
  rw [kE_1] at h
  rw [hs]
  exact h
 have c_a2 : ∀ F L nx, Con Try.prog 16 [.agg [.fs 1 (s.out.map eI), .fs 1 (s.inn.map eI), .fs 8 (s.ps.map Dat.row), .int .i64 s.num, .int .i64 5, .fs 1 (s.asked.map eI)], .int .i64 0, .agg [.int .i64 1, .int .i64 5, .int .i64 9, .int .i64 0, .fs 1 (([0] : List Int).map eI)]] F L nx nx (.tup [.agg [.fs 1 (s.out.map eI), .fs 1 (s.inn.map eI), .fs 8 (s.ps.map Dat.row), .int .i64 s.num, .int .i64 5, .fs 1 (s.asked.map eI)], .agg [.int .i64 2, .int .i64 5, .int .i64 0, .int .i64 1, .fs 1 []], .int .i64 0]) [] [] := by
  intro F L nx
  have h := askedAll_ok (F := F) (L := L) (nx := nx) kE5 ⟨by decide, by decide, by decide, by decide⟩ 0 ⟨1, 5, 9, 0, [0]⟩ (by decide)
  rw [kE_2] at h
  rw [hs]
  exact h
 have c_a3 : ∀ F L nx, Con Try.prog 16 [.agg [.fs 1 (s.out.map eI), .fs 1 (s.inn.map eI), .fs 8 (s.ps.map Dat.row), .int .i64 s.num, .int .i64 5, .fs 1 (s.asked.map eI)], .int .i64 0, .agg [.int .i64 1, .int .i64 6, .int .i64 1, .int .i64 0, .fs 1 (([0] : List Int).map eI)]] F L nx nx (.tup [.agg [.fs 1 (s.out.map eI), .fs 1 (s.inn.map eI), .fs 8 (s.ps.map Dat.row), .int .i64 s.num, .int .i64 5, .fs 1 (s.asked.map eI)], .agg [.int .i64 2, .int .i64 6, .int .i64 0, .int .i64 6, .fs 1 []], .int .i64 0]) [] [] := by
  intro F L nx
  have h := askedAll_ok (F := F) (L := L) (nx := nx) kE5 ⟨by decide, by decide, by decide, by decide⟩ 0 ⟨1, 6, 1, 0, [0]⟩ (by decide)
  rw [kE_3] at h
  rw [hs]
  exact h
 have c_a4 : ∀ F L nx, Con Try.prog 16 [.agg [.fs 1 (s.out.map eI), .fs 1 (s.inn.map eI), .fs 8 (s.ps.map Dat.row), .int .i64 s.num, .int .i64 5, .fs 1 (s.asked.map eI)], .int .i64 0, .agg [.int .i64 2, .int .i64 6, .int .i64 0, .int .i64 0, .fs 1 []]] F L nx nx (.tup [.agg [.fs 1 [], .fs 1 [], .fs 8 [], .int .i64 0, .int .i64 0, .fs 1 []], .agg [.int .i64 0, .int .i64 0, .int .i64 0, .int .i64 0, .fs 1 []], .int .i64 2]) [] [] := by
  intro F L nx
  have h := askedAll_ok (F := F) (L := L) (nx := nx) kE5 ⟨by decide, by decide, by decide, by decide⟩ 0 ⟨2, 6, 0, 0, []⟩ (by decide)
  rw [kE_4] at h
  rw [hs]
  exact h
 have c_cu : ∀ F L nx, Con Try.prog 31 [.agg [.fs 1 (U.out.map eI), .fs 1 (U.inn.map eI), .fs 8 (U.ps.map Dat.row), .int .i64 U.num, .int .i64 U.seen, .fs 1 (U.asked.map eI)]] F L nx nx (.int .i64 350) [] [] := by
  intro F L nx
  have h := check_all (F := F) (L := L) (nx := nx) U.out U.inn U.asked U.num U.seen U.ps (by rw [hU]; decide) (by rw [hU]; decide) (by rw [hU]; decide) (by rw [hU]; decide)
  rw [hU] at h ⊢
  rw [show chkB kU.out kU.inn kU.num kU.seen kU.asked kU.ps = false from kU_chk] at h
  exact h
 have e0 : ((0 : Int) == 0) = true := rfl
 have e1 : ((1 : Int) == 1) = true := rfl
 have e2 : ((2 : Int) == 2) = true := rfl
 have e3 : ((3 : Int) == 3) = true := rfl
 have e6 : ((6 : Int) == 6) = true := rfl
 have e8 : ((8 : Int) == 8) = true := rfl
 have e10 : ((10 : Int) == 10) = true := rfl
 have e320 : ((320 : Int) == 320) = true := rfl
 have e350 : ((350 : Int) == 350) = true := rfl
 have e65535 : ((65535 : Int) == 65535) = true := rfl
 have e00 : (((0 : Nat) : Int) == 0) = true := rfl
 have c8 : (((D8.length : Nat) : Int) == 8) = true := by rw [hD8l]; rfl
 have c1000 : (((P7.length : Nat) : Int) == 1000) = true := by rw [hP7l]; rfl
 have cF1 : (((F1.out.length : Nat) : Int) == 16) = true := by rw [hF1l]; rfl
 have c1 : (((D1.length : Nat) : Int) == 1) = true := by rw [hD1l]; rfl
 have cF2 : (((F2.out.length : Nat) : Int) == 16) = true := by rw [hF2l]; rfl
 have cM : (((M.ps.length : Nat) : Int) == 80) = true := by rw [hM80]; rfl
 have cG : (((G1.ps.length : Nat) : Int) == 0) = true := by rw [hGp]; rfl
 have t8 : List.take (8000 - 0) T = T8 := by rw [hT8]
 have t8b : List.take 8000 T = T8 := by rw [hT8]
 refine Con.body (cxkOk (L + 1)) rfl rfl (fn := Try.f9) (c := Try.f9.body.getD .skip) (by kernel_rfl) (by rfl) (by kernel_rfl) rfl (by simp) ?_
 intro F3 hF1 hF2
 simp only [Try.f9, List.append_eq, List.cons_append, List.nil_append]
 simp only [cxk, go_sem, meths]
 repeat refine sd9 ?_
 refine CallVC.same (c_new _ _ _) ?_
 simp only [gX, go_sem]
 repeat refine sd9 ?_
 refine CallVC.same (c_n1 _ _ _) ?_
 simp only [gX, go_sem]
 repeat refine sd9 ?_
 refine CallVC.same (c_n2 _ _ _) ?_
 simp only [gX, go_sem]
 repeat refine sd9 ?_
 refine CallVC.same (c_rep _ _ _) ?_
 simp only [gX, t8, Int.toNat_natCast, go_sem]
 repeat refine sd9 ?_
 refine CallVC.same (c_full _ _ _) ?_
 simp only [gX, e0, e1, e2, c8, c1000, cF1, r7, rF1, List.length_map, Nat.add_zero, go_sem]
 repeat refine sd9 ?_
 refine CallVC.same (known1_ok s hsl ⟨0, 0, false, T⟩ 2 (by decide) e_m0 ⟨L + 1, 128⟩ (Nat.le_refl _) 34 true true (by simp [Tx.look])) ?_
 simp only [gX, e2, go_sem]
 repeat refine sd9 ?_
 refine CallVC.same (known1_ok s hsl ⟨0, 0, false, []⟩ 2 (by decide) e_m1 ⟨L + 1, 128⟩ (Nat.le_refl _) 34 true true (by simp [Tx.look])) ?_
 simp only [gX, e2, go_sem]
 repeat refine sd9 ?_
 refine CallVC.same (known1_ok s hsl ⟨16, 0, false, [120]⟩ 2 (by decide) e_m2 ⟨L + 1, 128⟩ (Nat.le_refl _) 34 true true (by simp [Tx.look])) ?_
 simp only [gX, e2, go_sem]
 repeat refine sd9 ?_
 refine CallVC.same (known1_ok s hsl ⟨-1, 0, false, [120]⟩ 2 (by decide) e_m3 ⟨L + 1, 128⟩ (Nat.le_refl _) 34 true true (by simp [Tx.look])) ?_
 simp only [gX, e2, go_sem]
 repeat refine sd9 ?_
 refine CallVC.same (known1_ok s hsl ⟨0, 4294967296, false, [120]⟩ 2 (by decide) e_m4 ⟨L + 1, 128⟩ (Nat.le_refl _) 34 true true (by simp [Tx.look])) ?_
 simp only [gX, e2, Nat.add_zero, go_sem]
 repeat refine sd9 ?_
 refine CallVC.same (cloneI_ok s.out (by omega)) ?_
 simp only [gX, List.length_map, Nat.add_zero, go_sem]
 repeat refine sd9 ?_
 refine CallVC.gen (args2 := [.agg [.fs 1 ((s.out.set 0 65535).map eI), .fs 1 (s.inn.map eI), .fs 8 (s.ps.map Dat.row), .int .i64 s.num, .int .i64 s.seen, .fs 1 (s.asked.map eI)], .agg [.int .i64 0, .int .i64 0, .bool false, .str [120]]]) (by simp [WkL, Wk, List.take_of_length_le, eI, hso]) (c_w _ _ _) ?_
 simp only [wkNL, wkN, unown, gX, e0, e65535, c1, cF2, r1, rF2, List.length_map, Nat.add_zero, go_sem]
 repeat refine sd9 ?_
 refine CallVC.same (c_bM _ _ _) ?_
 simp only [gX, go_sem]
 repeat refine sd9 ?_
 refine CallVC.same (c_t1 _ _ _) ?_
 simp only [gX, rM0, List.length_map, Nat.add_zero, go_sem]
 repeat refine sd9 ?_
 refine CallVC.same (c_t2 _ _ _) ?_
 simp only [gX, go_sem]
 repeat refine sd9 ?_
 refine CallVC.same (c_t3 _ _ _) ?_
 simp only [gX, go_sem]
 repeat refine sd9 ?_
 refine CallVC.same (c_t4 _ _ _) ?_
 simp only [gX, go_sem]
 repeat refine sd9 ?_
 refine CallVC.gen (args2 := [.agg [.fs 1 (M.out.map eI), .fs 1 (M.inn.map eI), .fs 8 (M.ps.map Dat.row), .int .i64 M.num, .int .i64 M.seen, .fs 1 (M.asked.map eI)], .agg [.int .i64 0, .fs 2 ([(16, 0)].map kE)]]) (by simp [WkL, Wk, List.take_of_length_le, kE]) (c_s1 _ _ _) ?_
 simp only [wkNL, wkN, unown, gX, go_sem]
 repeat refine sd9 ?_
 refine CallVC.gen (args2 := [.agg [.fs 1 (M.out.map eI), .fs 1 (M.inn.map eI), .fs 8 (M.ps.map Dat.row), .int .i64 M.num, .int .i64 M.seen, .fs 1 (M.asked.map eI)], .agg [.int .i64 0, .fs 2 ([(1, 0), (1, 0)].map kE)]]) (by simp [WkL, Wk, List.take_of_length_le, kE]) (c_s2 _ _ _) ?_
 simp only [wkNL, wkN, unown, gX, go_sem]
 repeat refine sd9 ?_
 refine CallVC.gen (args2 := [.agg [.fs 1 (M.out.map eI), .fs 1 (M.inn.map eI), .fs 8 (M.ps.map Dat.row), .int .i64 M.num, .int .i64 M.seen, .fs 1 (M.asked.map eI)], .agg [.int .i64 2000000, .fs 2 []]]) (by simp [WkL, Wk]) (c_s3 _ _ _) ?_
 simp only [wkNL, wkN, unown, gX, e0, e3, e00, cM, List.length_map, go_sem]
 repeat refine sd9 ?_
 refine CallVC.same (c_same _ _ _) ?_
 simp only [gX, e0, e2, e320, cG, List.length_map, go_sem]
 repeat refine sd9 ?_
 obtain ⟨MSB, hMSB⟩ : ∃ x : List PV, x = [.int .u8 0, .int .u8 0, .int .i64 (0), .int .i64 0, .int .i64 0, .int .i64 0, .int .i64 0, .bool false, .bool false, .bool false, .str [], .int .u8 1, .int .u8 0, .int .i64 (0), .int .i64 0, .int .i64 0, .int .i64 0, .int .i64 0, .bool false, .bool false, .bool false, .str [], .int .u8 2, .int .u8 0, .int .i64 (65536), .int .i64 0, .int .i64 0, .int .i64 0, .int .i64 0, .bool false, .bool false, .bool false, .str [], .int .u8 3, .int .u8 0, .int .i64 (0), .int .i64 0, .int .i64 0, .int .i64 0, .int .i64 0, .bool false, .bool false, .bool false, .str [], .int .u8 4, .int .u8 0, .int .i64 (-1), .int .i64 0, .int .i64 0, .int .i64 0, .int .i64 0, .bool false, .bool false, .bool false, .str [], .int .u8 5, .int .u8 0, .int .i64 (-2), .int .i64 0, .int .i64 0, .int .i64 0, .int .i64 0, .bool false, .bool false, .bool false, .str [], .int .u8 6, .int .u8 0, .int .i64 (16), .int .i64 0, .int .i64 0, .int .i64 0, .int .i64 0, .bool false, .bool false, .bool false, .str [], .int .u8 7, .int .u8 4, .int .i64 (0), .int .i64 0, .int .i64 0, .int .i64 0, .int .i64 0, .bool false, .bool false, .bool false, .str [], .int .u8 9, .int .u8 0, .int .i64 (0), .int .i64 0, .int .i64 0, .int .i64 0, .int .i64 0, .bool false, .bool false, .bool false, .str []] := ⟨_, rfl⟩
 have hMSl : MSB.length = 99 := by rw [hMSB]; rfl
 have hsl9 : s.Le 900 := by rw [hs]; exact ⟨by decide, by decide, by decide, by decide⟩
 have hB : ∀ j, j < 9 → ∃ (w a : Nat) (n : Int) (B : StX), w < 256 ∧ a < 256 ∧ (MSB.drop (j * 11)).take 11 = ([.int .u8 w, .int .u8 a, .int .i64 n, .int .i64 0, .int .i64 0, .int .i64 0, .int .i64 0, .bool false, .bool false, .bool false, .str []] : List PV) ∧ bendG (w % 10) a n kD s = B ∧ B.Le 1000 ∧ B.chk = false := by
  intro j hj
  rcases (show j = 0 ∨ j = 1 ∨ j = 2 ∨ j = 3 ∨ j = 4 ∨ j = 5 ∨ j = 6 ∨ j = 7 ∨ j = 8 by omega) with rfl | rfl | rfl | rfl | rfl | rfl | rfl | rfl | rfl
  ·exact ⟨0, 0, (0), _, by omega, by omega, by rw [hMSB]; rfl, rfl, bendG_le (k := 900) (hsl9) _ _ _ _, by rw [hs]; kernel_rfl⟩
  ·exact ⟨1, 0, (0), _, by omega, by omega, by rw [hMSB]; rfl, rfl, bendG_le (k := 900) (hsl9) _ _ _ _, by rw [hs]; kernel_rfl⟩
  ·exact ⟨2, 0, (65536), _, by omega, by omega, by rw [hMSB]; rfl, rfl, bendG_le (k := 900) (hsl9) _ _ _ _, by rw [hs]; kernel_rfl⟩
  ·exact ⟨3, 0, (0), _, by omega, by omega, by rw [hMSB]; rfl, rfl, bendG_le (k := 900) (hsl9) _ _ _ _, by rw [hs]; kernel_rfl⟩
  ·exact ⟨4, 0, (-1), _, by omega, by omega, by rw [hMSB]; rfl, rfl, bendG_le (k := 900) (hsl9) _ _ _ _, by rw [hs]; kernel_rfl⟩
  ·exact ⟨5, 0, (-2), _, by omega, by omega, by rw [hMSB]; rfl, rfl, bendG_le (k := 900) (hsl9) _ _ _ _, by rw [hs]; kernel_rfl⟩
  ·exact ⟨6, 0, (16), _, by omega, by omega, by rw [hMSB]; rfl, rfl, bendG_le (k := 900) (hsl9) _ _ _ _, by rw [hs]; kernel_rfl⟩
  ·exact ⟨7, 4, (0), _, by omega, by omega, by rw [hMSB]; rfl, rfl, bendG_le (k := 900) (hsl9) _ _ _ _, by rw [hs]; kernel_rfl⟩
  ·exact ⟨9, 0, (0), _, by omega, by omega, by rw [hMSB]; rfl, rfl, bendG_le (k := 900) (hsl9) _ _ _ _, by rw [hs]; kernel_rfl⟩
 refine loopK.intro _ _ (I := fun z : KnX => ⟨[some (.bool false), some (.ptr ⟨L + 1, 128⟩ 0 0), none, none, none, none, none, none, none, none, none, some (.bool true), none, none, none, none, none, none, none, none, none, none, none, none, none, none, none, none, none, none, none, none, none, none, none, none, none, none, none, none, none, none, none, none, none, none, none, none, none, none, none, none, none, none, none, none, none, none, none, none, none, none, none, none, none, none, none, none, none, none, none, none, none, none, none, none, none, none, none, none, none, none, none, none, none, none, none, none, none, none, none, none, none, none, none, none, none, none, none, none, none, none, none, none, none, none, none, none, none, none, none, none, none, none, none, none, none, none, none, none, none, none, none, none, none, none, none, none, none, none, none, none, none, none, none, none, none, none, none, none, none, none, none, none, none, none, none, none, none, none, none, none, none, none, none, none, none, none, none, none, none, none, none, none, none, none, none, none, none, none, none, none, none, none, none, none, none, none, none, none, none, none, none, none, none, none, none, none, none, none, none, none, none, none, none, none, none, none, none, none, none, none, none, none, none, none, none, none, none, none, none, none, none, none, none, none, none, none, none, none, none, none, none, none, none, none, none, none, none, none, none, none, none, none, none, none, none, none, none, none, none, none, none, none, none, none, none, none, none, none, none, none, none, none, none, none, none, none, none, none, none, none, none, none, none, none, none, none, none, none, none, none, none, none, none, none, none, none, none, none, none, none, none, none, none, none, none, none, none, none, none, none, none, none, none, none, none, none, none, none, none, none, none, none, none, none, none, none, none, none, none, none, none, none, none, none, none, none, none, none, none, none, none, none, none, none, none, none, none, none, none, none, some (.agg MSB), some (.int .i64 z.x), none, none, none, none, none, none, none, none, none, none, none, none, none, none, none, none, none, none, none, none, none, none, none, none, none, none, none, none, none, none, none, none, none, none, none, none, none, none, none, none, none, none, none, none, none, none, none, none, none, none, none, none, none, none, none, none, none, none, none, none, none, none, none, none, none, none, none, none, none, none, none, none, none, none, none, none, none, none, none, none, none, none, none, none, none, none, none, none, none, none, none, none, none, none, none, none, none, none, none, none, none, none, none, none, none, none, none, none, none, none, none, none, none, none, none, none, none, none, none, none, none, none, none, none, none, none, none, none, none, none, none, none, none, none, none, none, none, none, none, none, none, none, none, none, none, none, none, none, none, none, none, none, none, none, none, none, none, none, none, none, none, none, none], [(⟨L + 1, 128⟩, .rows 34 6 true true [[.fs 1 (s.out.map eI), .fs 1 (s.inn.map eI), .fs 8 (s.ps.map Dat.row), .int .i64 s.num, .int .i64 s.seen, .fs 1 (s.asked.map eI)]])], if z.x = 9 then 5000000 else 10000 * (z.i + 1)⟩)
  (pre := fun z => z.x ≤ 9 ∧ 200 ≤ z.i ∧ z.i ≤ 200 + z.x) (μ := fun z => 9 - z.x) ⟨0, 200⟩ ⟨by simp, by simp, by simp⟩ ?_ ?_
 ·rw [hMSB]
  refine Sub.of (hfz hF2) (by simp only [go_sem, subT, and_self, Int.natCast_zero]) ?_ (by simp [subK, keys]) (by simp)
  simp [subH, Tx.look]
 ·rintro ⟨j, i⟩ ⟨g1, g2, g3⟩
  simp only at g1 g2 g3 ⊢
  have nd1 : ∀ k, k < 1000000 → (10000 * (i + 1) = k) = False := fun k h => by apply eq_false; omega
  have nd2 : ∀ k, k < 1000000 → (k = 10000 * (i + 1)) = False := fun k h => by apply eq_false; omega
  by_cases hj : j < 9
  ·have hiN : (j = 9) = False := by apply eq_false; omega
   have g1' : decide ((j : Int) < 9) = true := dT (by omega)
   obtain ⟨w, a, n, B, hw, ha, hMX, hBe, hBl, hBc⟩ := hB j hj
   have cb := fun F L nx => bend_ok (F := F) (L := L) (nx := nx) w a hw ha n kD (by decide) s (hsl.mono (by omega))
   rw [hBe] at cb
   have cc := fun F L nx => check_all (F := F) (L := L) (nx := nx) B.out B.inn B.asked B.num B.seen B.ps (by have := hBl.o; omega) (by have := hBl.i; omega) (by have := hBl.a; omega) (by have := hBl.p; omega)
   rw [show chkB B.out B.inn B.num B.seen B.asked B.ps = false from hBc] at cc
   simp only [Bool.false_eq_true, if_false, strV] at cc
   simp only [StX.v_cells, kD, Dat.row] at cb
   simp only [g1', hMX, gX, Int.toNat_natCast, hiN, if_false, nd1, Nat.add_assoc, go_sem]
   repeat refine sd9 ?_
   refine CallVC.same (cb _ _ _) ?_
   simp only [go_sem]
   repeat refine sd9 ?_
   refine CallVC.same (cc _ _ _) ?_
   simp only [gX, e350, if_false, Nat.add_assoc, go_sem]
   repeat refine sd9 ?_
   refine ⟨⟨j + 1, i + 1⟩, ⟨by simp only []; omega, by simp only []; omega, by simp only []; omega⟩, by simp only []; omega, ?_⟩
   refine Sub.of (hfz hF2) (by simp only [go_sem, subT, and_self, Int.natCast_succ]) ?_ (by simp [subK, keys]) (by simp only []; split <;> omega)
   simp [subH, Tx.look]
  ·have g1' : decide ((j : Int) < 9) = false := dF (by omega)
   have e : j = 9 := by omega
   subst e
   clear nd1 nd2
   simp only [g1', if_true, gX, go_sem]
   repeat refine sd9 ?_
   refine CallVC.same (c_bU _ _ _) ?_
   simp only [gX, go_sem]
   repeat refine sd9 ?_
   refine CallVC.gen (args2 := [.fs 14 ((List.replicate 31 ⟨kD, 0, 0, 0, false, false, false⟩ : List Fl).map Fl.row), .fs 1 (([] : List Int).map eI)]) (by simp [WkL, Wk, List.take_of_length_le, Fl.row, kD]) (c_d1 _ _ _) ?_
   simp only [wkNL, wkN, unown, gX, go_sem]
   repeat refine sd9 ?_
   refine CallVC.gen (args2 := [.fs 14 (([] : List Fl).map Fl.row), .fs 1 ((List.replicate 17 0 : List Int).map eI)]) (by simp [WkL, Wk, List.take_of_length_le, eI]) (c_d2 _ _ _) ?_
   simp only [wkNL, wkN, unown, gX, go_sem]
   repeat refine sd9 ?_
   refine CallVC.gen (args2 := [.fs 14 ((List.replicate 1 ⟨kD, 0, 0, 0, false, false, false⟩ : List Fl).map Fl.row), .fs 1 (([] : List Int).map eI)]) (by simp [WkL, Wk, List.take_of_length_le, Fl.row, kD]) (c_d3 _ _ _) ?_
   simp only [wkNL, wkN, unown, gX, go_sem]
   repeat refine sd9 ?_
   refine CallVC.gen (args2 := [.fs 14 (([] : List Fl).map Fl.row), .fs 1 (([15] : List Int).map eI)]) (by simp [WkL, Wk, List.take_of_length_le, eI]) (c_d4 _ _ _) ?_
   simp only [wkNL, wkN, unown, gX, go_sem]
   repeat refine sd9 ?_
   refine CallVC.gen (args2 := [.fs 14 (([] : List Fl).map Fl.row), .fs 1 (([-2] : List Int).map eI)]) (by simp [WkL, Wk, List.take_of_length_le, eI]) (c_d5 _ _ _) ?_
   simp only [wkNL, wkN, unown, gX, go_sem]
   repeat refine sd9 ?_
   refine CallVC.gen (args2 := [.agg [.fs 1 (s.out.map eI), .fs 1 (s.inn.map eI), .fs 8 (s.ps.map Dat.row), .int .i64 s.num, .int .i64 s.seen, .fs 1 (s.asked.map eI)], .int .i64 (-1), .fs 1 (([0] : List Int).map eI)]) (by simp [WkL, Wk, List.take_of_length_le, eI]) (c_k1 _ _ _) ?_
   simp only [wkNL, wkN, unown, gX, go_sem]
   repeat refine sd9 ?_
   refine CallVC.gen (args2 := [.agg [.fs 1 (s.out.map eI), .fs 1 (s.inn.map eI), .fs 8 (s.ps.map Dat.row), .int .i64 s.num, .int .i64 s.seen, .fs 1 (s.asked.map eI)], .int .i64 0, .fs 1 (([1, 0] : List Int).map eI)]) (by simp [WkL, Wk, List.take_of_length_le, eI]) (c_k2 _ _ _) ?_
   simp only [wkNL, wkN, unown, gX, go_sem]
   repeat refine sd9 ?_
   refine CallVC.gen (args2 := [.agg [.fs 1 (s.out.map eI), .fs 1 (s.inn.map eI), .fs 8 (s.ps.map Dat.row), .int .i64 s.num, .int .i64 s.seen, .fs 1 (s.asked.map eI)], .agg [.int .i64 2, .int .i64 0, .int .i64 0, .int .i64 0, .fs 1 []]]) (by simp [WkL, Wk]) (c_an _ _ _) ?_
   simp only [wkNL, wkN, unown, gX, go_sem]
   repeat refine sd9 ?_
   refine CallVC.same (c_cu _ _ _) ?_
   simp (config := { maxSteps := 2000000 }) only [gX, e2, e3, e8, e350, Nat.reduceBEq, Nat.reduceAdd, go_sem, Nat.reduceAdd, Nat.reduceMul, Nat.reduceEqDiff, Nat.reduceLT, Nat.reduceLeDiff, Nat.reduceBEq]
   repeat refine sd9 ?_
   refine CallVC.gen (args2 := [.agg [.fs 1 (s.out.map eI), .fs 1 (s.inn.map eI), .fs 8 (s.ps.map Dat.row), .int .i64 s.num, .int .i64 5, .fs 1 (s.asked.map eI)], .int .i64 0, .agg [.int .i64 1, .int .i64 4, .int .i64 0, .int .i64 0, .fs 1 (([0] : List Int).map eI)]]) (by simp [WkL, Wk, List.take_of_length_le, eI]) (c_a1 _ _ _) ?_
   simp only [wkNL, wkN, unown, gX, go_sem]
   repeat refine sd9 ?_
   refine CallVC.gen (args2 := [.agg [.fs 1 (s.out.map eI), .fs 1 (s.inn.map eI), .fs 8 (s.ps.map Dat.row), .int .i64 s.num, .int .i64 5, .fs 1 (s.asked.map eI)], .int .i64 0, .agg [.int .i64 1, .int .i64 5, .int .i64 9, .int .i64 0, .fs 1 (([0] : List Int).map eI)]]) (by simp [WkL, Wk, List.take_of_length_le, eI]) (c_a2 _ _ _) ?_
   simp only [wkNL, wkN, unown, gX, go_sem]
   repeat refine sd9 ?_
   refine CallVC.gen (args2 := [.agg [.fs 1 (s.out.map eI), .fs 1 (s.inn.map eI), .fs 8 (s.ps.map Dat.row), .int .i64 s.num, .int .i64 5, .fs 1 (s.asked.map eI)], .int .i64 0, .agg [.int .i64 1, .int .i64 6, .int .i64 1, .int .i64 0, .fs 1 (([0] : List Int).map eI)]]) (by simp [WkL, Wk, List.take_of_length_le, eI]) (c_a3 _ _ _) ?_
   simp only [wkNL, wkN, unown, gX, go_sem]
   repeat refine sd9 ?_
   refine CallVC.gen (args2 := [.agg [.fs 1 (s.out.map eI), .fs 1 (s.inn.map eI), .fs 8 (s.ps.map Dat.row), .int .i64 s.num, .int .i64 5, .fs 1 (s.asked.map eI)], .int .i64 0, .agg [.int .i64 2, .int .i64 6, .int .i64 0, .int .i64 0, .fs 1 []]]) (by simp [WkL, Wk]) (c_a4 _ _ _) ?_
   simp only [wkNL, wkN, unown, gX, go_sem]
   repeat refine sd9 ?_
   refine CallVC.same works_ok ?_
   simp only [gX, e0, e1, e2, e6, e10, go_sem]
   repeat refine sd9 ?_
   exact .bool (.inr rfl) rfl rfl (by simp [UpdAll])
end Go.Proofs.Ytfhhbkehlfipgaa
end
