/- Lemmas for the walk: YC67, YC66, YC68, YD9, YC69, YC70, YC72, YC75, YC76, YD10, YC77, YC78, YC79, YC81, YC82. -/
import Derived.Test.YtfhhbkehlfipgaaP13
import Derived.Test.YtfhhbkehlfipgaaP15
import Derived.Test.YtfhhbkehlfipgaaP14
import Derived.Test.YtfhhbkehlfipgaaP12
set_option linter.all false
section
namespace Go.Proofs.Ytfhhbkehlfipgaa
open Go.Tx
set_option maxRecDepth 100000
set_option maxHeartbeats 16000000
theorem newBad_ok {F : SF} {L nx : Nat} (n m : Int) (h : ¬ (1 ≤ n ∧ n ≤ 16 ∧ 1 ≤ m ∧ m ≤ 16)) :
  Con Try.prog 20 [.int .i64 n, .int .i64 m] F L nx nx (.tup [strZ, .int .i64 2]) [] [] := by
 refine bdy Try.f20 ?_
 intro F3 hF1 hF2
 cases f1 : decide (n < 1) with
 | true =>
  simp only [Try.f20, cx, strZ, f1, go_sem, meths]
  exact PostF.rs (v0 := .tup [.agg [.nilS, .nilS, .nilS, .int .i64 0, .int .i64 0, .nilS], .int .i64 2]) (.inr rfl)
 | false =>
 cases f2 : decide (16 < n) with
 | true =>
  simp only [Try.f20, cx, strZ, f1, f2, go_sem, meths]
  exact PostF.rs (v0 := .tup [.agg [.nilS, .nilS, .nilS, .int .i64 0, .int .i64 0, .nilS], .int .i64 2]) (.inr rfl)
 | false =>
 cases f3 : decide (m < 1) with
 | true =>
  simp only [Try.f20, cx, strZ, f1, f2, f3, go_sem, meths]
  exact PostF.rs (v0 := .tup [.agg [.nilS, .nilS, .nilS, .int .i64 0, .int .i64 0, .nilS], .int .i64 2]) (.inr rfl)
 | false =>
 cases f4 : decide (16 < m) with
 | true =>
  simp only [Try.f20, cx, strZ, f1, f2, f3, f4, go_sem, meths]
  exact PostF.rs (v0 := .tup [.agg [.nilS, .nilS, .nilS, .int .i64 0, .int .i64 0, .nilS], .int .i64 2]) (.inr rfl)
 | false =>
  exfalso
  simp only [decide_eq_false_iff_not] at f1 f2 f3 f4
  omega
theorem sameData_ok {F : SF} {L nx : Nat} (ps : List Dat) (ha : ps.length ≤ 1000000) :
  Con Try.prog 51 [.fs 8 (ps.map Dat.row), .fs 8 (ps.map Dat.row)] F L nx nx (.bool true) [] [] := by
 refine bdy Try.f51 ?_
 intro F3 hF1 hF2
 have f0 : ((ps.length : Int) != (ps.length : Int)) = false := by simp
 simp only [Try.f51, cx, f0, List.length_map, go_sem, meths]
 refine loopK.intro _ _ (I := fun i : Nat => ⟨[some (.fs 8 (ps.map Dat.row)), some (.fs 8 (ps.map Dat.row)), none, none, none, some (.int .i64 i), none, none, none, none, none, none, none, none, none, none, none, none, none, none, none, none, none, none, none, none], [], 10000 * (i + 1)⟩) (pre := fun i => i ≤ ps.length) (μ := fun i => ps.length - i) 0 (by omega) ?_ ?_
 ·exact Sub.of (hfz hF2) (by simp only [go_sem, subT, and_self, Int.natCast_zero]) trivial trivial (by simp)
 ·intro i hi
  by_cases hlt : i < ps.length
  ·have f1 : decide ((i : Int) < (ps.length : Int)) = true := dT (by omega)
   have r0 := rowD hlt
   simp only [f1, r0, Dat.row, beq_self_eq_true, List.length_map, Nat.add_assoc, go_sem]
   repeat refine sd1 ?_
   refine ⟨i + 1, by omega, by omega, ?_⟩
   exact Sub.of (hfz hF2) (by simp only [go_sem, subT, and_self, Int.natCast_succ]) trivial trivial (by simp only []; omega)
  ·have f1 : decide ((i : Int) < (ps.length : Int)) = false := dF (by omega)
   simp only [f1, List.length_map, Nat.add_assoc, go_sem]
   exact .bool (.inr rfl) rfl rfl (by simp [UpdAll])
theorem sameS_ok {F : SF} {L nx : Nat} (out inn asked : List Int) (num seen : Int) (ps : List Dat) (h1 : out.length ≤ 1000000) (h2 : inn.length ≤ 1000000) (h3 : asked.length ≤ 1000000) (h4 : ps.length ≤ 1000000) :
  Con Try.prog 18 [strV out inn num seen asked ps, strV out inn num seen asked ps] F L nx nx (.bool true) [] [] := by
 refine bdy Try.f18 ?_
 intro F3 hF1 hF2
 have f1 : (num == num) = true := by simp
 have f2 : (seen == seen) = true := by simp
 simp only [Try.f18, cx, strV, Nat.add_zero, go_sem, meths]
 refine CallVC.same (ints_ok out out h1 h1) ?_
 simp only [beq_self_eq_true, go_sem]
 refine CallVC.same (ints_ok inn inn h2 h2) ?_
 simp only [beq_self_eq_true, go_sem]
 refine CallVC.same (ints_ok asked asked h3 h3) ?_
 simp only [beq_self_eq_true, go_sem]
 refine CallVC.same (sameData_ok ps h4) ?_
 simp only [f1, f2, go_sem]
 exact .bool (.inr rfl) rfl rfl (by simp [UpdAll])
end Go.Proofs.Ytfhhbkehlfipgaa
end
section
namespace Go.Proofs.Ytfhhbkehlfipgaa
open Go.Tx
set_option maxRecDepth 100000
set_option maxHeartbeats 16000000
end Go.Proofs.Ytfhhbkehlfipgaa
end
section
namespace Go.Proofs.Ytfhhbkehlfipgaa
open Go.Tx
set_option maxRecDepth 100000
set_option maxHeartbeats 16000000
def kept (h : Dat → Bool) (ps : List Dat) (i : Nat) : List Dat := withoutG (ps.take i) h
end Go.Proofs.Ytfhhbkehlfipgaa
end
section
namespace Go.Proofs.Ytfhhbkehlfipgaa
open Go.Tx
set_option maxRecDepth 100000
end Go.Proofs.Ytfhhbkehlfipgaa
end
section
namespace Go.Proofs.Ytfhhbkehlfipgaa
open Go.Tx
set_option maxRecDepth 100000
set_option maxHeartbeats 16000000
end Go.Proofs.Ytfhhbkehlfipgaa
end
section
namespace Go.Proofs.Ytfhhbkehlfipgaa
open Go.Tx
set_option maxRecDepth 100000
set_option maxHeartbeats 16000000
theorem tsn_any {ps : List Dat} {t : Int} : ps.any (tsnB t) = ps.any (fun y => y.tsn == t) := rfl
structure StX where
 out : List Int
 inn : List Int
 ps : List Dat
 num : Int
 seen : Int
 asked : List Int
def StX.v (s : StX) : PV := strV s.out s.inn s.num s.seen s.asked s.ps
structure StX.Le (s : StX) (k : Nat) : Prop where
 o : s.out.length ≤ k
 i : s.inn.length ≤ k
 p : s.ps.length ≤ k
 a : s.asked.length ≤ k
def fillD (i : Nat) : Dat := ⟨1000000 + 2 * (i : Int), 0, 0, 0, false, false, true, [119]⟩
def fillL (k : Nat) : List Dat := (List.range k).map fillD
theorem fillL_len (k : Nat) : (fillL k).length = k := by simp [fillL]
theorem fillL_succ (k : Nat) : fillL (k + 1) = fillL k ++ [fillD k] := by simp [fillL, List.range_succ]
def bendG (r a : Nat) (n : Int) (d : Dat) (s : StX) : StX :=
 match r with
 | 0 => { s with out := s.out ++ [n] }
 | 1 => { s with inn := s.inn ++ [n] }
 | 2 => { s with inn := s.inn.set (a % s.inn.length) n }
 | 3 => { s with ps := s.ps ++ [{ d with pl := d.pl.take 40 }] }
 | 4 => { s with num := n }
 | 5 => { s with seen := n }
 | 6 => { s with asked := s.asked ++ [n] }
 | 7 => { s with ps := s.ps ++ fillL (77 + a % 6 - s.ps.length) }
 | 8 => { s with ps := s.ps ++ (s.ps.drop (a % s.ps.length)).take 1 }
 | _ => { s with out := s.out.take (a % s.out.length) }
theorem bendG_le {s : StX} {k : Nat} (h : s.Le k) (r a : Nat) (n : Int) (d : Dat) : (bendG r a n d s).Le (k + 100) := by
 obtain ⟨h1, h2, h3, h4⟩ := h
 unfold bendG
 split <;> constructor <;> simp only [List.length_append, List.length_cons, List.length_nil, List.length_set, List.length_take, fillL_len] <;> omega
structure BdX where
 i : Nat
 q : Nat
theorem bend_ok {F : SF} {L nx : Nat} (w a : Nat) (hw : w < 256) (ha : a < 256) (n : Int) (d : Dat) (hd : d.pl.length ≤ 9223372036854775807) (s : StX) (hs : s.Le 100000) :
    Con Try.prog 38 [.agg (.int .u8 w :: .int .u8 a :: .int .i64 n :: d.row), s.v] F L nx nx (bendG (w % 10) a n d s).v [] [] := by
  obtain ⟨out, inn, ps, num, seen, asked⟩ := s
  obtain ⟨h1, h2, h3, h4⟩ := hs
  simp only at h1 h2 h3 h4
  have hco := fun F L nx => copied_ok (F := F) (L := L) (nx := nx) out inn asked num seen ps (by omega) (by omega) (by omega) (by omega)
  simp only [strV] at hco
  obtain ⟨r, hr⟩ : ∃ r, r = w % 10 := ⟨_, rfl⟩
  have t0 : (w : Int).tmod 10 = (r : Int) := by rw [hr]; rfl
  have hr0 : r < 10 := by omega
  rw [← hr]
  refine bdy Try.f38 ?_
  intro F3 hF1 hF2
  simp only [Try.f38, cx, StX.v, strV, Dat.row, go_sem, meths]
  repeat refine sd2 ?_
  refine CallVC.same (hco _ _ _) ?_
  rcases (show r = 0 ∨ r = 1 ∨ r = 2 ∨ r = 3 ∨ r = 4 ∨ r = 5 ∨ r = 6 ∨ r = 7 ∨ r = 8 ∨ r = 9 by omega) with rfl | rfl | rfl | rfl | rfl | rfl | rfl | rfl | rfl | rfl
  · have f0 : (((0 : Nat) : Int) == 0) = true := rfl
    simp only [t0, f0, List.length_map, nm_beq, Nat.add_zero, go_sem]
    repeat refine sd2 ?_
    exact PostF.rs (v0 := .agg [.sl ⟨L + 1, 612⟩ 0 (out.length + 1), .sl ⟨L + 1, 129⟩ 0 inn.length, .sl ⟨L + 1, 130⟩ 0 ps.length, .int .i64 num, .int .i64 seen, .sl ⟨L + 1, 131⟩ 0 asked.length] ) (.inr rfl) (hw := by simp [Wk, WkL, Tx.look, List.take_of_length_le, bendG, eI])
  · have f0 : (((1 : Nat) : Int) == 0) = false := rfl
    have f1 : (((1 : Nat) : Int) == 1) = true := rfl
    simp only [t0, f0, f1, List.length_map, nm_beq, Nat.add_zero, go_sem]
    repeat refine sd2 ?_
    exact PostF.rs (v0 := .agg [.sl ⟨L + 1, 128⟩ 0 out.length, .sl ⟨L + 1, 676⟩ 0 (inn.length + 1), .sl ⟨L + 1, 130⟩ 0 ps.length, .int .i64 num, .int .i64 seen, .sl ⟨L + 1, 131⟩ 0 asked.length] ) (.inr rfl) (hw := by simp [Wk, WkL, Tx.look, List.take_of_length_le, bendG, eI])
  · have f0 : (((2 : Nat) : Int) == 0) = false := rfl
    have f1 : (((2 : Nat) : Int) == 1) = false := rfl
    have f2 : (((2 : Nat) : Int) == 2) = true := rfl
    by_cases hz : inn.length = 0
    · have g0 : decide ((0 : Int) < (inn.length : Int)) = false := dF (by omega)
      have e : inn = [] := List.length_eq_zero_iff.1 hz
      simp only [t0, f0, f1, f2, g0, Nat.add_zero, go_sem]
      repeat refine sd2 ?_
      exact PostF.rs (v0 := .agg [.sl ⟨L + 1, 128⟩ 0 out.length, .sl ⟨L + 1, 129⟩ 0 inn.length, .sl ⟨L + 1, 130⟩ 0 ps.length, .int .i64 num, .int .i64 seen, .sl ⟨L + 1, 131⟩ 0 asked.length] ) (.inr rfl) (hw := by simp [Wk, WkL, Tx.look, List.take_of_length_le, bendG, e])
    · have g0 : decide ((0 : Int) < (inn.length : Int)) = true := dT (by omega)
      have hm := Nat.mod_lt a (show 0 < inn.length by omega)
      have t1 : (a : Int).tmod (inn.length : Int) = ((a % inn.length : Nat) : Int) := rfl
      have r1 := getD_eI inn hm
      simp only [t0, f0, f1, f2, g0, t1, r1, eI, set_eI, Int.toNat_natCast, List.length_map, Nat.add_zero, go_sem]
      repeat refine sd2 ?_
      refine ⟨okDyn_num (fun x => x.i) (by kernel_rfl), ?_⟩
      exact PostF.rs (v0 := .agg [.sl ⟨L + 1, 128⟩ 0 out.length, .sl ⟨L + 1, 129⟩ 0 inn.length, .sl ⟨L + 1, 130⟩ 0 ps.length, .int .i64 num, .int .i64 seen, .sl ⟨L + 1, 131⟩ 0 asked.length] ) (.inr rfl) (hw := by simp [Wk, WkL, Tx.look, List.take_of_length_le, bendG])
  · have f0 : (((3 : Nat) : Int) == 0) = false := rfl
    have f1 : (((3 : Nat) : Int) == 1) = false := rfl
    have f2 : (((3 : Nat) : Int) == 2) = false := rfl
    have f3 : (((3 : Nat) : Int) == 3) = true := rfl
    have t3 : (min (d.pl.length : Int) 40).toNat = min d.pl.length 40 := by omega
    have t4 : d.pl.take (min d.pl.length 40) = d.pl.take 40 := by rw [List.take_eq_take_iff]; omega
    have t5 : d.pl.take (min 40 d.pl.length) = d.pl.take 40 := by rw [List.take_eq_take_iff]; omega
    simp only [t0, f0, f1, f2, f3, t3, List.length_map, nm_beq, Nat.add_zero, go_sem]
    repeat refine sd2 ?_
    exact PostF.rs (v0 := .agg [.sl ⟨L + 1, 128⟩ 0 out.length, .sl ⟨L + 1, 129⟩ 0 inn.length, .sl ⟨L + 1, 1188⟩ 0 (ps.length + 1), .int .i64 num, .int .i64 seen, .sl ⟨L + 1, 131⟩ 0 asked.length] ) (.inr rfl) (hw := by simp [Wk, WkL, Tx.look, List.take_of_length_le, bendG, Dat.row, t4])
  · have f0 : (((4 : Nat) : Int) == 0) = false := rfl
    have f1 : (((4 : Nat) : Int) == 1) = false := rfl
    have f2 : (((4 : Nat) : Int) == 2) = false := rfl
    have f3 : (((4 : Nat) : Int) == 3) = false := rfl
    have f4 : (((4 : Nat) : Int) == 4) = true := rfl
    simp only [t0, f0, f1, f2, f3, f4, Nat.add_zero, go_sem]
    repeat refine sd2 ?_
    exact PostF.rs (v0 := .agg [.sl ⟨L + 1, 128⟩ 0 out.length, .sl ⟨L + 1, 129⟩ 0 inn.length, .sl ⟨L + 1, 130⟩ 0 ps.length, .int .i64 n, .int .i64 seen, .sl ⟨L + 1, 131⟩ 0 asked.length] ) (.inr rfl) (hw := by simp [Wk, WkL, Tx.look, List.take_of_length_le, bendG])
  · have f0 : (((5 : Nat) : Int) == 0) = false := rfl
    have f1 : (((5 : Nat) : Int) == 1) = false := rfl
    have f2 : (((5 : Nat) : Int) == 2) = false := rfl
    have f3 : (((5 : Nat) : Int) == 3) = false := rfl
    have f4 : (((5 : Nat) : Int) == 4) = false := rfl
    have f5 : (((5 : Nat) : Int) == 5) = true := rfl
    simp only [t0, f0, f1, f2, f3, f4, f5, Nat.add_zero, go_sem]
    repeat refine sd2 ?_
    exact PostF.rs (v0 := .agg [.sl ⟨L + 1, 128⟩ 0 out.length, .sl ⟨L + 1, 129⟩ 0 inn.length, .sl ⟨L + 1, 130⟩ 0 ps.length, .int .i64 num, .int .i64 n, .sl ⟨L + 1, 131⟩ 0 asked.length] ) (.inr rfl) (hw := by simp [Wk, WkL, Tx.look, List.take_of_length_le, bendG])
  · have f0 : (((6 : Nat) : Int) == 0) = false := rfl
    have f1 : (((6 : Nat) : Int) == 1) = false := rfl
    have f2 : (((6 : Nat) : Int) == 2) = false := rfl
    have f3 : (((6 : Nat) : Int) == 3) = false := rfl
    have f4 : (((6 : Nat) : Int) == 4) = false := rfl
    have f5 : (((6 : Nat) : Int) == 5) = false := rfl
    have f6 : (((6 : Nat) : Int) == 6) = true := rfl
    simp only [t0, f0, f1, f2, f3, f4, f5, f6, List.length_map, nm_beq, Nat.add_zero, go_sem]
    repeat refine sd2 ?_
    exact PostF.rs (v0 := .agg [.sl ⟨L + 1, 128⟩ 0 out.length, .sl ⟨L + 1, 129⟩ 0 inn.length, .sl ⟨L + 1, 130⟩ 0 ps.length, .int .i64 num, .int .i64 seen, .sl ⟨L + 1, 996⟩ 0 (asked.length + 1)] ) (.inr rfl) (hw := by simp [Wk, WkL, Tx.look, List.take_of_length_le, bendG, eI])
  · have f0 : (((7 : Nat) : Int) == 0) = false := rfl
    have f1 : (((7 : Nat) : Int) == 1) = false := rfl
    have f2 : (((7 : Nat) : Int) == 2) = false := rfl
    have f3 : (((7 : Nat) : Int) == 3) = false := rfl
    have f4 : (((7 : Nat) : Int) == 4) = false := rfl
    have f5 : (((7 : Nat) : Int) == 5) = false := rfl
    have f6 : (((7 : Nat) : Int) == 6) = false := rfl
    have f7 : (((7 : Nat) : Int) == 7) = true := rfl
    simp only [t0, f0, f1, f2, f3, f4, f5, f6, f7, Nat.add_zero, go_sem]
    repeat refine sd2 ?_
    refine loopK.intro _ _ (I := fun z : BdX => ⟨[none, none, none, some (.ptr ⟨L + 1, 32⟩ 0 0), some (.ptr ⟨L + 1, 64⟩ 0 0), some (.int .i64 a), none, some (.int .i64 z.i), none, none, none, none, none, none, none, none, none, none, none, none, none, none, none, none, none, none, none, none, none, none, none, none, none, none, none, none, none, none, none, none, none, none, none, none, none, none, none, none, none, none, none, none, none, none, none, none, none, none, none, none, none, none, none, none, none, none, none, none, none, none, none, none, none, none, none, none, none, none, none, none, none, none, none, none, none, none, none, none, none, none, none, none, none, none, none, none, none, none, none, none, none, none, none, none, none, none, none, none, none, none, none, none, none, none, none, none, none, none, none, none, none, none, none, none, none, none, none, none, none, none, none, none, none, none, none, none, none, none, none, none, none],
      [(⟨L + 1, 32⟩, .rows 34 6 true false [[.sl ⟨L + 1, 128⟩ 0 out.length, .sl ⟨L + 1, 129⟩ 0 inn.length, .sl ⟨L + 1, z.q⟩ 0 (ps ++ fillL z.i).length, .int .i64 num, .int .i64 seen, .sl ⟨L + 1, 131⟩ 0 asked.length]]), (⟨L + 1, 64⟩, .rows 34 6 true true [[.nilS, .nilS, .nilS, .int .i64 0, .int .i64 0, .nilS]]),
       (⟨L + 1, 128⟩, .rows 3 1 true true (out.map eI)), (⟨L + 1, 129⟩, .rows 3 1 true true (inn.map eI)), (⟨L + 1, 131⟩, .rows 3 1 true true (asked.map eI)), (⟨L + 1, z.q⟩, .rows 43 8 true true ((ps ++ fillL z.i).map Dat.row))], 10000 * (z.i + 1)⟩)
      (pre := fun z => z.i ≤ 77 + a % 6 - ps.length ∧ 129 < z.q ∧ z.q ≠ 131 ∧ z.q < 10000 * (z.i + 1)) (μ := fun z => 90 - z.i) ⟨0, 130⟩ ⟨by simp, by simp, by simp, by simp⟩ ?_ ?_
    · have e9 : ps ++ fillL 0 = ps := by simp [fillL]
      refine Sub.of (hfz hF2) (by simp only [go_sem, subT, and_self, Int.natCast_zero]) ?_ (by simp [subK, keys]) (by simp)
      simp [subH, Tx.look, e9]
    · rintro ⟨i, q⟩ ⟨k1, k2, k3, k4⟩
      simp only at k1 k2 k3 k4 ⊢
      have q_0 : (q = 0) = False := by apply eq_false; omega
      have n0_q : (0 = q) = False := by apply eq_false; omega
      have q_32 : (q = 32) = False := by apply eq_false; omega
      have n32_q : (32 = q) = False := by apply eq_false; omega
      have q_64 : (q = 64) = False := by apply eq_false; omega
      have n64_q : (64 = q) = False := by apply eq_false; omega
      have q_128 : (q = 128) = False := by apply eq_false; omega
      have n128_q : (128 = q) = False := by apply eq_false; omega
      have q_129 : (q = 129) = False := by apply eq_false; omega
      have n129_q : (129 = q) = False := by apply eq_false; omega
      have q_131 : (q = 131) = False := by apply eq_false; omega
      have n131_q : (131 = q) = False := by apply eq_false; omega
      have q_n1 : ∀ kk, (10000 * (i + 1) + kk = q) = False := fun kk => by apply eq_false; omega
      have q_n2 : ∀ kk, (q = 10000 * (i + 1) + kk) = False := fun kk => by apply eq_false; omega
      have q_n3 : (10000 * (i + 1) = q) = False := by apply eq_false; omega
      have q_n4 : (q = 10000 * (i + 1)) = False := by apply eq_false; omega
      have q_n5 : ∀ kk, ((⟨L + 1, q⟩ : Nm) == ⟨L + 1, 10000 * (i + 1) + kk⟩) = false := fun kk => by simp; omega
      have hl : (ps ++ fillL i).length = ps.length + i := by simp [fillL_len]
      have t6 : (a : Int).tmod 6 = ((a % 6 : Nat) : Int) := rfl
      by_cases hlt : ps.length + i < 77 + a % 6
      · have g0 : decide (((ps ++ fillL i).length : Int) < 77 + ((a % 6 : Nat) : Int)) = true := dT (by omega)
        have hs : (ps ++ fillL (i + 1)).map Dat.row = (ps ++ fillL i).map Dat.row ++ [[.int .i64 (1000000 + 2 * (i : Int)), .int .i64 0, .int .i64 0, .int .i64 0, .bool false, .bool false, .bool true, .str [119]]] := by rw [fillL_succ]; simp [Dat.row, fillD]
        have hsl : (ps ++ fillL (i + 1)).length = (ps ++ fillL i).length + 1 := by simp [fillL_len]; omega
        obtain ⟨K, hK⟩ : ∃ K, K = ps ++ fillL i := ⟨_, rfl⟩
        rw [← hK] at hs hsl g0 hl ⊢
        simp only [t6, g0, List.length_map, q_32, n32_q, q_64, q_128, q_129, q_131, q_n1, q_n2, q_n5, nS2, Nat.add_assoc, go_sem]
        repeat refine sd2 ?_
        refine ⟨⟨i + 1, 10000 * (i + 1) + 448⟩, ⟨by simp only []; omega, by simp only []; omega, by simp only []; omega, by simp only []; omega⟩, by simp only []; omega, ?_⟩
        refine Sub.o hF2 ?_
        simp only [hs]
        simp [subH, Tx.look, hsl, q_n1]
      · have g0 : decide (((ps ++ fillL i).length : Int) < 77 + ((a % 6 : Nat) : Int)) = false := dF (by omega)
        have e : 77 + a % 6 - ps.length = i := by omega
        have hb : (bendG 7 a n d ⟨out, inn, ps, num, seen, asked⟩) = ⟨out, inn, ps ++ fillL i, num, seen, asked⟩ := by unfold bendG; simp only [e]
        rw [hb]
        obtain ⟨K, hK⟩ : ∃ K, K = ps ++ fillL i := ⟨_, rfl⟩
        rw [← hK] at g0 hl ⊢
        simp only [t6, g0, n32_q, n64_q, Nat.add_assoc, go_sem]
        repeat refine sd2 ?_
        exact PostF.rs (v0 := .agg [.sl ⟨L + 1, 128⟩ 0 out.length, .sl ⟨L + 1, 129⟩ 0 inn.length, .sl ⟨L + 1, q⟩ 0 K.length, .int .i64 num, .int .i64 seen, .sl ⟨L + 1, 131⟩ 0 asked.length] ) (.inr rfl) (hw := by simp [Wk, WkL, Tx.look, List.take_of_length_le, q_32, q_64, q_128, q_129, q_131])
  · have f0 : (((8 : Nat) : Int) == 0) = false := rfl
    have f1 : (((8 : Nat) : Int) == 1) = false := rfl
    have f2 : (((8 : Nat) : Int) == 2) = false := rfl
    have f3 : (((8 : Nat) : Int) == 3) = false := rfl
    have f4 : (((8 : Nat) : Int) == 4) = false := rfl
    have f5 : (((8 : Nat) : Int) == 5) = false := rfl
    have f6 : (((8 : Nat) : Int) == 6) = false := rfl
    have f7 : (((8 : Nat) : Int) == 7) = false := rfl
    have f8 : (((8 : Nat) : Int) == 8) = true := rfl
    by_cases hz : ps.length = 0
    · have g0 : decide ((0 : Int) < (ps.length : Int)) = false := dF (by omega)
      have e : ps = [] := List.length_eq_zero_iff.1 hz
      simp only [t0, f0, f1, f2, f3, f4, f5, f6, f7, f8, g0, Nat.add_zero, go_sem]
      repeat refine sd2 ?_
      exact PostF.rs (v0 := .agg [.sl ⟨L + 1, 128⟩ 0 out.length, .sl ⟨L + 1, 129⟩ 0 inn.length, .sl ⟨L + 1, 130⟩ 0 ps.length, .int .i64 num, .int .i64 seen, .sl ⟨L + 1, 131⟩ 0 asked.length] ) (.inr rfl) (hw := by simp [Wk, WkL, Tx.look, List.take_of_length_le, bendG, e])
    · have g0 : decide ((0 : Int) < (ps.length : Int)) = true := dT (by omega)
      have hm := Nat.mod_lt a (show 0 < ps.length by omega)
      have t1 : (a : Int).tmod (ps.length : Int) = ((a % ps.length : Nat) : Int) := rfl
      have r1 := rowD hm
      have hb : (bendG 8 a n d ⟨out, inn, ps, num, seen, asked⟩) = ⟨out, inn, ps ++ [ps[a % ps.length]], num, seen, asked⟩ := by unfold bendG; simp only [List.drop_eq_getElem_cons hm, List.take_succ_cons, List.take_zero]
      rw [hb]
      obtain ⟨y, hy⟩ : ∃ y, y = ps[a % ps.length] := ⟨_, rfl⟩
      rw [← hy] at r1 ⊢
      simp only [t0, f0, f1, f2, f3, f4, f5, f6, f7, f8, g0, t1, r1, Dat.row, Int.toNat_natCast, List.length_map, nm_beq, Nat.add_zero, go_sem]
      repeat refine sd2 ?_
      refine ⟨okDyn_num (fun x => x.i) (by kernel_rfl), ?_⟩
      exact PostF.rs (v0 := .agg [.sl ⟨L + 1, 128⟩ 0 out.length, .sl ⟨L + 1, 129⟩ 0 inn.length, .sl ⟨L + 1, 1476⟩ 0 (ps.length + 1), .int .i64 num, .int .i64 seen, .sl ⟨L + 1, 131⟩ 0 asked.length] ) (.inr rfl) (hw := by simp [Wk, WkL, Tx.look, List.take_of_length_le, Dat.row])
  · have f0 : (((9 : Nat) : Int) == 0) = false := rfl
    have f1 : (((9 : Nat) : Int) == 1) = false := rfl
    have f2 : (((9 : Nat) : Int) == 2) = false := rfl
    have f3 : (((9 : Nat) : Int) == 3) = false := rfl
    have f4 : (((9 : Nat) : Int) == 4) = false := rfl
    have f5 : (((9 : Nat) : Int) == 5) = false := rfl
    have f6 : (((9 : Nat) : Int) == 6) = false := rfl
    have f7 : (((9 : Nat) : Int) == 7) = false := rfl
    have f8 : (((9 : Nat) : Int) == 8) = false := rfl
    by_cases hz : out.length = 0
    · have g0 : decide ((0 : Int) < (out.length : Int)) = false := dF (by omega)
      have e : out = [] := List.length_eq_zero_iff.1 hz
      simp only [t0, f0, f1, f2, f3, f4, f5, f6, f7, f8, g0, Nat.add_zero, go_sem]
      repeat refine sd2 ?_
      exact PostF.rs (v0 := .agg [.sl ⟨L + 1, 128⟩ 0 out.length, .sl ⟨L + 1, 129⟩ 0 inn.length, .sl ⟨L + 1, 130⟩ 0 ps.length, .int .i64 num, .int .i64 seen, .sl ⟨L + 1, 131⟩ 0 asked.length] ) (.inr rfl) (hw := by simp [Wk, WkL, Tx.look, List.take_of_length_le, bendG, e])
    · have g0 : decide ((0 : Int) < (out.length : Int)) = true := dT (by omega)
      have hm := Nat.mod_lt a (show 0 < out.length by omega)
      have t1 : (a : Int).tmod (out.length : Int) = ((a % out.length : Nat) : Int) := rfl
      simp only [t0, f0, f1, f2, f3, f4, f5, f6, f7, f8, g0, t1, Int.toNat_natCast, List.length_map, Nat.add_zero, go_sem]
      repeat refine sd2 ?_
      refine ⟨okDyn_num (fun x => x.i) (by kernel_rfl), ?_⟩
      exact PostF.rs (v0 := .agg [.sl ⟨L + 1, 128⟩ 0 (a % out.length - 0), .sl ⟨L + 1, 129⟩ 0 inn.length, .sl ⟨L + 1, 130⟩ 0 ps.length, .int .i64 num, .int .i64 seen, .sl ⟨L + 1, 131⟩ 0 asked.length] ) (.inr rfl) (hw := by simp [Wk, WkL, Tx.look, List.take_of_length_le, bendG, Nat.le_of_lt hm])
def StX.z : StX := ⟨[], [], [], 0, 0, []⟩
def nopB (inn : List Int) (ps : List Dat) (d : Dat) : Bool := ps.any (tsnB d.tsn) || (!d.lo && decide (lead d.sq (inn.getD d.st.toNat 0) 16 < 0))
def StX.chk (s : StX) : Bool := chkB s.out s.inn s.num s.seen s.asked s.ps
def takeR (s : StX) (d : Dat) : StX × List Msg × Int :=
 if s.chk = false then (StX.z, [], 350)
 else if d.ok = false then (StX.z, [], 320)
 else if (s.inn.length : Int) ≤ d.st then (StX.z, [], 2)
 else if nopB s.inn s.ps d = true then (s, [], 0)
 else if 80 ≤ s.ps.length then (StX.z, [], 3)
 else ({ s with inn := (takeG s.inn s.ps d).1, ps := (takeG s.inn s.ps d).2.1 }, (takeG s.inn s.ps d).2.2, 0)
def ansV (r : StX × List Msg × Int) : PV := .tup [r.1.v, .fs 4 (r.2.1.map Msg.row), .int .i64 r.2.2]
theorem takeG_nop {inn : List Int} {ps : List Dat} {d : Dat} (h : nopB inn ps d = true) : takeG inn ps d = (inn, ps, []) := by
 unfold takeG
 rw [← tsn_any]
 unfold nopB at h
 rw [if_pos h]
theorem ansV_err (n : Int) : ansV (StX.z, [], n) = .tup [.agg [.fs 1 [], .fs 1 [], .fs 8 [], .int .i64 0, .int .i64 0, .fs 1 []], .fs 4 [], .int .i64 n] := rfl
theorem ansV_ok (s : StX) (l : List Msg) : ansV (s, l, 0) = .tup [.agg [.fs 1 (s.out.map eI), .fs 1 (s.inn.map eI), .fs 8 (s.ps.map Dat.row), .int .i64 s.num, .int .i64 s.seen, .fs 1 (s.asked.map eI)], .fs 4 (l.map Msg.row), .int .i64 0] := rfl
theorem takeAll_ok {F : SF} {L nx : Nat} (s : StX) (hs : s.Le 1000) (d : Dat) : Con Try.prog 39 [s.v, .agg d.row] F L nx nx (ansV (takeR s d)) [] [] := by
 obtain ⟨out, inn, ps, num, seen, asked⟩ := s
 obtain ⟨ho, hi, hpl, ha2⟩ := hs
 simp only at ho hi hpl ha2
 replace ho : out.length ≤ 1000000 := by omega
 replace hi : inn.length ≤ 1000000 := by omega
 replace ha2 : asked.length ≤ 1000000 := by omega
 have hp1000 := hpl
 replace hpl : ps.length ≤ 1000000 := by omega
 have f9 : ((350 : Int) != 0) = true := rfl
 have f0 : ((0 : Int) != 0) = false := rfl
 cases hc : chkB out inn num seen asked ps with
 | false =>
  have hv : takeR ⟨out, inn, ps, num, seen, asked⟩ d = (StX.z, [], 350) := by simp only [takeR, StX.chk, hc, if_true]
  rw [hv, ansV_err]
  have hb := fun F L nx => begin_bad (F := F) (L := L) (nx := nx) out inn asked num seen ps ho hi ha2 hpl hc
  simp only [strV] at hb
  refine bdy Try.f39 ?_
  intro F3 hF1 hF2
  simp only [Try.f39, cx, StX.v, strV, Dat.row, go_sem, meths]
  refine CallVC.same (hb _ _ _) ?_
  simp only [f9, go_sem]
  repeat refine sd2 ?_
  exact PostF.rs (v0 := .tup [.agg [.nilS, .nilS, .nilS, .int .i64 0, .int .i64 0, .nilS], .nilS, .int .i64 350]) (.inr rfl)
 | true =>
 obtain ⟨hS, hP, hD⟩ := chkB_ok hc ha2
 have hp80 := hP.len
 have ho2 := hS.o2
 have hi2 := hS.i2
 cases hk : d.ok with
 | false =>
  have hv : takeR ⟨out, inn, ps, num, seen, asked⟩ d = (StX.z, [], 320) := by simp only [takeR, StX.chk, hc, hk, if_true, if_false, Bool.true_eq_false]
  rw [hv, ansV_err]
  have hbg : ∀ F L nx, Con Try.prog 41 [strV out inn num seen asked ps] F L nx (nx + 5) (.tup [.ptr ⟨L, nx⟩ 0 0, .int .i64 0]) (stU L nx out inn asked num seen ps) [] := fun F L nx => begin_ok out inn asked num seen hS ps hP hD
  simp only [strV, stU] at hbg
  refine bdy Try.f39 ?_
  intro F3 hF1 hF2
  simp only [Try.f39, cx, StX.v, strV, Dat.row, go_sem, meths]
  refine CallVC.same (hbg _ _ _) ?_
  simp only [f0, go_sem]
  repeat refine sd2 ?_
  refine CallVC.same (piece_ok d) ?_
  rw [hk]
  simp only [go_sem]
  repeat refine sd2 ?_
  exact PostF.rs (v0 := .tup [.agg [.nilS, .nilS, .nilS, .int .i64 0, .int .i64 0, .nilS], .nilS, .int .i64 320]) (.inr rfl)
 | true =>
 by_cases hst : (inn.length : Int) ≤ d.st
 ·have f1 : decide ((inn.length : Int) ≤ d.st) = true := dT hst
  have hv : takeR ⟨out, inn, ps, num, seen, asked⟩ d = (StX.z, [], 2) := by simp only [takeR, StX.chk, hc, hk, hst, if_true, if_false, Bool.true_eq_false]
  rw [hv, ansV_err]
  have hbg : ∀ F L nx, Con Try.prog 41 [strV out inn num seen asked ps] F L nx (nx + 5) (.tup [.ptr ⟨L, nx⟩ 0 0, .int .i64 0]) (stU L nx out inn asked num seen ps) [] := fun F L nx => begin_ok out inn asked num seen hS ps hP hD
  simp only [strV, stU] at hbg
  refine bdy Try.f39 ?_
  intro F3 hF1 hF2
  simp only [Try.f39, cx, StX.v, strV, Dat.row, go_sem, meths]
  refine CallVC.same (hbg _ _ _) ?_
  simp only [f0, go_sem]
  repeat refine sd2 ?_
  refine CallVC.same (piece_ok d) ?_
  rw [hk]
  simp only [f1, List.length_map, go_sem]
  repeat refine sd2 ?_
  exact PostF.rs (v0 := .tup [.agg [.nilS, .nilS, .nilS, .int .i64 0, .int .i64 0, .nilS], .nilS, .int .i64 2]) (.inr rfl)
 have f1 : decide ((inn.length : Int) ≤ d.st) = false := dF hst
 have hok := Dat.ok_bounds hk
 have r1 := getD_eI inn (i := d.st.toNat) (by omega)
 have hin := serB16_at hS.i3 (k := d.st.toNat) (by omega)
 by_cases hl : ps.length < 80
 ·have hv : takeR ⟨out, inn, ps, num, seen, asked⟩ d = (⟨out, (takeG inn ps d).1, (takeG inn ps d).2.1, num, seen, asked⟩, (takeG inn ps d).2.2, 0) := by
   have h8 : ¬ 80 ≤ ps.length := by omega
   cases hn : nopB inn ps d with
   | true => simp only [takeR, StX.chk, hc, hk, hst, hn, if_true, if_false, Bool.true_eq_false, takeG_nop hn]
   | false => simp only [takeR, StX.chk, hc, hk, hst, hn, h8, if_false, Bool.true_eq_false, Bool.false_eq_true]
  rw [hv]
  exact take_ok out inn asked num seen hS ps hP hD d hk (by omega) hl
 have f2 : decide ((80 : Int) ≤ (ps.length : Int)) = true := dT (by omega)
 cases hda : ps.any (tsnB d.tsn) with
 | true =>
  have hv : takeR ⟨out, inn, ps, num, seen, asked⟩ d = (⟨out, inn, ps, num, seen, asked⟩, [], 0) := by simp only [takeR, StX.chk, hc, hk, hst, nopB, hda, Bool.true_or, if_true, if_false, Bool.true_eq_false]
  rw [hv, ansV_ok]
  have hbg : ∀ F L nx, Con Try.prog 41 [strV out inn num seen asked ps] F L nx (nx + 5) (.tup [.ptr ⟨L, nx⟩ 0 0, .int .i64 0]) (stU L nx out inn asked num seen ps) [] := fun F L nx => begin_ok out inn asked num seen hS ps hP hD
  simp only [strV, stU] at hbg
  refine bdy Try.f39 ?_
  intro F3 hF1 hF2
  simp only [Try.f39, cx, StX.v, strV, Dat.row, go_sem, meths]
  refine CallVC.same (hbg _ _ _) ?_
  simp only [f0, go_sem]
  repeat refine sd2 ?_
  refine CallVC.same (piece_ok d) ?_
  rw [hk]
  simp only [f1, List.length_map, go_sem]
  repeat refine sd2 ?_
  refine CallVC.same (containsFuncD_ok ps 80 [] [.ptr ⟨L + 1, 32⟩ 0 0] (fun y => y.tsn == d.tsn) [⟨L + 1, 32⟩] (by simp) (by omega) (fun x hx L' nx' hL => take1_ok x ⟨L + 1, 32⟩ hL 43 true true d (by simp [Dat.row]))) ?_
  rw [show (ps.any fun y => y.tsn == d.tsn) = ps.any (tsnB d.tsn) from rfl]
  rw [hda]
  simp only [Nat.add_zero, go_sem]
  repeat refine sd2 ?_
  refine ⟨okDyn_num (fun x => x.i) (by kernel_rfl), ?_⟩
  repeat refine sd2 ?_
  exact PostF.rs (v0 := .tup [.agg [.sl ⟨L + 1, 193⟩ 0 out.length, .sl ⟨L + 1, 194⟩ 0 inn.length, .sl ⟨L + 1, 195⟩ 0 ps.length, .int .i64 num, .int .i64 seen, .sl ⟨L + 1, 196⟩ 0 asked.length], .nilS, .int .i64 0]) (.inr rfl)
 | false =>
 cases hlo : d.lo with
 | true =>
  have hv : takeR ⟨out, inn, ps, num, seen, asked⟩ d = (StX.z, [], 3) := by simp only [takeR, StX.chk, hc, hk, hst, nopB, hda, hlo, show 80 ≤ ps.length by omega, Bool.false_or, Bool.not_true, Bool.false_and, Bool.false_eq_true, if_true, if_false, Bool.true_eq_false]
  rw [hv, ansV_err]
  have hbg : ∀ F L nx, Con Try.prog 41 [strV out inn num seen asked ps] F L nx (nx + 5) (.tup [.ptr ⟨L, nx⟩ 0 0, .int .i64 0]) (stU L nx out inn asked num seen ps) [] := fun F L nx => begin_ok out inn asked num seen hS ps hP hD
  simp only [strV, stU] at hbg
  refine bdy Try.f39 ?_
  intro F3 hF1 hF2
  simp only [Try.f39, cx, StX.v, strV, Dat.row, go_sem, meths]
  refine CallVC.same (hbg _ _ _) ?_
  simp only [f0, go_sem]
  repeat refine sd2 ?_
  refine CallVC.same (piece_ok d) ?_
  rw [hk]
  simp only [f1, hlo, List.length_map, go_sem]
  repeat refine sd2 ?_
  refine CallVC.same (containsFuncD_ok ps 80 [] [.ptr ⟨L + 1, 32⟩ 0 0] (fun y => y.tsn == d.tsn) [⟨L + 1, 32⟩] (by simp) (by omega) (fun x hx L' nx' hL => take1_ok x ⟨L + 1, 32⟩ hL 43 true true d (by simp [Dat.row, hlo]))) ?_
  rw [show (ps.any fun y => y.tsn == d.tsn) = ps.any (tsnB d.tsn) from rfl]
  rw [hda]
  simp only [f2, List.length_map, go_sem]
  repeat refine sd2 ?_
  refine ⟨okDyn_num (fun x => x.i) (by kernel_rfl), ?_⟩
  repeat refine sd2 ?_
  exact PostF.rs (v0 := .tup [.agg [.nilS, .nilS, .nilS, .int .i64 0, .int .i64 0, .nilS], .nilS, .int .i64 3]) (.inr rfl)
 | false =>
 by_cases hld : lead d.sq (inn.getD d.st.toNat 0) 16 < 0
 ·have g4 : decide (lead d.sq (inn.getD d.st.toNat 0) 16 < 0) = true := dT hld
  have hv : takeR ⟨out, inn, ps, num, seen, asked⟩ d = (⟨out, inn, ps, num, seen, asked⟩, [], 0) := by simp only [takeR, StX.chk, hc, hk, hst, nopB, hda, hlo, g4, Bool.false_or, Bool.not_false, Bool.true_and, if_true, if_false, Bool.true_eq_false]
  rw [hv, ansV_ok]
  have hbg : ∀ F L nx, Con Try.prog 41 [strV out inn num seen asked ps] F L nx (nx + 5) (.tup [.ptr ⟨L, nx⟩ 0 0, .int .i64 0]) (stU L nx out inn asked num seen ps) [] := fun F L nx => begin_ok out inn asked num seen hS ps hP hD
  simp only [strV, stU] at hbg
  refine bdy Try.f39 ?_
  intro F3 hF1 hF2
  simp only [Try.f39, cx, StX.v, strV, Dat.row, go_sem, meths]
  refine CallVC.same (hbg _ _ _) ?_
  simp only [f0, go_sem]
  repeat refine sd2 ?_
  refine CallVC.same (piece_ok d) ?_
  rw [hk]
  simp only [f1, hlo, List.length_map, go_sem]
  repeat refine sd2 ?_
  refine CallVC.same (containsFuncD_ok ps 80 [] [.ptr ⟨L + 1, 32⟩ 0 0] (fun y => y.tsn == d.tsn) [⟨L + 1, 32⟩] (by simp) (by omega) (fun x hx L' nx' hL => take1_ok x ⟨L + 1, 32⟩ hL 43 true true d (by simp [Dat.row, hlo]))) ?_
  rw [show (ps.any fun y => y.tsn == d.tsn) = ps.any (tsnB d.tsn) from rfl]
  rw [hda]
  simp only [r1, eI, List.length_map, go_sem]
  repeat refine sd2 ?_
  refine CallVC.same (lead16_ok d.sq (inn.getD d.st.toNat 0) hok.2.2.2.2.1 hok.2.2.2.2.2.1 hin.1 hin.2) ?_
  simp only [g4, Nat.add_zero, go_sem]
  repeat refine sd2 ?_
  refine ⟨okDyn_num (fun x => x.i) (by kernel_rfl), ?_⟩
  repeat refine sd2 ?_
  exact PostF.rs (v0 := .tup [.agg [.sl ⟨L + 1, 193⟩ 0 out.length, .sl ⟨L + 1, 194⟩ 0 inn.length, .sl ⟨L + 1, 195⟩ 0 ps.length, .int .i64 num, .int .i64 seen, .sl ⟨L + 1, 196⟩ 0 asked.length], .nilS, .int .i64 0]) (.inr rfl)
 ·have g4 : decide (lead d.sq (inn.getD d.st.toNat 0) 16 < 0) = false := dF hld
  have hv : takeR ⟨out, inn, ps, num, seen, asked⟩ d = (StX.z, [], 3) := by simp only [takeR, StX.chk, hc, hk, hst, nopB, hda, hlo, g4, show 80 ≤ ps.length by omega, Bool.false_or, Bool.not_false, Bool.true_and, Bool.false_eq_true, if_true, if_false, Bool.true_eq_false]
  rw [hv, ansV_err]
  have hbg : ∀ F L nx, Con Try.prog 41 [strV out inn num seen asked ps] F L nx (nx + 5) (.tup [.ptr ⟨L, nx⟩ 0 0, .int .i64 0]) (stU L nx out inn asked num seen ps) [] := fun F L nx => begin_ok out inn asked num seen hS ps hP hD
  simp only [strV, stU] at hbg
  refine bdy Try.f39 ?_
  intro F3 hF1 hF2
  simp only [Try.f39, cx, StX.v, strV, Dat.row, go_sem, meths]
  refine CallVC.same (hbg _ _ _) ?_
  simp only [f0, go_sem]
  repeat refine sd2 ?_
  refine CallVC.same (piece_ok d) ?_
  rw [hk]
  simp only [f1, hlo, List.length_map, go_sem]
  repeat refine sd2 ?_
  refine CallVC.same (containsFuncD_ok ps 80 [] [.ptr ⟨L + 1, 32⟩ 0 0] (fun y => y.tsn == d.tsn) [⟨L + 1, 32⟩] (by simp) (by omega) (fun x hx L' nx' hL => take1_ok x ⟨L + 1, 32⟩ hL 43 true true d (by simp [Dat.row, hlo]))) ?_
  rw [show (ps.any fun y => y.tsn == d.tsn) = ps.any (tsnB d.tsn) from rfl]
  rw [hda]
  simp only [r1, eI, List.length_map, go_sem]
  repeat refine sd2 ?_
  refine CallVC.same (lead16_ok d.sq (inn.getD d.st.toNat 0) hok.2.2.2.2.1 hok.2.2.2.2.2.1 hin.1 hin.2) ?_
  simp only [f2, g4, List.length_map, go_sem]
  repeat refine sd2 ?_
  refine ⟨okDyn_num (fun x => x.i) (by kernel_rfl), ?_⟩
  repeat refine sd2 ?_
  exact PostF.rs (v0 := .tup [.agg [.nilS, .nilS, .nilS, .int .i64 0, .int .i64 0, .nilS], .nilS, .int .i64 3]) (.inr rfl)
end Go.Proofs.Ytfhhbkehlfipgaa
end
section
namespace Go.Proofs.Ytfhhbkehlfipgaa
open Go.Tx
set_option maxRecDepth 100000
set_option maxHeartbeats 16000000
end Go.Proofs.Ytfhhbkehlfipgaa
end
section
namespace Go.Proofs.Ytfhhbkehlfipgaa
open Go.Tx
set_option maxRecDepth 100000
def bT (cum : Int) (i : Nat) : Int := (cum - (i : Int)) % 4294967296
def sameD (e f : Dat) : Prop := e.st = f.st ∧ e.sq = f.sq ∧ e.lo = f.lo
structure Bk (ps : List Dat) (cum : Int) (n : Nat) (f : Dat) : Prop where
 top : getT ps (bT cum n) = some f
 on : ∀ i, i ≤ n → ∃ e, getT ps (bT cum i) = some e ∧ e.la = false ∧ e.fi = decide (i = n) ∧ sameD e f
theorem bT_ne {cum : Int} {i j : Nat} (h : i < j) (hj : j < 1000) : bT cum i ≠ bT cum j := by unfold bT; omega
theorem Bk.lt {ps : List Dat} {cum : Int} {n : Nat} {f : Dat} (h : Bk ps cum n f) (hl : ps.length ≤ 80) : n < ps.length := by
 refine Nat.lt_of_not_le fun hn => ?_
 have hnd : ((List.range (ps.length + 1)).map (bT cum)).Nodup := by
  rw [List.nodup_iff_pairwise_ne, List.pairwise_map]
  refine List.Pairwise.imp_of_mem ?_ List.pairwise_lt_range
  intro a b _ hb hab
  exact bT_ne hab (by have := List.mem_range.1 hb; omega)
 have hs : ∀ x ∈ (List.range (ps.length + 1)).map (bT cum), x ∈ ps.map Dat.tsn := by
  intro x hx
  obtain ⟨i, hi, rfl⟩ := List.mem_map.1 hx
  obtain ⟨e, he, _⟩ := h.on i (by have := List.mem_range.1 hi; omega)
  obtain ⟨g1, g2⟩ := getT_mem he
  exact List.mem_map.2 ⟨e, g1, g2⟩
 have := nodup_sub hnd hs
 simp only [List.length_map, List.length_range] at this
 omega
end Go.Proofs.Ytfhhbkehlfipgaa
end
section
namespace Go.Proofs.Ytfhhbkehlfipgaa
open Go.Tx
set_option maxRecDepth 100000
set_option maxHeartbeats 16000000
end Go.Proofs.Ytfhhbkehlfipgaa
end
section
namespace Go.Proofs.Ytfhhbkehlfipgaa
open Go.Tx
set_option maxRecDepth 100000
set_option maxHeartbeats 16000000
def skipR (s : StX) (cum : Int) (sk : List (Int × Int)) : StX × List Msg × Int :=
 if s.chk = false then (StX.z, [], 350)
 else if fwdV cum sk = false then (StX.z, [], 320)
 else if sk.any (fun k => decide ((s.inn.length : Int) ≤ k.1)) = true then (StX.z, [], 2)
 else ({ s with inn := (skipG s.inn s.ps cum sk).1, ps := (skipG s.inn s.ps cum sk).2.1 }, (skipG s.inn s.ps cum sk).2.2, 0)
theorem skipAll_ok {F : SF} {L nx : Nat} (s : StX) (hs : s.Le 1000) (cum : Int) (sk : List (Int × Int)) (hsk : sk.length ≤ 1000) : Con Try.prog 30 [s.v, fwdP cum sk] F L nx nx (ansV (skipR s cum sk)) [] [] := by
 obtain ⟨out, inn, ps, num, seen, asked⟩ := s
 obtain ⟨ho, hi, hpl, ha2⟩ := hs
 simp only at ho hi hpl ha2
 have f9 : ((350 : Int) != 0) = true := rfl
 have f8 : ((320 : Int) != 0) = true := rfl
 have f0 : ((0 : Int) != 0) = false := rfl
 cases hc : chkB out inn num seen asked ps with
 | false =>
  have hv : skipR ⟨out, inn, ps, num, seen, asked⟩ cum sk = (StX.z, [], 350) := by simp only [skipR, StX.chk, hc, if_true]
  rw [hv, ansV_err]
  have hb := fun F L nx => begin_bad (F := F) (L := L) (nx := nx) out inn asked num seen ps (by omega) (by omega) (by omega) (by omega) hc
  simp only [strV] at hb
  refine bdy Try.f30 ?_
  intro F3 hF1 hF2
  simp only [Try.f30, cx, StX.v, strV, fwdP, go_sem, meths]
  refine CallVC.same (hb _ _ _) ?_
  simp only [f9, go_sem]
  repeat refine sd2 ?_
  exact PostF.rs (v0 := .tup [.agg [.nilS, .nilS, .nilS, .int .i64 0, .int .i64 0, .nilS], .nilS, .int .i64 350]) (.inr rfl)
 | true =>
 obtain ⟨hS, hP, hD⟩ := chkB_ok hc (by omega)
 have hbg : ∀ F L nx, Con Try.prog 41 [strV out inn num seen asked ps] F L nx (nx + 5) (.tup [.ptr ⟨L, nx⟩ 0 0, .int .i64 0]) (stU L nx out inn asked num seen ps) [] := fun F L nx => begin_ok out inn asked num seen hS ps hP hD
 simp only [strV, stU] at hbg
 have hpf := fun F L nx => putForward_ok (F := F) (L := L) (nx := nx) cum sk (by omega)
 cases hf : fwdV cum sk with
 | false =>
  have hv : skipR ⟨out, inn, ps, num, seen, asked⟩ cum sk = (StX.z, [], 320) := by simp only [skipR, StX.chk, hc, hf, if_true, if_false, Bool.true_eq_false]
  rw [hv, ansV_err]
  simp only [hf, Bool.false_eq_true, if_false, fwdP] at hpf
  refine bdy Try.f30 ?_
  intro F3 hF1 hF2
  simp only [Try.f30, cx, StX.v, strV, fwdP, go_sem, meths]
  refine CallVC.same (hbg _ _ _) ?_
  simp only [f0, go_sem]
  repeat refine sd2 ?_
  refine CallVC.same (hpf _ _ _) ?_
  simp only [f8, go_sem]
  repeat refine sd2 ?_
  exact PostF.rs (v0 := .tup [.agg [.nilS, .nilS, .nilS, .int .i64 0, .int .i64 0, .nilS], .nilS, .int .i64 320]) (.inr rfl)
 | true =>
 cases ha : sk.any (fun k => decide ((inn.length : Int) ≤ k.1)) with
 | true =>
  have hv : skipR ⟨out, inn, ps, num, seen, asked⟩ cum sk = (StX.z, [], 2) := by simp only [skipR, StX.chk, hc, hf, ha, if_true, if_false, Bool.true_eq_false]
  rw [hv, ansV_err]
  simp only [hf, if_true, fwdP] at hpf
  refine bdy Try.f30 ?_
  intro F3 hF1 hF2
  simp only [Try.f30, cx, StX.v, strV, fwdP, go_sem, meths]
  refine CallVC.same (hbg _ _ _) ?_
  simp only [f0, go_sem]
  repeat refine sd2 ?_
  refine CallVC.same (hpf _ _ _) ?_
  simp only [f0, go_sem]
  repeat refine sd2 ?_
  refine CallVC.same (containsFunc2_ok sk 57 [] [.ptr ⟨L + 1, 0⟩ 0 0] (fun k => decide ((inn.length : Int) ≤ k.1)) [⟨L + 1, 0⟩] (by simp) (by omega) (fun x hx L' nx' hL => skip1_ok x ⟨L + 1, 0⟩ hL 34 true true (.fs 1 (out.map eI)) (.fs 8 (ps.map Dat.row)) (.int .i64 num) (.int .i64 seen) (.fs 1 (asked.map eI)) inn (by simp))) ?_
  rw [ha]
  simp only [go_sem]
  repeat refine sd2 ?_
  exact PostF.rs (v0 := .tup [.agg [.nilS, .nilS, .nilS, .int .i64 0, .int .i64 0, .nilS], .nilS, .int .i64 2]) (.inr rfl)
 | false =>
  have hv : skipR ⟨out, inn, ps, num, seen, asked⟩ cum sk = (⟨out, (skipG inn ps cum sk).1, (skipG inn ps cum sk).2.1, num, seen, asked⟩, (skipG inn ps cum sk).2.2, 0) := by simp only [skipR, StX.chk, hc, hf, ha, if_false, Bool.true_eq_false, Bool.false_eq_true]
  rw [hv]
  exact skip_ok out inn asked num seen hS ps hP hD cum sk hf ha
theorem StX.Le.mono {s : StX} {j k : Nat} (h : s.Le j) (hk : j ≤ k) : s.Le k := ⟨by have := h.o; omega, by have := h.i; omega, by have := h.p; omega, by have := h.a; omega⟩
structure Rst where
 k : Int
 n : Int
 la : Int
 r : Int
 ss : List Int
def Rst.v (x : Rst) : PV := rstP x.k x.n x.la x.r (.fs 1 (x.ss.map eI))
def Rst.ok (x : Rst) : Bool := resetV x.k x.n x.la x.r x.ss
def Rst.z : Rst := ⟨0, 0, 0, 0, []⟩
theorem resetV_long {k n la r : Int} {xs : List Int} (hk : k ≠ 2) (h : 31 ≤ xs.length) : resetV k n la r xs = false := by
 unfold resetV
 rw [if_neg hk, show decide (xs.length ≤ 30) = false from dF (by omega)]
 simp
def ansR (r : StX × Rst × Int) : PV := .tup [r.1.v, r.2.1.v, .int .i64 r.2.2]
theorem ansR_err (n : Int) : ansR (StX.z, Rst.z, n) = .tup [.agg [.fs 1 [], .fs 1 [], .fs 8 [], .int .i64 0, .int .i64 0, .fs 1 []], .agg [.int .i64 0, .int .i64 0, .int .i64 0, .int .i64 0, .fs 1 []], .int .i64 n] := rfl
theorem ansR_ok (s : StX) (x : Rst) (n : Int) : ansR (s, x, n) = .tup [.agg [.fs 1 (s.out.map eI), .fs 1 (s.inn.map eI), .fs 8 (s.ps.map Dat.row), .int .i64 s.num, .int .i64 s.seen, .fs 1 (s.asked.map eI)], .agg [.int .i64 x.k, .int .i64 x.n, .int .i64 x.la, .int .i64 x.r, .fs 1 (x.ss.map eI)], .int .i64 n] := rfl
def askR (s : StX) (last : Int) (l : List Int) : StX × Rst × Int :=
 if s.chk = false then (StX.z, Rst.z, 350)
 else if serB 32 last = false then (StX.z, Rst.z, 2)
 else if l.length < 1 then (StX.z, Rst.z, 2)
 else if listedB l s.out.length = false then (StX.z, Rst.z, 2)
 else if 0 < s.asked.length then (StX.z, Rst.z, 8)
 else ({ s with asked := l }, ⟨1, s.num, last, 0, l⟩, 0)
theorem askAll_ok {F : SF} {L nx : Nat} (s : StX) (hs : s.Le 1000) (last : Int) (l : List Int) (hl : l.length ≤ 1000) : Con Try.prog 15 [s.v, .int .i64 last, .fs 1 (l.map eI)] F L nx nx (ansR (askR s last l)) [] [] := by
 obtain ⟨out, inn, ps, num, seen, asked⟩ := s
 obtain ⟨ho, hi, hpl, ha2⟩ := hs
 simp only at ho hi hpl ha2
 have f0 : ((0 : Int) != 0) = false := rfl
 cases hc : chkB out inn num seen asked ps with
 | false =>
  have hv : askR ⟨out, inn, ps, num, seen, asked⟩ last l = (StX.z, Rst.z, 350) := by simp only [askR, StX.chk, hc, if_true]
  rw [hv, ansR_err]
  have hb := fun F L nx => begin_bad (F := F) (L := L) (nx := nx) out inn asked num seen ps (by omega) (by omega) (by omega) (by omega) hc
  simp only [strV] at hb
  refine bdy Try.f15 ?_
  intro F3 hF1 hF2
  simp only [Try.f15, cx, StX.v, strV, go_sem, meths]
  refine CallVC.same (hb _ _ _) ?_
  simp only [show ((350 : Int) != 0) = true from rfl, go_sem]
  repeat refine sd2 ?_
  exact PostF.rs (v0 := .tup [.agg [.nilS, .nilS, .nilS, .int .i64 0, .int .i64 0, .nilS], .agg [.int .i64 0, .int .i64 0, .int .i64 0, .int .i64 0, .nilS], .int .i64 350]) (.inr rfl)
 | true =>
 obtain ⟨hS, hP, hD⟩ := chkB_ok hc (by omega)
 have hbg : ∀ F L nx, Con Try.prog 41 [strV out inn num seen asked ps] F L nx (nx + 5) (.tup [.ptr ⟨L, nx⟩ 0 0, .int .i64 0]) (stU L nx out inn asked num seen ps) [] := fun F L nx => begin_ok out inn asked num seen hS ps hP hD
 simp only [strV, stU] at hbg
 cases h1 : serB 32 last with
 | false =>
  have hv : askR ⟨out, inn, ps, num, seen, asked⟩ last l = (StX.z, Rst.z, 2) := by simp only [askR, StX.chk, hc, h1, if_true, if_false, Bool.true_eq_false]
  rw [hv, ansR_err]
  refine bdy Try.f15 ?_
  intro F3 hF1 hF2
  simp only [Try.f15, cx, StX.v, strV, go_sem, meths]
  refine CallVC.same (hbg _ _ _) ?_
  simp only [f0, go_sem]
  repeat refine sd2 ?_
  refine CallVC.pure (args2 := [_, .fs 1 ([last].map eI)]) ⟨rfl, by simp [Wk, eI], trivial⟩ (serial_ok 32 [last] (by omega) (by omega) (by simp)) rfl ?_
  rw [show [last].all (serB 32) = serB 32 last by simp]
  rw [h1]
  simp only [go_sem]
  repeat refine sd2 ?_
  exact PostF.rs (v0 := .tup [.agg [.nilS, .nilS, .nilS, .int .i64 0, .int .i64 0, .nilS], .agg [.int .i64 0, .int .i64 0, .int .i64 0, .int .i64 0, .nilS], .int .i64 2]) (.inr rfl)
 | true =>
 by_cases h2 : l.length < 1
 ·have hv : askR ⟨out, inn, ps, num, seen, asked⟩ last l = (StX.z, Rst.z, 2) := by simp only [askR, StX.chk, hc, h1, h2, if_true, if_false, Bool.true_eq_false]
  have f2 : (decide ((l.length : Int) < 1)) = true := dT (by omega)
  rw [hv, ansR_err]
  refine bdy Try.f15 ?_
  intro F3 hF1 hF2
  simp only [Try.f15, cx, StX.v, strV, go_sem, meths]
  refine CallVC.same (hbg _ _ _) ?_
  simp only [f0, go_sem]
  repeat refine sd2 ?_
  refine CallVC.pure (args2 := [_, .fs 1 ([last].map eI)]) ⟨rfl, by simp [Wk, eI], trivial⟩ (serial_ok 32 [last] (by omega) (by omega) (by simp)) rfl ?_
  rw [show [last].all (serB 32) = serB 32 last by simp]
  rw [h1]
  simp only [f2, List.length_map, go_sem]
  repeat refine sd2 ?_
  exact PostF.rs (v0 := .tup [.agg [.nilS, .nilS, .nilS, .int .i64 0, .int .i64 0, .nilS], .agg [.int .i64 0, .int .i64 0, .int .i64 0, .int .i64 0, .nilS], .int .i64 2]) (.inr rfl)
 have f2 : (decide ((l.length : Int) < 1)) = false := dF (by omega)
 cases h3 : listedB l out.length with
 | false =>
  have hv : askR ⟨out, inn, ps, num, seen, asked⟩ last l = (StX.z, Rst.z, 2) := by simp only [askR, StX.chk, hc, h1, h2, h3, if_true, if_false, Bool.true_eq_false]
  rw [hv, ansR_err]
  refine bdy Try.f15 ?_
  intro F3 hF1 hF2
  simp only [Try.f15, cx, StX.v, strV, go_sem, meths]
  refine CallVC.same (hbg _ _ _) ?_
  simp only [f0, go_sem]
  repeat refine sd2 ?_
  refine CallVC.pure (args2 := [_, .fs 1 ([last].map eI)]) ⟨rfl, by simp [Wk, eI], trivial⟩ (serial_ok 32 [last] (by omega) (by omega) (by simp)) rfl ?_
  rw [show [last].all (serB 32) = serB 32 last by simp]
  rw [h1]
  simp only [f2, List.length_map, Nat.add_zero, go_sem]
  repeat refine sd2 ?_
  refine CallVC.same (listed_ok l out.length (by omega)) ?_
  rw [h3]
  simp only [go_sem]
  repeat refine sd2 ?_
  exact PostF.rs (v0 := .tup [.agg [.nilS, .nilS, .nilS, .int .i64 0, .int .i64 0, .nilS], .agg [.int .i64 0, .int .i64 0, .int .i64 0, .int .i64 0, .nilS], .int .i64 2]) (.inr rfl)
 | true =>
 by_cases h4 : 0 < asked.length
 ·have hv : askR ⟨out, inn, ps, num, seen, asked⟩ last l = (StX.z, Rst.z, 8) := by simp only [askR, StX.chk, hc, h1, h2, h3, h4, if_true, if_false, Bool.true_eq_false]
  have f4 : decide ((0 : Int) < (asked.length : Int)) = true := dT (by omega)
  rw [hv, ansR_err]
  refine bdy Try.f15 ?_
  intro F3 hF1 hF2
  simp only [Try.f15, cx, StX.v, strV, go_sem, meths]
  refine CallVC.same (hbg _ _ _) ?_
  simp only [f0, go_sem]
  repeat refine sd2 ?_
  refine CallVC.pure (args2 := [_, .fs 1 ([last].map eI)]) ⟨rfl, by simp [Wk, eI], trivial⟩ (serial_ok 32 [last] (by omega) (by omega) (by simp)) rfl ?_
  rw [show [last].all (serB 32) = serB 32 last by simp]
  rw [h1]
  simp only [f2, List.length_map, Nat.add_zero, go_sem]
  repeat refine sd2 ?_
  refine CallVC.same (listed_ok l out.length (by omega)) ?_
  rw [h3]
  simp only [f4, List.length_map, go_sem]
  repeat refine sd2 ?_
  exact PostF.rs (v0 := .tup [.agg [.nilS, .nilS, .nilS, .int .i64 0, .int .i64 0, .nilS], .agg [.int .i64 0, .int .i64 0, .int .i64 0, .int .i64 0, .nilS], .int .i64 8]) (.inr rfl)
 have f4 : decide ((0 : Int) < (asked.length : Int)) = false := dF (by omega)
 have hv : askR ⟨out, inn, ps, num, seen, asked⟩ last l = (⟨out, inn, ps, num, seen, l⟩, ⟨1, num, last, 0, l⟩, 0) := by simp only [askR, StX.chk, hc, h1, h2, h3, h4, if_false, Bool.true_eq_false]
 rw [hv, ansR_ok]
 simp only
 refine bdy Try.f15 ?_
 intro F3 hF1 hF2
 simp only [Try.f15, cx, StX.v, strV, go_sem, meths]
 refine CallVC.same (hbg _ _ _) ?_
 simp only [f0, go_sem]
 repeat refine sd2 ?_
 refine CallVC.pure (args2 := [_, .fs 1 ([last].map eI)]) ⟨rfl, by simp [Wk, eI], trivial⟩ (serial_ok 32 [last] (by omega) (by omega) (by simp)) rfl ?_
 rw [show [last].all (serB 32) = serB 32 last by simp]
 rw [h1]
 simp only [f2, List.length_map, Nat.add_zero, go_sem]
 repeat refine sd2 ?_
 refine CallVC.same (listed_ok l out.length (by omega)) ?_
 rw [h3]
 simp only [f4, List.length_map, go_sem]
 repeat refine sd2 ?_
 refine CallVC.same (cloneI_ok l (by omega)) ?_
 simp only [Nat.add_zero, go_sem]
 repeat refine sd2 ?_
 refine CallVC.same (cloneI_ok l (by omega)) ?_
 simp only [go_sem]
 repeat refine sd2 ?_
 refine ⟨okDyn_num (fun x => x.i) (by kernel_rfl), ?_⟩
 repeat refine sd2 ?_
 exact PostF.rs (v0 := .tup [.agg [.sl ⟨L + 1, 161⟩ 0 out.length, .sl ⟨L + 1, 162⟩ 0 inn.length, .sl ⟨L + 1, 163⟩ 0 ps.length, .int .i64 num, .int .i64 seen, .sl ⟨L + 1, 1157⟩ 0 l.length], .agg [.int .i64 1, .int .i64 num, .int .i64 last, .int .i64 0, .sl ⟨L + 1, 1542⟩ 0 l.length], .int .i64 0]) (.inr rfl)
end Go.Proofs.Ytfhhbkehlfipgaa
end
