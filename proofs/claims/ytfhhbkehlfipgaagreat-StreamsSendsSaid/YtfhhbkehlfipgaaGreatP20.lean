/- Lemmas for the walk: ZC72, ZC73, ZR20, ZC55. -/
import Derived.Test.YtfhhbkehlfipgaaGreatP14
import Derived.Test.YtfhhbkehlfipgaaGreatP16
import Derived.Test.YtfhhbkehlfipgaaGreatP19
import Derived.Test.YtfhhbkehlfipgaaGreatP08
import Derived.Test.YtfhhbkehlfipgaaGreatRows
import Derived.ProofKit
import Derived.OpenShut
import Derived.Test.YtfhhbkehlfipgaaGreatP17
set_option linter.all false
section
namespace Go.Proofs.YtfhhbkehlfipgaaGreat
open Go.Tx
set_option maxRecDepth 100000
set_option maxHeartbeats 16000000
structure StX where
 out : List Int
 inn : List Int
 ps : List Dat
 num : Int
 seen : Int
 asked : List Int
def StX.v (s : StX) : PV := strV s.out s.inn s.num s.seen s.asked s.ps
structure StX.Le (s : StX) (k : Nat) : Prop where
 o : s.out.length ≤ k
 i : s.inn.length ≤ k
 p : s.ps.length ≤ k
 a : s.asked.length ≤ k
def fillD (i : Nat) : Dat := ⟨1000000 + 2 * (i : Int), 0, 0, 0, false, false, true, [119]⟩
def fillL (k : Nat) : List Dat := (List.range k).map fillD
theorem fillL_len (k : Nat) : (fillL k).length = k := by simp [fillL]
theorem fillL_succ (k : Nat) : fillL (k + 1) = fillL k ++ [fillD k] := by simp [fillL, List.range_succ]
def bendG (r a : Nat) (n : Int) (d : Dat) (s : StX) : StX :=
 match r with
 | 0 => { s with out := s.out ++ [n] }
 | 1 => { s with inn := s.inn ++ [n] }
 | 2 => { s with inn := s.inn.set (a % s.inn.length) n }
 | 3 => { s with ps := s.ps ++ [{ d with pl := d.pl.take 40 }] }
 | 4 => { s with num := n }
 | 5 => { s with seen := n }
 | 6 => { s with asked := s.asked ++ [n] }
 | 7 => { s with ps := s.ps ++ fillL (77 + a % 6 - s.ps.length) }
 | 8 => { s with ps := s.ps ++ (s.ps.drop (a % s.ps.length)).take 1 }
 | _ => { s with out := s.out.take (a % s.out.length) }
theorem bendG_le {s : StX} {k : Nat} (h : s.Le k) (r a : Nat) (n : Int) (d : Dat) : (bendG r a n d s).Le (k + 100) := by
 obtain ⟨h1, h2, h3, h4⟩ := h
 unfold bendG
 split <;> constructor <;> simp only [List.length_append, List.length_cons, List.length_nil, List.length_set, List.length_take, fillL_len] <;> omega
structure BdX where
 i : Nat
 q : Nat
theorem bend_ok {F : SF} {L nx : Nat} (w a : Nat) (hw : w < 256) (ha : a < 256) (n : Int) (d : Dat) (hd : d.pl.length ≤ 9223372036854775807) (s : StX) (hs : s.Le 100000) :
    Con Tryz.prog 41 [.agg (.int .u8 w :: .int .u8 a :: .int .i64 n :: d.row), s.v] F L nx nx (bendG (w % 10) a n d s).v [] [] := by
  obtain ⟨out, inn, ps, num, seen, asked⟩ := s
  obtain ⟨h1, h2, h3, h4⟩ := hs
  simp only at h1 h2 h3 h4
  have hco := fun F L nx => copied_ok (F := F) (L := L) (nx := nx) out inn asked num seen ps (by omega) (by omega) (by omega) (by omega)
  simp only [strV] at hco
  obtain ⟨r, hr⟩ : ∃ r, r = w % 10 := ⟨_, rfl⟩
  have t0 : (w : Int).tmod 10 = (r : Int) := by rw [hr]; rfl
  have hr0 : r < 10 := by omega
  rw [← hr]
  refine Con.body (cxOk (L + 1)) rfl rfl (fn := Tryz.f41) (c := Tryz.f41.body.getD .skip) (by kernel_rfl) (by rfl) (by kernel_rfl) rfl (by simp) ?_
  intro F3 hF1 hF2
  simp only [Tryz.f41, cx, StX.v, strV, Dat.row, go_sem, meths]
  repeat refine And.intro (by first | omega | exact ⟨by omega, by omega⟩ | exact okS (by kernel_rfl)) ?_
  refine CallVC.same (hco _ _ _) ?_
  rcases (show r = 0 ∨ r = 1 ∨ r = 2 ∨ r = 3 ∨ r = 4 ∨ r = 5 ∨ r = 6 ∨ r = 7 ∨ r = 8 ∨ r = 9 by omega) with rfl | rfl | rfl | rfl | rfl | rfl | rfl | rfl | rfl | rfl
  · have f0 : (((0 : Nat) : Int) == 0) = true := rfl
    simp only [t0, f0, List.length_map, nm_beq, Nat.add_zero, go_sem]
    repeat refine And.intro (by first | omega | exact ⟨by omega, by omega⟩ | exact okS (by kernel_rfl)) ?_
    exact PostF.of (p := True) (v0 := .agg [.sl ⟨L + 1, 612⟩ 0 (out.length + 1), .sl ⟨L + 1, 129⟩ 0 inn.length, .sl ⟨L + 1, 130⟩ 0 ps.length, .int .i64 num, .int .i64 seen, .sl ⟨L + 1, 131⟩ 0 asked.length] ) (.inr rfl) (by simp only [resVal, resVals, resVal1, one, go_sem]) trivial (by simp [Wk, WkL, Tx.look, List.take_of_length_le, bendG, eI]) (by simp [wkN, wkNL]) (by simp [Tx.nf, nfl]) trivial (by simp [UpdAll, keys])
  · have f0 : (((1 : Nat) : Int) == 0) = false := rfl
    have f1 : (((1 : Nat) : Int) == 1) = true := rfl
    simp only [t0, f0, f1, List.length_map, nm_beq, Nat.add_zero, go_sem]
    repeat refine And.intro (by first | omega | exact ⟨by omega, by omega⟩ | exact okS (by kernel_rfl)) ?_
    exact PostF.of (p := True) (v0 := .agg [.sl ⟨L + 1, 128⟩ 0 out.length, .sl ⟨L + 1, 676⟩ 0 (inn.length + 1), .sl ⟨L + 1, 130⟩ 0 ps.length, .int .i64 num, .int .i64 seen, .sl ⟨L + 1, 131⟩ 0 asked.length] ) (.inr rfl) (by simp only [resVal, resVals, resVal1, one, go_sem]) trivial (by simp [Wk, WkL, Tx.look, List.take_of_length_le, bendG, eI]) (by simp [wkN, wkNL]) (by simp [Tx.nf, nfl]) trivial (by simp [UpdAll, keys])
  · have f0 : (((2 : Nat) : Int) == 0) = false := rfl
    have f1 : (((2 : Nat) : Int) == 1) = false := rfl
    have f2 : (((2 : Nat) : Int) == 2) = true := rfl
    by_cases hz : inn.length = 0
    · have g0 : decide ((0 : Int) < (inn.length : Int)) = false := dF (by omega)
      have e : inn = [] := List.length_eq_zero_iff.1 hz
      simp only [t0, f0, f1, f2, g0, Nat.add_zero, go_sem]
      repeat refine And.intro (by first | omega | exact ⟨by omega, by omega⟩ | exact okS (by kernel_rfl)) ?_
      exact PostF.of (p := True) (v0 := .agg [.sl ⟨L + 1, 128⟩ 0 out.length, .sl ⟨L + 1, 129⟩ 0 inn.length, .sl ⟨L + 1, 130⟩ 0 ps.length, .int .i64 num, .int .i64 seen, .sl ⟨L + 1, 131⟩ 0 asked.length] ) (.inr rfl) (by simp only [resVal, resVals, resVal1, one, go_sem]) trivial (by simp [Wk, WkL, Tx.look, List.take_of_length_le, bendG, e]) (by simp [wkN, wkNL]) (by simp [Tx.nf, nfl]) trivial (by simp [UpdAll, keys])
    · have g0 : decide ((0 : Int) < (inn.length : Int)) = true := dT (by omega)
      have hm := Nat.mod_lt a (show 0 < inn.length by omega)
      have t1 : (a : Int).tmod (inn.length : Int) = ((a % inn.length : Nat) : Int) := rfl
      have r1 := getD_eI inn hm
      simp only [t0, f0, f1, f2, g0, t1, r1, eI, set_eI, Int.toNat_natCast, List.length_map, Nat.add_zero, go_sem]
      repeat refine And.intro (by first | omega | exact ⟨by omega, by omega⟩ | exact okS (by kernel_rfl)) ?_
      refine ⟨okDyn_num (fun x => x.i) (by kernel_rfl), ?_⟩
      exact PostF.of (p := True) (v0 := .agg [.sl ⟨L + 1, 128⟩ 0 out.length, .sl ⟨L + 1, 129⟩ 0 inn.length, .sl ⟨L + 1, 130⟩ 0 ps.length, .int .i64 num, .int .i64 seen, .sl ⟨L + 1, 131⟩ 0 asked.length] ) (.inr rfl) (by simp only [resVal, resVals, resVal1, one, go_sem]) trivial (by simp [Wk, WkL, Tx.look, List.take_of_length_le, bendG]) (by simp [wkN, wkNL]) (by simp [Tx.nf, nfl]) trivial (by simp [UpdAll, keys])
  · have f0 : (((3 : Nat) : Int) == 0) = false := rfl
    have f1 : (((3 : Nat) : Int) == 1) = false := rfl
    have f2 : (((3 : Nat) : Int) == 2) = false := rfl
    have f3 : (((3 : Nat) : Int) == 3) = true := rfl
    have t3 : (min (d.pl.length : Int) 40).toNat = min d.pl.length 40 := by omega
    have t4 : d.pl.take (min d.pl.length 40) = d.pl.take 40 := by rw [List.take_eq_take_iff]; omega
    have t5 : d.pl.take (min 40 d.pl.length) = d.pl.take 40 := by rw [List.take_eq_take_iff]; omega
    simp only [t0, f0, f1, f2, f3, t3, List.length_map, nm_beq, Nat.add_zero, go_sem]
    repeat refine And.intro (by first | omega | exact ⟨by omega, by omega⟩ | exact okS (by kernel_rfl)) ?_
    exact PostF.of (p := True) (v0 := .agg [.sl ⟨L + 1, 128⟩ 0 out.length, .sl ⟨L + 1, 129⟩ 0 inn.length, .sl ⟨L + 1, 1188⟩ 0 (ps.length + 1), .int .i64 num, .int .i64 seen, .sl ⟨L + 1, 131⟩ 0 asked.length] ) (.inr rfl) (by simp only [resVal, resVals, resVal1, one, go_sem]) trivial (by simp [Wk, WkL, Tx.look, List.take_of_length_le, bendG, Dat.row, t4]) (by simp [wkN, wkNL]) (by simp [Tx.nf, nfl]) trivial (by simp [UpdAll, keys])
  · have f0 : (((4 : Nat) : Int) == 0) = false := rfl
    have f1 : (((4 : Nat) : Int) == 1) = false := rfl
    have f2 : (((4 : Nat) : Int) == 2) = false := rfl
    have f3 : (((4 : Nat) : Int) == 3) = false := rfl
    have f4 : (((4 : Nat) : Int) == 4) = true := rfl
    simp only [t0, f0, f1, f2, f3, f4, Nat.add_zero, go_sem]
    repeat refine And.intro (by first | omega | exact ⟨by omega, by omega⟩ | exact okS (by kernel_rfl)) ?_
    exact PostF.of (p := True) (v0 := .agg [.sl ⟨L + 1, 128⟩ 0 out.length, .sl ⟨L + 1, 129⟩ 0 inn.length, .sl ⟨L + 1, 130⟩ 0 ps.length, .int .i64 n, .int .i64 seen, .sl ⟨L + 1, 131⟩ 0 asked.length] ) (.inr rfl) (by simp only [resVal, resVals, resVal1, one, go_sem]) trivial (by simp [Wk, WkL, Tx.look, List.take_of_length_le, bendG]) (by simp [wkN, wkNL]) (by simp [Tx.nf, nfl]) trivial (by simp [UpdAll, keys])
  · have f0 : (((5 : Nat) : Int) == 0) = false := rfl
    have f1 : (((5 : Nat) : Int) == 1) = false := rfl
    have f2 : (((5 : Nat) : Int) == 2) = false := rfl
    have f3 : (((5 : Nat) : Int) == 3) = false := rfl
    have f4 : (((5 : Nat) : Int) == 4) = false := rfl
    have f5 : (((5 : Nat) : Int) == 5) = true := rfl
    simp only [t0, f0, f1, f2, f3, f4, f5, Nat.add_zero, go_sem]
    repeat refine And.intro (by first | omega | exact ⟨by omega, by omega⟩ | exact okS (by kernel_rfl)) ?_
    exact PostF.of (p := True) (v0 := .agg [.sl ⟨L + 1, 128⟩ 0 out.length, .sl ⟨L + 1, 129⟩ 0 inn.length, .sl ⟨L + 1, 130⟩ 0 ps.length, .int .i64 num, .int .i64 n, .sl ⟨L + 1, 131⟩ 0 asked.length] ) (.inr rfl) (by simp only [resVal, resVals, resVal1, one, go_sem]) trivial (by simp [Wk, WkL, Tx.look, List.take_of_length_le, bendG]) (by simp [wkN, wkNL]) (by simp [Tx.nf, nfl]) trivial (by simp [UpdAll, keys])
  · have f0 : (((6 : Nat) : Int) == 0) = false := rfl
    have f1 : (((6 : Nat) : Int) == 1) = false := rfl
    have f2 : (((6 : Nat) : Int) == 2) = false := rfl
    have f3 : (((6 : Nat) : Int) == 3) = false := rfl
    have f4 : (((6 : Nat) : Int) == 4) = false := rfl
    have f5 : (((6 : Nat) : Int) == 5) = false := rfl
    have f6 : (((6 : Nat) : Int) == 6) = true := rfl
    simp only [t0, f0, f1, f2, f3, f4, f5, f6, List.length_map, nm_beq, Nat.add_zero, go_sem]
    repeat refine And.intro (by first | omega | exact ⟨by omega, by omega⟩ | exact okS (by kernel_rfl)) ?_
    exact PostF.of (p := True) (v0 := .agg [.sl ⟨L + 1, 128⟩ 0 out.length, .sl ⟨L + 1, 129⟩ 0 inn.length, .sl ⟨L + 1, 130⟩ 0 ps.length, .int .i64 num, .int .i64 seen, .sl ⟨L + 1, 996⟩ 0 (asked.length + 1)] ) (.inr rfl) (by simp only [resVal, resVals, resVal1, one, go_sem]) trivial (by simp [Wk, WkL, Tx.look, List.take_of_length_le, bendG, eI]) (by simp [wkN, wkNL]) (by simp [Tx.nf, nfl]) trivial (by simp [UpdAll, keys])
  · have f0 : (((7 : Nat) : Int) == 0) = false := rfl
    have f1 : (((7 : Nat) : Int) == 1) = false := rfl
    have f2 : (((7 : Nat) : Int) == 2) = false := rfl
    have f3 : (((7 : Nat) : Int) == 3) = false := rfl
    have f4 : (((7 : Nat) : Int) == 4) = false := rfl
    have f5 : (((7 : Nat) : Int) == 5) = false := rfl
    have f6 : (((7 : Nat) : Int) == 6) = false := rfl
    have f7 : (((7 : Nat) : Int) == 7) = true := rfl
    simp only [t0, f0, f1, f2, f3, f4, f5, f6, f7, Nat.add_zero, go_sem]
    repeat refine And.intro (by first | omega | exact ⟨by omega, by omega⟩ | exact okS (by kernel_rfl)) ?_
    refine loopK.intro _ _ (I := fun z : BdX => ⟨[none, none, none, some (.ptr ⟨L + 1, 32⟩ 0 0), some (.ptr ⟨L + 1, 64⟩ 0 0), some (.int .i64 a), none, some (.int .i64 z.i), none, none, none, none, none, none, none, none, none, none, none, none, none, none, none, none, none, none, none, none, none, none, none, none, none, none, none, none, none, none, none, none, none, none, none, none, none, none, none, none, none, none, none, none, none, none, none, none, none, none, none, none, none, none, none, none, none, none, none, none, none, none, none, none, none, none, none, none, none, none, none, none, none, none, none, none, none, none, none, none, none, none, none, none, none, none, none, none, none, none, none, none, none, none, none, none, none, none, none, none, none, none, none, none, none, none, none, none, none, none, none, none, none, none, none, none, none, none, none, none, none, none, none, none, none, none, none, none, none, none, none, none, none],
      [(⟨L + 1, 32⟩, .rows 41 6 true false [[.sl ⟨L + 1, 128⟩ 0 out.length, .sl ⟨L + 1, 129⟩ 0 inn.length, .sl ⟨L + 1, z.q⟩ 0 (ps ++ fillL z.i).length, .int .i64 num, .int .i64 seen, .sl ⟨L + 1, 131⟩ 0 asked.length]]), (⟨L + 1, 64⟩, .rows 41 6 true true [[.nilS, .nilS, .nilS, .int .i64 0, .int .i64 0, .nilS]]),
       (⟨L + 1, 128⟩, .rows 3 1 true true (out.map eI)), (⟨L + 1, 129⟩, .rows 3 1 true true (inn.map eI)), (⟨L + 1, 131⟩, .rows 3 1 true true (asked.map eI)), (⟨L + 1, z.q⟩, .rows 32 8 true true ((ps ++ fillL z.i).map Dat.row))], 10000 * (z.i + 1)⟩)
      (pre := fun z => z.i ≤ 77 + a % 6 - ps.length ∧ 129 < z.q ∧ z.q ≠ 131 ∧ z.q < 10000 * (z.i + 1)) (μ := fun z => 90 - z.i) ⟨0, 130⟩ ⟨by simp, by simp, by simp, by simp⟩ ?_ ?_
    · have e9 : ps ++ fillL 0 = ps := by simp [fillL]
      refine Sub.of (fun n hn => hF2 n (by have : n.l = L + 1 := hn; omega)) (by simp only [go_sem, subT, and_self, Int.natCast_zero]) ?_ (by simp [subK, keys]) (by simp)
      simp [subH, Tx.look, e9]
    · rintro ⟨i, q⟩ ⟨k1, k2, k3, k4⟩
      simp only at k1 k2 k3 k4 ⊢
      have q_0 : (q = 0) = False := by apply eq_false; omega
      have n0_q : (0 = q) = False := by apply eq_false; omega
      have q_32 : (q = 32) = False := by apply eq_false; omega
      have n32_q : (32 = q) = False := by apply eq_false; omega
      have q_64 : (q = 64) = False := by apply eq_false; omega
      have n64_q : (64 = q) = False := by apply eq_false; omega
      have q_128 : (q = 128) = False := by apply eq_false; omega
      have n128_q : (128 = q) = False := by apply eq_false; omega
      have q_129 : (q = 129) = False := by apply eq_false; omega
      have n129_q : (129 = q) = False := by apply eq_false; omega
      have q_131 : (q = 131) = False := by apply eq_false; omega
      have n131_q : (131 = q) = False := by apply eq_false; omega
      have q_n1 : ∀ kk, (10000 * (i + 1) + kk = q) = False := fun kk => by apply eq_false; omega
      have q_n2 : ∀ kk, (q = 10000 * (i + 1) + kk) = False := fun kk => by apply eq_false; omega
      have q_n3 : (10000 * (i + 1) = q) = False := by apply eq_false; omega
      have q_n4 : (q = 10000 * (i + 1)) = False := by apply eq_false; omega
      have q_n5 : ∀ kk, ((⟨L + 1, q⟩ : Nm) == ⟨L + 1, 10000 * (i + 1) + kk⟩) = false := fun kk => by simp; omega
      have hl : (ps ++ fillL i).length = ps.length + i := by simp [fillL_len]
      have t6 : (a : Int).tmod 6 = ((a % 6 : Nat) : Int) := rfl
      by_cases hlt : ps.length + i < 77 + a % 6
      · have g0 : decide (((ps ++ fillL i).length : Int) < 77 + ((a % 6 : Nat) : Int)) = true := dT (by omega)
        have hs : (ps ++ fillL (i + 1)).map Dat.row = (ps ++ fillL i).map Dat.row ++ [[.int .i64 (1000000 + 2 * (i : Int)), .int .i64 0, .int .i64 0, .int .i64 0, .bool false, .bool false, .bool true, .str [119]]] := by rw [fillL_succ]; simp [Dat.row, fillD]
        have hsl : (ps ++ fillL (i + 1)).length = (ps ++ fillL i).length + 1 := by simp [fillL_len]; omega
        obtain ⟨K, hK⟩ : ∃ K, K = ps ++ fillL i := ⟨_, rfl⟩
        rw [← hK] at hs hsl g0 hl ⊢
        simp only [t6, g0, List.length_map, q_32, n32_q, q_64, q_128, q_129, q_131, q_n1, q_n2, q_n5, nS2, Nat.add_assoc, go_sem]
        repeat refine And.intro (by first | omega | exact ⟨by omega, by omega⟩ | exact okS (by kernel_rfl)) ?_
        refine ⟨⟨i + 1, 10000 * (i + 1) + 448⟩, ⟨by simp only []; omega, by simp only []; omega, by simp only []; omega, by simp only []; omega⟩, by simp only []; omega, ?_⟩
        refine Sub.of (fun n hn => hF2 n (by have : n.l = L + 1 := hn; omega)) (by simp only [go_sem, subT, and_self, Int.natCast_succ]) ?_ (by simp [subK, keys]) (by simp only []; omega)
        simp only [hs]
        simp [subH, Tx.look, hsl, q_n1]
      · have g0 : decide (((ps ++ fillL i).length : Int) < 77 + ((a % 6 : Nat) : Int)) = false := dF (by omega)
        have e : 77 + a % 6 - ps.length = i := by omega
        have hb : (bendG 7 a n d ⟨out, inn, ps, num, seen, asked⟩) = ⟨out, inn, ps ++ fillL i, num, seen, asked⟩ := by unfold bendG; simp only [e]
        rw [hb]
        obtain ⟨K, hK⟩ : ∃ K, K = ps ++ fillL i := ⟨_, rfl⟩
        rw [← hK] at g0 hl ⊢
        simp only [t6, g0, n32_q, n64_q, Nat.add_assoc, go_sem]
        repeat refine And.intro (by first | omega | exact ⟨by omega, by omega⟩ | exact okS (by kernel_rfl)) ?_
        exact PostF.of (p := True) (v0 := .agg [.sl ⟨L + 1, 128⟩ 0 out.length, .sl ⟨L + 1, 129⟩ 0 inn.length, .sl ⟨L + 1, q⟩ 0 K.length, .int .i64 num, .int .i64 seen, .sl ⟨L + 1, 131⟩ 0 asked.length] ) (.inr rfl) (by simp only [resVal, resVals, resVal1, one, go_sem]) trivial (by simp [Wk, WkL, Tx.look, List.take_of_length_le, q_32, q_64, q_128, q_129, q_131]) (by simp [wkN, wkNL]) (by simp [Tx.nf, nfl]) trivial (by simp [UpdAll, keys])
  · have f0 : (((8 : Nat) : Int) == 0) = false := rfl
    have f1 : (((8 : Nat) : Int) == 1) = false := rfl
    have f2 : (((8 : Nat) : Int) == 2) = false := rfl
    have f3 : (((8 : Nat) : Int) == 3) = false := rfl
    have f4 : (((8 : Nat) : Int) == 4) = false := rfl
    have f5 : (((8 : Nat) : Int) == 5) = false := rfl
    have f6 : (((8 : Nat) : Int) == 6) = false := rfl
    have f7 : (((8 : Nat) : Int) == 7) = false := rfl
    have f8 : (((8 : Nat) : Int) == 8) = true := rfl
    by_cases hz : ps.length = 0
    · have g0 : decide ((0 : Int) < (ps.length : Int)) = false := dF (by omega)
      have e : ps = [] := List.length_eq_zero_iff.1 hz
      simp only [t0, f0, f1, f2, f3, f4, f5, f6, f7, f8, g0, Nat.add_zero, go_sem]
      repeat refine And.intro (by first | omega | exact ⟨by omega, by omega⟩ | exact okS (by kernel_rfl)) ?_
      exact PostF.of (p := True) (v0 := .agg [.sl ⟨L + 1, 128⟩ 0 out.length, .sl ⟨L + 1, 129⟩ 0 inn.length, .sl ⟨L + 1, 130⟩ 0 ps.length, .int .i64 num, .int .i64 seen, .sl ⟨L + 1, 131⟩ 0 asked.length] ) (.inr rfl) (by simp only [resVal, resVals, resVal1, one, go_sem]) trivial (by simp [Wk, WkL, Tx.look, List.take_of_length_le, bendG, e]) (by simp [wkN, wkNL]) (by simp [Tx.nf, nfl]) trivial (by simp [UpdAll, keys])
    · have g0 : decide ((0 : Int) < (ps.length : Int)) = true := dT (by omega)
      have hm := Nat.mod_lt a (show 0 < ps.length by omega)
      have t1 : (a : Int).tmod (ps.length : Int) = ((a % ps.length : Nat) : Int) := rfl
      have r1 := rowD hm
      have hb : (bendG 8 a n d ⟨out, inn, ps, num, seen, asked⟩) = ⟨out, inn, ps ++ [ps[a % ps.length]], num, seen, asked⟩ := by unfold bendG; simp only [List.drop_eq_getElem_cons hm, List.take_succ_cons, List.take_zero]
      rw [hb]
      obtain ⟨y, hy⟩ : ∃ y, y = ps[a % ps.length] := ⟨_, rfl⟩
      rw [← hy] at r1 ⊢
      simp only [t0, f0, f1, f2, f3, f4, f5, f6, f7, f8, g0, t1, r1, Dat.row, Int.toNat_natCast, List.length_map, nm_beq, Nat.add_zero, go_sem]
      repeat refine And.intro (by first | omega | exact ⟨by omega, by omega⟩ | exact okS (by kernel_rfl)) ?_
      refine ⟨okDyn_num (fun x => x.i) (by kernel_rfl), ?_⟩
      exact PostF.of (p := True) (v0 := .agg [.sl ⟨L + 1, 128⟩ 0 out.length, .sl ⟨L + 1, 129⟩ 0 inn.length, .sl ⟨L + 1, 1476⟩ 0 (ps.length + 1), .int .i64 num, .int .i64 seen, .sl ⟨L + 1, 131⟩ 0 asked.length] ) (.inr rfl) (by simp only [resVal, resVals, resVal1, one, go_sem]) trivial (by simp [Wk, WkL, Tx.look, List.take_of_length_le, Dat.row]) (by simp [wkN, wkNL]) (by simp [Tx.nf, nfl]) trivial (by simp [UpdAll, keys])
  · have f0 : (((9 : Nat) : Int) == 0) = false := rfl
    have f1 : (((9 : Nat) : Int) == 1) = false := rfl
    have f2 : (((9 : Nat) : Int) == 2) = false := rfl
    have f3 : (((9 : Nat) : Int) == 3) = false := rfl
    have f4 : (((9 : Nat) : Int) == 4) = false := rfl
    have f5 : (((9 : Nat) : Int) == 5) = false := rfl
    have f6 : (((9 : Nat) : Int) == 6) = false := rfl
    have f7 : (((9 : Nat) : Int) == 7) = false := rfl
    have f8 : (((9 : Nat) : Int) == 8) = false := rfl
    by_cases hz : out.length = 0
    · have g0 : decide ((0 : Int) < (out.length : Int)) = false := dF (by omega)
      have e : out = [] := List.length_eq_zero_iff.1 hz
      simp only [t0, f0, f1, f2, f3, f4, f5, f6, f7, f8, g0, Nat.add_zero, go_sem]
      repeat refine And.intro (by first | omega | exact ⟨by omega, by omega⟩ | exact okS (by kernel_rfl)) ?_
      exact PostF.of (p := True) (v0 := .agg [.sl ⟨L + 1, 128⟩ 0 out.length, .sl ⟨L + 1, 129⟩ 0 inn.length, .sl ⟨L + 1, 130⟩ 0 ps.length, .int .i64 num, .int .i64 seen, .sl ⟨L + 1, 131⟩ 0 asked.length] ) (.inr rfl) (by simp only [resVal, resVals, resVal1, one, go_sem]) trivial (by simp [Wk, WkL, Tx.look, List.take_of_length_le, bendG, e]) (by simp [wkN, wkNL]) (by simp [Tx.nf, nfl]) trivial (by simp [UpdAll, keys])
    · have g0 : decide ((0 : Int) < (out.length : Int)) = true := dT (by omega)
      have hm := Nat.mod_lt a (show 0 < out.length by omega)
      have t1 : (a : Int).tmod (out.length : Int) = ((a % out.length : Nat) : Int) := rfl
      simp only [t0, f0, f1, f2, f3, f4, f5, f6, f7, f8, g0, t1, Int.toNat_natCast, List.length_map, Nat.add_zero, go_sem]
      repeat refine And.intro (by first | omega | exact ⟨by omega, by omega⟩ | exact okS (by kernel_rfl)) ?_
      refine ⟨okDyn_num (fun x => x.i) (by kernel_rfl), ?_⟩
      exact PostF.of (p := True) (v0 := .agg [.sl ⟨L + 1, 128⟩ 0 (a % out.length - 0), .sl ⟨L + 1, 129⟩ 0 inn.length, .sl ⟨L + 1, 130⟩ 0 ps.length, .int .i64 num, .int .i64 seen, .sl ⟨L + 1, 131⟩ 0 asked.length] ) (.inr rfl) (by simp only [resVal, resVals, resVal1, one, go_sem]) trivial (by simp [Wk, WkL, Tx.look, List.take_of_length_le, bendG, Nat.le_of_lt hm]) (by simp [wkN, wkNL]) (by simp [Tx.nf, nfl]) trivial (by simp [UpdAll, keys])
structure Bd where
 w : Nat
 a : Nat
 n : Int
 d : Dat
structure Bd.ok (b : Bd) : Prop where
 w : b.w < 256
 a : b.a < 256
 d : b.d.pl.length ≤ 9223372036854775807
def Bd.row (b : Bd) : List PV := [.int .u8 b.w, .int .u8 b.a, .int .i64 b.n, .int .i64 b.d.tsn, .int .i64 b.d.st, .int .i64 b.d.sq, .int .i64 b.d.pr, .bool b.d.fi, .bool b.d.la, .bool b.d.lo, .str b.d.pl]
def Bd.of (b : Bd) (s : StX) : StX := bendG (b.w % 10) b.a b.n b.d s
theorem Bd.le {b : Bd} {s : StX} {k : Nat} (h : s.Le k) : (b.of s).Le (k + 100) := bendG_le h _ _ _ _
theorem bendOf_ok {F : SF} {L nx : Nat} (b : Bd) (hb : b.ok) (s : StX) (hs : s.Le 100000) : Con Tryz.prog 41 [.agg b.row, s.v] F L nx nx (b.of s).v [] [] := bend_ok b.w b.a hb.w hb.a b.n b.d hb.d s hs
structure Df where
 o : Nat
 i : Nat
 f : Nat
 a : Int
 b : Int
 ws : List Wd
 ks : List Nat
structure Df.ok (d : Df) : Prop where
 o : d.o < 256
 i : d.i < 256
 f : d.f < 4294967296
 a1 : 0 ≤ d.a
 a2 : d.a < 65536
 b1 : 0 ≤ d.b
 b2 : d.b < 65536
 ws : ∀ w ∈ d.ws, w.ok
 wl : d.ws.length ≤ 9223372036854775807
 ks : ∀ k ∈ d.ks, k < 256
 kl : d.ks.length ≤ 9223372036854775807
def Df.row (d : Df) : List PV := [.int .u8 d.o, .int .u8 d.i, .int .u32 d.f, .int .u16 d.a, .int .u16 d.b, .fs 4 (d.ws.map Wd.row), .fs 1 (d.ks.map oU)]
def Df.str (d : Df) : StX := ⟨startO d.o d.a d.b, dstrI d.i d.f d.b d.ws d.ks, dstrP d.i d.f d.b d.ws d.ks, 0, -1, []⟩
theorem Df.str_ok {F : SF} {L nx : Nat} (d : Df) (h : d.ok) : Con Tryz.prog 40 [.agg d.row] F L nx nx d.str.v [] [] :=
 dstreams_ok d.o d.i d.f h.f d.a d.b h.o h.i h.a1 h.a2 h.b1 h.b2 d.ws h.ws h.wl d.ks h.ks h.kl
theorem Df.str_le {d : Df} (h : d.ok) : d.str.Le 80 := by
 obtain ⟨s1, _⟩ := startO_ok d.o h.a1 h.a2 h.b1 h.b2
 obtain ⟨p1, _, _, p4⟩ := dstr_ok d.i d.f h.b1 h.b2 d.ws d.ks
 refine ⟨?_, ?_, p1.len, ?_⟩
 ·show (startO d.o d.a d.b).length ≤ 80; omega
 ·show (dstrI d.i d.f d.b d.ws d.ks).length ≤ 80; omega
 ·show ([] : List Int).length ≤ 80; simp
def StX.cells (s : StX) : List PV := [.fs 1 (s.out.map eI), .fs 1 (s.inn.map eI), .fs 8 (s.ps.map Dat.row), .int .i64 s.num, .int .i64 s.seen, .fs 1 (s.asked.map eI)]
theorem StX.v_eq (s : StX) : s.v = .agg s.cells := rfl
def stG (d : Df) (b c : Bd) (k : Nat) : StX := if k = 0 then d.str else if k = 1 then b.of d.str else c.of (b.of d.str)
theorem stG_le {d : Df} (h : d.ok) (b c : Bd) (k : Nat) : (stG d b c k).Le 280 := by
 have h0 := Df.str_le h
 have h1 := Bd.le (b := b) h0
 have h2 := Bd.le (b := c) h1
 unfold stG
 split
 ·exact ⟨by have := h0.o; omega, by have := h0.i; omega, by have := h0.p; omega, by have := h0.a; omega⟩
 ·split
  ·exact ⟨by have := h1.o; omega, by have := h1.i; omega, by have := h1.p; omega, by have := h1.a; omega⟩
  ·exact ⟨h2.o, h2.i, h2.p, h2.a⟩
def stA (d : Df) (b c : Bd) : List PV := (stG d b c 0).cells ++ (stG d b c 1).cells ++ (stG d b c 2).cells
theorem stA_at (d : Df) (b c : Bd) {k : Nat} (hk : k < 3) : ((stA d b c).drop (k * 6)).take 6 = (stG d b c k).cells := by
 rcases (show k = 0 ∨ k = 1 ∨ k = 2 by omega) with rfl | rfl | rfl <;> rfl
theorem states_ok {F : SF} {L nx : Nat} (d : Df) (hd : d.ok) (b c : Bd) (hb : b.ok) (hc : c.ok) :
  Con Tryz.prog 11 [.agg d.row, .agg b.row, .agg c.row] F L nx nx (.agg (stA d b c)) [] [] := by
 have hle := Df.str_le hd
 have hst := fun F L nx => Df.str_ok (F := F) (L := L) (nx := nx) d hd
 obtain ⟨s, hs⟩ : ∃ s, s = d.str := ⟨_, rfl⟩
 have hA : stA d b c = s.cells ++ (b.of s).cells ++ (c.of (b.of s)).cells := by rw [hs]; rfl
 rw [hA]
 rw [← hs] at hst hle
 have hl1 := Bd.le (b := b) hle
 obtain ⟨s1, hs1⟩ : ∃ x, x = b.of s := ⟨_, rfl⟩
 have hb1 := fun F L nx => bendOf_ok (F := F) (L := L) (nx := nx) b hb s ⟨by have := hle.o; omega, by have := hle.i; omega, by have := hle.p; omega, by have := hle.a; omega⟩
 rw [← hs1] at hl1 hb1 ⊢
 obtain ⟨s2, hs2⟩ : ∃ x, x = c.of s1 := ⟨_, rfl⟩
 have hb2 := fun F L nx => bendOf_ok (F := F) (L := L) (nx := nx) c hc s1 ⟨by have := hl1.o; omega, by have := hl1.i; omega, by have := hl1.p; omega, by have := hl1.a; omega⟩
 rw [← hs2] at hb2 ⊢
 simp only [StX.v_eq, StX.cells, Df.row, Bd.row] at hst hb1 hb2
 refine Con.body (cxOk (L + 1)) rfl rfl (fn := Tryz.f11) (c := Tryz.f11.body.getD .skip) (by kernel_rfl) (by rfl) (by kernel_rfl) rfl (by simp) ?_
 intro F3 hF1 hF2
 simp only [Tryz.f11, cx, Df.row, Bd.row, StX.cells, go_sem, meths]
 refine CallVC.same (hst _ _ _) ?_
 simp only [go_sem]
 repeat refine And.intro (by first | omega | exact ⟨by omega, by omega⟩ | exact okS (by kernel_rfl)) ?_
 refine CallVC.same (hb1 _ _ _) ?_
 simp only [go_sem]
 repeat refine And.intro (by first | omega | exact ⟨by omega, by omega⟩ | exact okS (by kernel_rfl)) ?_
 refine CallVC.same (hb1 _ _ _) ?_
 simp only [go_sem]
 repeat refine And.intro (by first | omega | exact ⟨by omega, by omega⟩ | exact okS (by kernel_rfl)) ?_
 refine CallVC.same (hb2 _ _ _) ?_
 simp only [go_sem]
 repeat refine And.intro (by first | omega | exact ⟨by omega, by omega⟩ | exact okS (by kernel_rfl)) ?_
 refine ⟨okDyn_num (fun x => x.i) (by kernel_rfl), ?_⟩
 repeat refine And.intro (by first | omega | exact ⟨by omega, by omega⟩ | exact okS (by kernel_rfl)) ?_
 exact PostF.of (p := True) (v0 := .agg [.fs 1 (s.out.map eI), .fs 1 (s.inn.map eI), .fs 8 (s.ps.map Dat.row), .int .i64 s.num, .int .i64 s.seen, .fs 1 (s.asked.map eI), .fs 1 (s1.out.map eI), .fs 1 (s1.inn.map eI), .fs 8 (s1.ps.map Dat.row), .int .i64 s1.num, .int .i64 s1.seen, .fs 1 (s1.asked.map eI), .fs 1 (s2.out.map eI), .fs 1 (s2.inn.map eI), .fs 8 (s2.ps.map Dat.row), .int .i64 s2.num, .int .i64 s2.seen, .fs 1 (s2.asked.map eI)]) (.inr rfl) (by simp only [resVal, resVals, resVal1, one, go_sem]) trivial (by simp [Wk, WkL]) (by simp [wkN, wkNL]) (by simp [Tx.nf, nfl]) trivial (by simp [UpdAll, keys])
end Go.Proofs.YtfhhbkehlfipgaaGreat
end
section
namespace Go.Proofs.YtfhhbkehlfipgaaGreat
open Go.ChangeShapes Go.WideShapes Go.ChangeAt Go.RowKit Go.Tx
theorem ownK : ownKnob Tryz.prog.godebug = none := by kernel_rfl
theorem laidOut : laidOutB Tryz.prog = true := by kernel_rfl
set_option maxRecDepth 100000
def isStr : Option TypeDesc → Bool
 | some (.struct _) => true
 | _ => false
theorem und_struct {x : Option TypeDesc} (h : isStr x = true) : ∃ fs, x = some (.struct fs) := by
 unfold isStr at h
 split at h
 ·exact ⟨_, rfl⟩
 ·cases h
theorem undMsg : ∃ fs, Tryz.prog.underlying 23 = some (.struct fs) := und_struct (by kernel_rfl)
theorem undDraft : ∃ fs, Tryz.prog.underlying 30 = some (.struct fs) := und_struct (by kernel_rfl)
theorem undBend : ∃ fs, Tryz.prog.underlying 34 = some (.struct fs) := und_struct (by kernel_rfl)
theorem undWords : ∃ fs, Tryz.prog.underlying 36 = some (.struct fs) := und_struct (by kernel_rfl)
theorem undInt : Tryz.prog.underlying 3 = some (.int .i64) := by kernel_rfl
theorem undU16 : Tryz.prog.underlying 25 = some (.int .u16) := by kernel_rfl
theorem undBool : Tryz.prog.underlying 4 = some .bool := by kernel_rfl
theorem wf_u8 {n : Int} (h : (Lit.int .u8 n).wf = true) : ∃ k : Nat, n = k ∧ k < 256 := by
 have : 0 ≤ n ∧ n ≤ 255 := by simpa [Lit.wf, IntKind.min, IntKind.max, IntKind.signed, IntKind.bits] using h
 exact ⟨n.toNat, by omega, by omega⟩
theorem wf_u16 {n : Int} (h : (Lit.int .u16 n).wf = true) : ∃ k : Nat, n = k ∧ k < 65536 := by
 have : 0 ≤ n ∧ n ≤ 65535 := by simpa [Lit.wf, IntKind.min, IntKind.max, IntKind.signed, IntKind.bits] using h
 exact ⟨n.toNat, by omega, by omega⟩
theorem wf_u32 {n : Int} (h : (Lit.int .u32 n).wf = true) : ∃ k : Nat, n = k ∧ k < 4294967296 := by
 have : 0 ≤ n ∧ n ≤ 4294967295 := by simpa [Lit.wf, IntKind.min, IntKind.max, IntKind.signed, IntKind.bits] using h
 exact ⟨n.toNat, by omega, by omega⟩
theorem shpWords {n : Nat} {xs : List PV} (h : Shp tys (n + 2) 36 xs) : ∃ w : Wd, xs = w.row ∧ w.ok := by
 have h := Shp.struct g36 h
 simp only [List.foldr] at h
 obtain ⟨_, _, rfl, h1, _, _, rfl, h2, _, _, rfl, h3, _, _, rfl, h4, rfl⟩ := h
 obtain ⟨_, rfl, w1⟩ := Shp.int g5 h1
 obtain ⟨_, rfl, w2⟩ := Shp.int g5 h2
 obtain ⟨_, rfl, w3⟩ := Shp.int g25 h3
 obtain ⟨b, rfl⟩ := Shp.bool g4 h4
 obtain ⟨a1, rfl, b1⟩ := wf_u8 w1
 obtain ⟨a2, rfl, b2⟩ := wf_u8 w2
 obtain ⟨a3, rfl, b3⟩ := wf_u16 w3
 exact ⟨⟨a1, a2, a3, b⟩, rfl, b1, b2, b3⟩
theorem shpSeqs {n : Nat} {xs : List PV} (h : Shp tys (n + 2) 26 xs) : ∃ (a b : Nat), xs = [.int .u16 a, .int .u16 b] ∧ a < 65536 ∧ b < 65536 := by
 have h := Shp.array g26 h
 simp only [List.foldr, List.range, List.range.loop] at h
 obtain ⟨_, _, rfl, h1, _, _, rfl, h2, rfl⟩ := h
 obtain ⟨_, rfl, w1⟩ := Shp.int g25 h1
 obtain ⟨_, rfl, w2⟩ := Shp.int g25 h2
 obtain ⟨a1, rfl, b1⟩ := wf_u16 w1
 obtain ⟨a2, rfl, b2⟩ := wf_u16 w2
 exact ⟨a1, a2, rfl, b1, b2⟩
theorem words_of {n : Nat} : ∀ (rs : List (List PV)), (∀ r ∈ rs, Shp tys (n + 2) 36 r) → ∃ ws : List Wd, rs = ws.map Wd.row ∧ ∀ w ∈ ws, w.ok
 | [], _ => ⟨[], rfl, by simp⟩
 | r :: l, h => by
  obtain ⟨ws, e, hw⟩ := words_of l (fun x hx => h x (by simp [hx]))
  obtain ⟨w, rfl, h1⟩ := shpWords (h r (by simp))
  refine ⟨w :: ws, by rw [e]; rfl, fun w' hw' => ?_⟩
  rcases List.mem_cons.1 hw' with rfl | hw'
  ·exact h1
  ·exact hw w' hw'
theorem order_of {n : Nat} : ∀ (rs : List (List PV)), (∀ r ∈ rs, Shp tys (n + 1) 5 r) → ∃ ks : List Nat, rs = ks.map oU ∧ ∀ k ∈ ks, k < 256
 | [], _ => ⟨[], rfl, by simp⟩
 | r :: l, h => by
  obtain ⟨ks, e, hk⟩ := order_of l (fun x hx => h x (by simp [hx]))
  obtain ⟨m, rfl, w⟩ := Shp.int g5 (h r (by simp))
  obtain ⟨k, rfl, hk'⟩ := wf_u8 w
  refine ⟨k :: ks, by rw [e]; rfl, fun x hx => ?_⟩
  rcases List.mem_cons.1 hx with rfl | hx
  ·exact hk'
  ·exact hk x hx
theorem shpDraft {n : Nat} {xs : List PV} (h : Shp tys (n + 4) 30 xs) : ∃ d : Df, xs = d.row ∧ d.ok := by
 have h := Shp.struct g30 h
 simp only [List.foldr] at h
 obtain ⟨_, _, rfl, h1, _, _, rfl, h2, _, _, rfl, h3, _, _, rfl, h4, _, _, rfl, h5, _, _, rfl, h6, rfl⟩ := h
 obtain ⟨_, rfl, w1⟩ := Shp.int g5 h1
 obtain ⟨_, rfl, w2⟩ := Shp.int g5 h2
 obtain ⟨f, rfl, w3⟩ := Shp.int g24 h3
 obtain ⟨a, b, rfl, ba, bb⟩ := shpSeqs h4
 obtain ⟨wd, ws, rfl, l5, e5, s5⟩ := Shp.slice g27 h5
 obtain ⟨wd2, rs, rfl, l6, e6, s6⟩ := Shp.slice g28 h6
 rw [g36] at e5
 rw [g5] at e6
 simp only [Option.map_some, Option.some.injEq] at e5 e6
 subst e5; subst e6
 obtain ⟨W, rfl, hW⟩ := words_of ws s5
 obtain ⟨K, rfl, hK⟩ := order_of rs s6
 obtain ⟨a1, rfl, b1⟩ := wf_u8 w1
 obtain ⟨a2, rfl, b2⟩ := wf_u8 w2
 obtain ⟨a3, rfl, b3⟩ := wf_u32 w3
 simp only [List.length_map] at l5 l6
 exact ⟨⟨a1, a2, a3, a, b, W, K⟩, rfl, b1, b2, b3, Int.natCast_nonneg _, by simp only []; omega, Int.natCast_nonneg _, by simp only []; omega, hW, l5, hK, l6⟩
theorem shpData {n : Nat} {xs : List PV} (h : Shp tys (n + 2) 32 xs) : ∃ d : Dat, xs = d.row ∧ d.pl.length ≤ 9223372036854775807 := by
 have h := Shp.struct g32 h
 simp only [List.foldr] at h
 obtain ⟨_, _, rfl, h1, _, _, rfl, h2, _, _, rfl, h3, _, _, rfl, h4, _, _, rfl, h5, _, _, rfl, h6, _, _, rfl, h7, _, _, rfl, h8, rfl⟩ := h
 obtain ⟨a1, rfl, _⟩ := Shp.int g3 h1
 obtain ⟨a2, rfl, _⟩ := Shp.int g3 h2
 obtain ⟨a3, rfl, _⟩ := Shp.int g3 h3
 obtain ⟨a4, rfl, _⟩ := Shp.int g3 h4
 obtain ⟨a5, rfl⟩ := Shp.bool g4 h5
 obtain ⟨a6, rfl⟩ := Shp.bool g4 h6
 obtain ⟨a7, rfl⟩ := Shp.bool g4 h7
 obtain ⟨a8, rfl, hl⟩ := Shp.str g9 h8
 exact ⟨⟨a1, a2, a3, a4, a5, a6, a7, a8⟩, rfl, hl⟩
theorem shpBend {n : Nat} {xs : List PV} (h : Shp tys (n + 3) 34 xs) : ∃ b : Bd, xs = b.row ∧ b.ok := by
 have h := Shp.struct g34 h
 simp only [List.foldr] at h
 obtain ⟨_, _, rfl, h1, _, _, rfl, h2, _, _, rfl, h3, _, _, rfl, h4, rfl⟩ := h
 obtain ⟨_, rfl, w1⟩ := Shp.int g5 h1
 obtain ⟨_, rfl, w2⟩ := Shp.int g5 h2
 obtain ⟨m, rfl, _⟩ := Shp.int g3 h3
 obtain ⟨d, rfl, hd⟩ := shpData h4
 obtain ⟨a1, rfl, b1⟩ := wf_u8 w1
 obtain ⟨a2, rfl, b2⟩ := wf_u8 w2
 exact ⟨⟨a1, a2, m, d⟩, rfl, b1, b2, hd⟩
theorem shpMsg {n : Nat} {xs : List PV} (h : Shp tys (n + 2) 23 xs) : ∃ m : Msg, xs = m.row ∧ m.tx.length ≤ 9223372036854775807 := by
 have h := Shp.struct g23 h
 simp only [List.foldr] at h
 obtain ⟨_, _, rfl, h1, _, _, rfl, h2, _, _, rfl, h3, _, _, rfl, h4, rfl⟩ := h
 obtain ⟨a1, rfl, _⟩ := Shp.int g3 h1
 obtain ⟨a2, rfl, _⟩ := Shp.int g3 h2
 obtain ⟨a3, rfl⟩ := Shp.bool g4 h3
 obtain ⟨a4, rfl, hl⟩ := Shp.str g9 h4
 exact ⟨⟨a1, a2, a3, a4⟩, rfl, hl⟩
end Go.Proofs.YtfhhbkehlfipgaaGreat
end
section
namespace Go.Proofs.YtfhhbkehlfipgaaGreat
open Go.Tx
set_option maxRecDepth 100000
set_option maxHeartbeats 16000000
theorem strW0 : Str0 [0, 0] [0, 0] 0 (-1) [] := ⟨by decide, by decide, by decide, by decide, by decide, by decide, by decide, .inl rfl, rfl, by simp⟩
theorem works_ok {F : SF} {L nx : Nat} : Con Tryz.prog 6 [] F L nx nx (.bool true) [] [] := by
 have f0 : ((0 : Int) != 0) = false := rfl
 have eI0 : ∀ x : Int, eI x = [.int .i64 x] := fun _ => rfl
 have hrep := fun F L nx => repeat_ok (F := F) (L := L) (nx := nx) [109] 2500 (by omega) (by simp)
 rw [repeatL_one, show List.replicate 2500 (109 : UInt8) = txW from rfl] at hrep
 have hme : ∀ m ∈ [mW, nW], MsgOk 2 m := by
  intro m hm
  simp only [List.mem_cons, List.not_mem_nil, or_false] at hm
  rcases hm with rfl | rfl
  ·exact ⟨by decide, by decide, by decide, by show 1 ≤ txW.length; rw [txW_len]; omega, by show txW.length ≤ 8000; rw [txW_len]; omega⟩
  ·exact ⟨by decide, by decide, by decide, by decide, by decide⟩
 have hnum := fun F L nx => numbered_ok (F := F) (L := L) (nx := nx) [0, 0] [0, 0] 0 (by decide) (by decide) (by decide) (by decide) (by decide) (by decide) (by decide) [mW, nW] hme (by decide) 10 (by decide) (by decide)
 rw [numW] at hnum
 have q0 := pW_len0
 have q1 := pW_len1
 have q2 := pW_len2
 have q3 := pW_all
 obtain ⟨p, hp⟩ : ∃ x, x = pW 0 := ⟨_, rfl⟩
 obtain ⟨q, hq⟩ : ∃ x, x = pW 1 := ⟨_, rfl⟩
 obtain ⟨r, hr⟩ : ∃ x, x = pW 2 := ⟨_, rfl⟩
 obtain ⟨X, hX⟩ : ∃ x, x = txW := ⟨_, rfl⟩
 have hXl := txW_len
 rw [← hp] at q0 q3 hnum
 rw [← hq] at q1 q3 hnum
 rw [← hr] at q2 q3 hnum
 simp only [strV, List.map_cons, List.map_nil, Dat.row, Msg.row, l0, l1, l2, l3, mW, nW, eI0] at hnum
 rw [← hX] at hnum hrep q3 hXl
 have pl0 : ((p.length : Int) != 1000) = false := by rw [q0]; rfl
 have pl2 : ((r.length : Int) != 500) = false := by rw [q2]; rfl
 have n44 : (((4 : Nat) : Int) != 4) = false := rfl
 have n11 : (((1 : Nat) : Int) == 1) = true := rfl
 have n00 : (((0 : Nat) : Int) != 0) = false := rfl
 have n55 : ((8 : Int) == 8) = true := rfl
 have hP0 : PsOk [0, 0] [] := ⟨by simp, by simp, by simp⟩
 have ok0 : (l0 p).ok = true := by
  have h32 : (2 : Int) ^ (Int.toNat 32) = 4294967296 := rfl
  have h16 : (2 : Int) ^ (Int.toNat 16) = 65536 := rfl
  simp [Dat.ok, l0, serB, q0]
 have ok1 : (l1 q).ok = true := by
  have h32 : (2 : Int) ^ (Int.toNat 32) = 4294967296 := rfl
  have h16 : (2 : Int) ^ (Int.toNat 16) = 65536 := rfl
  simp [Dat.ok, l1, serB, q1]
 have ok2 : (l2 r).ok = true := by
  have h32 : (2 : Int) ^ (Int.toNat 32) = 4294967296 := rfl
  have h16 : (2 : Int) ^ (Int.toNat 16) = 65536 := rfl
  simp [Dat.ok, l2, serB, q2]
 have ok3 : l3.ok = true := rfl
 have ok4 : l4.ok = true := rfl
 have okA : ∀ d ∈ [l3, l2 r, l0 p], d.ok = true ∧ d.st < ([0, 0] : List Int).length := by
  intro d hd
  simp only [List.mem_cons, List.not_mem_nil, or_false] at hd
  rcases hd with rfl | rfl | rfl <;> exact ⟨by assumption, by show (1 : Int) < 2; omega⟩
 have okB : ∀ d ∈ [l3, l2 r, l0 p, l1 q], d.ok = true ∧ d.st < ([0, 0] : List Int).length := by
  intro d hd
  simp only [List.mem_cons, List.not_mem_nil, or_false] at hd
  rcases hd with rfl | rfl | rfl | rfl <;> exact ⟨by assumption, by show (1 : Int) < 2; omega⟩
 have okC : ∀ d ∈ [l4], d.ok = true ∧ d.st < ([0, 0] : List Int).length := by
  intro d hd
  simp only [List.mem_cons, List.not_mem_nil, or_false] at hd
  rcases hd with rfl <;> exact ⟨by assumption, by show (1 : Int) < 2; omega⟩
 have okD : ∀ d ∈ [l4, l2 r, l0 p, l1 q], d.ok = true ∧ d.st < ([0, 0] : List Int).length := by
  intro d hd
  simp only [List.mem_cons, List.not_mem_nil, or_false] at hd
  rcases hd with rfl | rfl | rfl | rfl <;> exact ⟨by assumption, by show (1 : Int) < 2; omega⟩
 have okE : ∀ d ∈ [l3], d.ok = true ∧ d.st < ([0, 0] : List Int).length := by
  intro d hd
  simp only [List.mem_cons, List.not_mem_nil, or_false] at hd
  rcases hd with rfl <;> exact ⟨by assumption, by show (1 : Int) < 2; omega⟩
 have hcA := fun F L nx => comes_ok (F := F) (L := L) (nx := nx) [0, 0] [0, 0] [] 0 (-1) strW0 [] hP0 rfl _ okA (by simp)
 have hcB := fun F L nx => comes_ok (F := F) (L := L) (nx := nx) [0, 0] [0, 0] [] 0 (-1) strW0 [] hP0 rfl _ okB (by simp)
 have hcC := fun F L nx => comes_ok (F := F) (L := L) (nx := nx) [0, 0] [0, 0] [] 0 (-1) strW0 [] hP0 rfl _ okC (by simp)
 have hcD := fun F L nx => comes_ok (F := F) (L := L) (nx := nx) [0, 0] [0, 0] [] 0 (-1) strW0 [] hP0 rfl _ okD (by simp)
 have hcE := fun F L nx => comes_ok (F := F) (L := L) (nx := nx) [0, 0] [0, 0] [] 0 (-1) strW0 [] hP0 rfl _ okE (by simp)
 rw [comes1] at hcA
 rw [comes2, List.nil_append, List.append_assoc, q3] at hcB
 rw [comes3] at hcC
 rw [comes4, List.nil_append, List.append_assoc, q3] at hcD
 rw [comes5] at hcE
 simp only [strV, List.map_cons, List.map_nil, Dat.row, Msg.row, l0, l1, l2, l3, l4, nW, nW2, eI0] at hcA hcB hcC hcD hcE
 have hsA := fun F L nx => same_ok (F := F) (L := L) (nx := nx) [⟨1, 0, false, X⟩, nW] [⟨1, 0, false, X⟩, nW] (by simp) (by simp)
 have hsB := fun F L nx => same_ok (F := F) (L := L) (nx := nx) [nW2] [nW2] (by simp) (by simp)
 have hsC := fun F L nx => same_ok (F := F) (L := L) (nx := nx) [nW2, ⟨1, 0, false, X⟩] [nW2, ⟨1, 0, false, X⟩] (by simp) (by simp)
 have hsD := fun F L nx => same_ok (F := F) (L := L) (nx := nx) [nW] [nW] (by simp) (by simp)
 simp only [List.map_cons, List.map_nil, Msg.row, nW, nW2, decide_true] at hsA hsB hsC hsD
 have hP3 : PsOk [0, 0] [l3] := ⟨by simp, by intro d hd; simp only [List.mem_cons, List.not_mem_nil, or_false] at hd; subst hd; rfl, by simp⟩
 have hsk := fun F L nx => skip_ok (F := F) (L := L) (nx := nx) [0, 0] [0, 0] [] 0 (-1) strW0 [l3] hP3 rfl 12 [(1, 0)] rfl rfl
 rw [skipW] at hsk
 have hd1 := fun F L nx => dropsAll_ok (F := F) (L := L) (nx := nx) (flW p q r) [-1, 0] (by simp [flW]) (by simp)
 have hd2 := fun F L nx => dropsAll_ok (F := F) (L := L) (nx := nx) (flW p q r) [-1, 1] (by simp [flW]) (by simp)
 rw [dropsW1] at hd1
 rw [dropsW2] at hd2
 have hi1 := fun F L nx => ints_ok (F := F) (L := L) (nx := nx) [10, 11, 12] [10, 11, 12] (by simp) (by simp)
 have hi2 := fun F L nx => ints_ok (F := F) (L := L) (nx := nx) [0, 0] [0, 0] (by simp) (by simp)
 rw [show (([10, 11, 12] : List Int) == [10, 11, 12]) = true from rfl] at hi1
 rw [show (([0, 0] : List Int) == [0, 0]) = true from rfl] at hi2
 have hS2 : Str0 [0, 2] [0, 0] 0 (-1) [] := ⟨by decide, by decide, by decide, by decide, by decide, by decide, by decide, .inl rfl, rfl, by simp⟩
 have hS3 : Str0 [0, 2] [0, 0] 0 (-1) [1] := ⟨by decide, by decide, by decide, by decide, by decide, by decide, by decide, .inl rfl, rfl, by simp⟩
 have hask := fun F L nx => ask0_ok (F := F) (L := L) (nx := nx) [0, 2] [0, 0] 0 (-1) hS2 13 [1] (by decide) (by decide) rfl (by decide)
 have hs8 := fun F L nx => send8_ok (F := F) (L := L) (nx := nx) [0, 2] [0, 0] [1] 0 (-1) hS3 [] hP0 rfl 1 0 false [110] (by decide) (by decide) (by decide) (by decide) (by decide) rfl
 have hans := fun F L nx => answered1_ok (F := F) (L := L) (nx := nx) [0, 2] [0, 0] 0 (-1) [1] (by decide) hS3 rfl
 rw [show zeroAt [0, 2] [1] ([1] : List Int).length = [0, 0] from rfl, show ((0 : Int) + 1) % 4294967296 = 1 from rfl] at hans
 have hs9 := fun F L nx => sendF_ok (F := F) (L := L) (nx := nx) [0, 0] [0, 0] 1 (by decide) (by decide) (by decide) (by decide) (by decide) (by decide) (by decide) 1 0 false [110] (by decide) (by decide) (by decide) (by decide)
 rw [show sendD ((1 : Nat) : Int) 0 (seqS [0, 0] 1 false) false [110] ((([110] : List UInt8).length + 999) / 1000) = [⟨0, 1, 0, 0, true, true, false, [110]⟩] from rfl, show outS [0, 0] 1 false = [0, 1] from rfl, show ((1 : Nat) : Int) = 1 from rfl] at hs9
 simp only [strV, strZ, strV0, rstP, fwdP, kE, List.map_cons, List.map_nil, Dat.row, Msg.row, Fl.row, l0, l1, l2, l3, nW, eI0, flW] at hsk hd1 hd2 hi1 hi2 hask hs8 hans hs9
 refine Con.body (cxOk (L + 1)) rfl rfl (fn := Tryz.f6) (c := Tryz.f6.body.getD .skip) (by kernel_rfl) (by rfl) (by kernel_rfl) rfl (by simp) ?_
 intro F3 hF1 hF2
 simp (config := {maxSteps := 2000000}) only [Tryz.f6, cx, List.append_eq, List.cons_append, List.nil_append]
 simp (config := {maxSteps := 2000000}) only [Nat.reduceAdd, go_sem, meths, Nat.reduceSub, Nat.reduceAdd, Nat.reduceLT]
 refine CallVC.same (new_ok 2 2 (by omega) (by omega) (by omega) (by omega)) ?_
 simp (config := {maxSteps := 2000000}) only [strV, zrs, List.replicate, List.map_cons, eI0, Nat.reduceBEq, Nat.reduceAdd, go_sem, Nat.reduceAdd, Nat.reduceLT, Nat.reduceLeDiff, Nat.reduceBEq]
 refine CallVC.same (hrep _ _ _) ?_
 simp (config := {maxSteps := 2000000}) only [Nat.reduceBEq, Nat.reduceAdd, go_sem, Nat.reduceAdd, Nat.reduceMul, Nat.reduceEqDiff, Nat.reduceLT, Nat.reduceLeDiff, Nat.reduceBEq]
 refine CallVC.gen (by simp [Wk, WkL]) (hnum _ _ _) ?_
 simp (config := {maxSteps := 2000000}) only [wkNL, wkN, unown, f0, n44, pl0, pl2, Nat.reduceBEq, Nat.reduceAdd, Nat.add_zero, go_sem, Nat.reduceAdd, Nat.reduceMul, Nat.reduceEqDiff, Nat.reduceLT, Nat.reduceLeDiff, Nat.reduceBEq, Int.reduceToNat]
 repeat refine And.intro (by first | omega | exact ⟨by omega, by omega⟩ | exact okDyn_num (fun x => x.i) (by kernel_rfl) | kernel_rfl | exact okDyn_num (fun _ => 0) (by kernel_rfl)) ?_
 refine CallVC.gen (by simp [Wk, WkL]) (hcA _ _ _) ?_
 simp (config := {maxSteps := 2000000}) only [wkNL, wkN, unown, Nat.reduceBEq, Nat.reduceAdd, Nat.add_zero, go_sem, Nat.reduceAdd, Nat.reduceMul, Nat.reduceEqDiff, Nat.reduceLT, Nat.reduceLeDiff, Nat.reduceBEq, Int.reduceToNat]
 repeat refine And.intro (by first | omega | exact ⟨by omega, by omega⟩ | exact okDyn_num (fun x => x.i) (by kernel_rfl) | kernel_rfl | exact okDyn_num (fun _ => 0) (by kernel_rfl)) ?_
 refine CallVC.gen (by simp [Wk, WkL]) (hcB _ _ _) ?_
 simp (config := {maxSteps := 2000000}) only [wkNL, wkN, unown, Nat.reduceBEq, Nat.reduceAdd, go_sem, Nat.reduceAdd, Nat.reduceMul, Nat.reduceEqDiff, Nat.reduceLT, Nat.reduceLeDiff, Nat.reduceBEq, Int.reduceToNat]
 repeat refine And.intro (by first | omega | exact ⟨by omega, by omega⟩ | exact okDyn_num (fun x => x.i) (by kernel_rfl) | kernel_rfl | exact okDyn_num (fun _ => 0) (by kernel_rfl)) ?_
 refine CallVC.gen (by simp [Wk, WkL]) (hcC _ _ _) ?_
 simp (config := {maxSteps := 2000000}) only [wkNL, wkN, unown, Nat.reduceBEq, Nat.reduceAdd, Nat.add_zero, go_sem, Nat.reduceAdd, Nat.reduceMul, Nat.reduceEqDiff, Nat.reduceLT, Nat.reduceLeDiff, Nat.reduceBEq, Int.reduceToNat]
 repeat refine And.intro (by first | omega | exact ⟨by omega, by omega⟩ | exact okDyn_num (fun x => x.i) (by kernel_rfl) | kernel_rfl | exact okDyn_num (fun _ => 0) (by kernel_rfl)) ?_
 refine CallVC.gen (by simp [Wk, WkL]) (hcD _ _ _) ?_
 simp (config := {maxSteps := 2000000}) only [wkNL, wkN, unown, n00, Nat.reduceBEq, Nat.reduceAdd, go_sem, Nat.reduceAdd, Nat.reduceMul, Nat.reduceEqDiff, Nat.reduceLT, Nat.reduceLeDiff, Nat.reduceBEq]
 repeat refine And.intro (by first | omega | exact ⟨by omega, by omega⟩ | exact okDyn_num (fun x => x.i) (by kernel_rfl) | kernel_rfl | exact okDyn_num (fun _ => 0) (by kernel_rfl)) ?_
 refine CallVC.gen (by simp [Wk, WkL]) (hsA _ _ _) ?_
 simp (config := {maxSteps := 2000000}) only [wkNL, wkN, unown, Nat.reduceBEq, Nat.reduceAdd, go_sem, Nat.reduceAdd, Nat.reduceMul, Nat.reduceEqDiff, Nat.reduceLT, Nat.reduceLeDiff, Nat.reduceBEq]
 repeat refine And.intro (by first | omega | exact ⟨by omega, by omega⟩ | exact okDyn_num (fun x => x.i) (by kernel_rfl) | kernel_rfl | exact okDyn_num (fun _ => 0) (by kernel_rfl)) ?_
 refine CallVC.gen (by simp [Wk, WkL]) (hsB _ _ _) ?_
 simp (config := {maxSteps := 2000000}) only [wkNL, wkN, unown, Nat.reduceBEq, Nat.reduceAdd, go_sem, Nat.reduceAdd, Nat.reduceMul, Nat.reduceEqDiff, Nat.reduceLT, Nat.reduceLeDiff, Nat.reduceBEq]
 repeat refine And.intro (by first | omega | exact ⟨by omega, by omega⟩ | exact okDyn_num (fun x => x.i) (by kernel_rfl) | kernel_rfl | exact okDyn_num (fun _ => 0) (by kernel_rfl)) ?_
 refine CallVC.gen (by simp [Wk, WkL]) (hsC _ _ _) ?_
 simp (config := {maxSteps := 2000000}) only [wkNL, wkN, unown, Nat.reduceBEq, Nat.reduceAdd, go_sem, Nat.reduceAdd, Nat.reduceMul, Nat.reduceEqDiff, Nat.reduceLT, Nat.reduceLeDiff, Nat.reduceBEq, Int.reduceToNat]
 repeat refine And.intro (by first | omega | exact ⟨by omega, by omega⟩ | exact okDyn_num (fun x => x.i) (by kernel_rfl) | kernel_rfl | exact okDyn_num (fun _ => 0) (by kernel_rfl)) ?_
 refine CallVC.gen (by simp [Wk, WkL]) (hcE _ _ _) ?_
 simp (config := {maxSteps := 2000000}) only [wkNL, wkN, unown, Nat.reduceBEq, Nat.reduceAdd, go_sem, Nat.reduceAdd, Nat.reduceMul, Nat.reduceEqDiff, Nat.reduceLT, Nat.reduceLeDiff, Nat.reduceBEq]
 repeat refine And.intro (by first | omega | exact ⟨by omega, by omega⟩ | exact okDyn_num (fun x => x.i) (by kernel_rfl) | kernel_rfl | exact okDyn_num (fun _ => 0) (by kernel_rfl)) ?_
 refine CallVC.gen (by simp [Wk, WkL]) (hsk _ _ _) ?_
 simp (config := {maxSteps := 2000000}) only [wkNL, wkN, unown, f0, Nat.reduceBEq, Nat.reduceAdd, go_sem, Nat.reduceAdd, Nat.reduceMul, Nat.reduceEqDiff, Nat.reduceLT, Nat.reduceLeDiff, Nat.reduceBEq]
 repeat refine And.intro (by first | omega | exact ⟨by omega, by omega⟩ | exact okDyn_num (fun x => x.i) (by kernel_rfl) | kernel_rfl | exact okDyn_num (fun _ => 0) (by kernel_rfl)) ?_
 refine CallVC.gen (by simp [Wk, WkL]) (hsD _ _ _) ?_
 simp (config := {maxSteps := 2000000}) only [wkNL, wkN, unown, Nat.reduceBEq, Nat.reduceAdd, Nat.add_zero, go_sem, Nat.reduceAdd, Nat.reduceMul, Nat.reduceEqDiff, Nat.reduceLT, Nat.reduceLeDiff, Nat.reduceBEq, Int.reduceToNat]
 repeat refine And.intro (by first | omega | exact ⟨by omega, by omega⟩ | exact okDyn_num (fun x => x.i) (by kernel_rfl) | kernel_rfl | exact okDyn_num (fun _ => 0) (by kernel_rfl)) ?_
 refine CallVC.gen (by simp [Wk, WkL]) (hd1 _ _ _) ?_
 simp (config := {maxSteps := 2000000}) only [wkNL, wkN, unown, Nat.reduceBEq, Nat.reduceAdd, go_sem, Nat.reduceAdd, Nat.reduceMul, Nat.reduceEqDiff, Nat.reduceLT, Nat.reduceBEq]
 repeat refine And.intro (by first | omega | exact ⟨by omega, by omega⟩ | exact okDyn_num (fun x => x.i) (by kernel_rfl) | kernel_rfl | exact okDyn_num (fun _ => 0) (by kernel_rfl)) ?_
 refine CallVC.gen (by simp [Wk, WkL]) (hd2 _ _ _) ?_
 simp (config := {maxSteps := 2000000}) only [wkNL, wkN, unown, f0, Nat.reduceBEq, Nat.reduceAdd, go_sem, Nat.reduceAdd, Nat.reduceMul, Nat.reduceEqDiff, Nat.reduceLT, Nat.reduceBEq]
 repeat refine And.intro (by first | omega | exact ⟨by omega, by omega⟩ | exact okDyn_num (fun x => x.i) (by kernel_rfl) | kernel_rfl | exact okDyn_num (fun _ => 0) (by kernel_rfl)) ?_
 refine CallVC.gen (by simp [Wk, WkL]) (hi1 _ _ _) ?_
 simp (config := {maxSteps := 2000000}) only [wkNL, wkN, unown, f0, n00, Nat.reduceBEq, Nat.reduceAdd, go_sem, Nat.reduceAdd, Nat.reduceMul, Nat.reduceEqDiff, Nat.reduceLT, Nat.reduceLeDiff, Nat.reduceBEq]
 repeat refine And.intro (by first | omega | exact ⟨by omega, by omega⟩ | exact okDyn_num (fun x => x.i) (by kernel_rfl) | kernel_rfl | exact okDyn_num (fun _ => 0) (by kernel_rfl)) ?_
 refine CallVC.gen (by simp [Wk, WkL]) (hask _ _ _) ?_
 simp (config := {maxSteps := 2000000}) only [wkNL, wkN, unown, Nat.reduceBEq, Nat.reduceAdd, go_sem, Nat.reduceAdd, Nat.reduceEqDiff, Nat.reduceLT, Nat.reduceLeDiff, Nat.reduceBEq]
 repeat refine And.intro (by first | omega | exact ⟨by omega, by omega⟩ | exact okDyn_num (fun x => x.i) (by kernel_rfl) | kernel_rfl | exact okDyn_num (fun _ => 0) (by kernel_rfl)) ?_
 refine CallVC.same (hs8 _ _ _) ?_
 simp (config := {maxSteps := 2000000}) only [Nat.reduceBEq, Nat.reduceAdd, go_sem, Nat.reduceAdd, Nat.reduceEqDiff, Nat.reduceLT, Nat.reduceLeDiff, Nat.reduceBEq]
 repeat refine And.intro (by first | omega | exact ⟨by omega, by omega⟩ | exact okDyn_num (fun x => x.i) (by kernel_rfl) | kernel_rfl | exact okDyn_num (fun _ => 0) (by kernel_rfl)) ?_
 refine CallVC.gen (by simp [Wk, WkL]) (hans _ _ _) ?_
 simp (config := {maxSteps := 2000000}) only [wkNL, wkN, unown, Nat.reduceBEq, Nat.reduceAdd, go_sem, Nat.reduceAdd, Nat.reduceEqDiff, Nat.reduceLT, Nat.reduceLeDiff, Nat.reduceBEq]
 repeat refine And.intro (by first | omega | exact ⟨by omega, by omega⟩ | exact okDyn_num (fun x => x.i) (by kernel_rfl) | kernel_rfl | exact okDyn_num (fun _ => 0) (by kernel_rfl)) ?_
 refine CallVC.same (hs9 _ _ _) ?_
 simp (config := {maxSteps := 2000000}) only [n55, Nat.reduceBEq, Nat.reduceAdd, Nat.add_zero, go_sem, Nat.reduceAdd, Nat.reduceMul, Nat.reduceEqDiff, Nat.reduceLT, Nat.reduceLeDiff, Nat.reduceBEq]
 repeat refine And.intro (by first | omega | exact ⟨by omega, by omega⟩ | exact okDyn_num (fun x => x.i) (by kernel_rfl) | kernel_rfl | exact okDyn_num (fun _ => 0) (by kernel_rfl)) ?_
 refine CallVC.gen (by simp [Wk, WkL]) (hi2 _ _ _) ?_
 simp (config := {maxSteps := 2000000}) only [wkNL, wkN, unown, n11, Nat.reduceBEq, Nat.reduceAdd, Nat.add_zero, go_sem, Nat.reduceAdd, Nat.reduceEqDiff, Nat.reduceLT, Nat.reduceLeDiff, Nat.reduceBEq, Int.reduceToNat]
 repeat refine And.intro (by first | omega | exact ⟨by omega, by omega⟩ | exact okDyn_num (fun x => x.i) (by kernel_rfl) | kernel_rfl | exact okDyn_num (fun _ => 0) (by kernel_rfl)) ?_
 exact .bool (.inr rfl) rfl rfl (by simp [UpdAll])
end Go.Proofs.YtfhhbkehlfipgaaGreat
end
