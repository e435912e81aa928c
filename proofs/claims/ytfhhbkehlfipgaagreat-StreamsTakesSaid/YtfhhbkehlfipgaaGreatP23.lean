/- Lemmas for the walk: ZC80. -/
import Derived.Test.YtfhhbkehlfipgaaGreatP21
import Derived.Test.YtfhhbkehlfipgaaGreatP19
import Derived.Test.YtfhhbkehlfipgaaGreatP22
set_option linter.all false
section
namespace Go.Proofs.YtfhhbkehlfipgaaGreat
open Go.Tx
set_option maxRecDepth 100000
set_option maxHeartbeats 16000000
structure TkX where
 j : Nat
 i : Nat
 s : StX
def nrH (L n q : Nat) (cum : Int) : List (Int × Int) → List (Nm × SBlk)
 | [] => [(⟨L + 1, n⟩, .rows 63 2 true true [[.int .i64 cum, .nilS]])]
 | x :: S => [(⟨L + 1, n⟩, .rows 63 2 true false [[.int .i64 cum, .sl ⟨L + 1, q⟩ 0 (S.length + 1)]]), (⟨L + 1, q⟩, .rows 71 2 true true ((x :: S).map kE))]
def nrB (cum : Int) : List (Int × Int) → SBlk
 | [] => .rows 63 2 true true [[.int .i64 cum, .nilS]]
 | x :: S => .rows 63 2 true false [[.int .i64 cum, .fs 2 ((x :: S).map kE)]]
structure NrX where
 j : Nat
 i : Nat
 q : Nat
 S : List (Int × Int)
structure TsX where
 x : Nat
 i : Nat
theorem cutQ {G : List (Int × Int) → Prop} {P : Prop} (h : (∀ Q, Q.length ≤ 16 → G Q) → P) (g : ∀ Q, Q.length ≤ 16 → G Q) : P := h g
theorem cut3 {G : Nat → Nat → List Dat → Prop} {P : Prop} (h : (∀ l n PL, (1000000 ≤ l ∧ l < 1100000 ∧ 1000000 ≤ n ∧ n < 1100000 ∧ l ≠ n ∧ PL.length ≤ 3) → G l n PL) → P) (g : ∀ l n PL, (1000000 ≤ l ∧ l < 1100000 ∧ 1000000 ≤ n ∧ n < 1100000 ∧ l ≠ n ∧ PL.length ≤ 3) → G l n PL) : P := h g
theorem takesLaw_ok {F : SF} {L nx : Nat} (d : Df) (hd : d.ok) (b c : Bd) (hb : b.ok) (hc : c.ok) (raw : Dat) (cum : Int) (sk : List (Int × Int)) (a k bk : Nat) (ha : a < 256) (hk : k < 256) (hbk : bk < 256) :
  Con Tryz.prog 4 [.agg d.row, .agg b.row, .agg c.row, .agg raw.row, fwdP cum sk, .int .u8 a, .int .u8 k, .int .u8 bk] F L nx nx (.bool true) [] [] := by
 have hf32 := hd.f
 obtain ⟨sk2, hsk2⟩ : ∃ x, x = sk.take 32 := ⟨_, rfl⟩
 have hsl : sk2.length ≤ 32 := by rw [hsk2]; simp; omega
 have t1 : (min (sk.length : Int) 32).toNat = min sk.length 32 := by omega
 have t0 : List.take (min sk.length 32 - 0) (sk.map kE) = sk2.map kE := by
  rw [hsk2, List.map_take, List.take_eq_take_iff]; simp; omega
 have t2 : ((d.f : Int) + (bk : Int)).tmod 4294967296 = ((d.f : Int) + (bk : Int)) % 4294967296 := Int.tmod_eq_emod_of_nonneg (by omega)
 have t3 : List.drop 0 (sk.map kE) = sk.map kE := rfl
 have hlc := fun F L nx => lawCut_ok (F := F) (L := L) (nx := nx) raw
 have hst : ∀ F L nx, Con Tryz.prog 20 [.agg d.row] F L nx nx (strV (startO d.o d.a d.b) (startI d.i d.b) 0 (-1) [] []) [] [] := fun F L nx => startF_ok d.o d.i d.f d.a d.b _ _ hd.o hd.i hd.a1 hd.a2 hd.b1 hd.b2
 have hcm : ∀ F L nx, Con Tryz.prog 21 [.agg d.row] F L nx nx (.fs 8 ((cameW d.i d.f d.b d.ws d.ks).map Dat.row)) [] [] := fun F L nx => came_ok d.o d.i d.f hd.f d.a d.b hd.o hd.i hd.a1 hd.a2 hd.b1 hd.b2 d.ws hd.ws hd.wl d.ks hd.ks hd.kl (piecesZ_len _ _ _ _)
 have hpc : ∀ F L nx, Con Tryz.prog 24 [.agg d.row] F L nx nx (.fs 8 ((piecesW d.i d.f d.b d.ws).map Dat.row)) [] [] := fun F L nx => piecesD_ok d.o d.i d.f hd.f d.a d.b hd.o hd.i hd.a1 hd.a2 hd.b1 hd.b2 d.ws hd.ws hd.wl d.ks
 have hss := fun F L nx => states_ok (F := F) (L := L) (nx := nx) d hd b c hb hc
 obtain ⟨s1, s2⟩ := startI_ok d.i hd.b1 hd.b2
 obtain ⟨s3, s4⟩ := startO_ok d.o hd.a1 hd.a2 hd.b1 hd.b2
 have hcl := cameW_len d.i d.f d.b d.ws d.ks
 have hpl := piecesZ_len d.i d.f d.b d.ws
 obtain ⟨C, hC⟩ : ∃ x, x = cameW d.i d.f d.b d.ws d.ks := ⟨_, rfl⟩
 obtain ⟨PC, hPC⟩ : ∃ x, x = piecesW d.i d.f d.b d.ws := ⟨_, rfl⟩
 have hPk : ∀ x ∈ PC, x.ok = true := fun x hx => (piecesZ_ok d.i d.f hd.b1 hd.b2 d.ws x (by rw [← hPC]; exact hx)).1
 obtain ⟨out0, ho0⟩ : ∃ x, x = startO d.o d.a d.b := ⟨_, rfl⟩
 obtain ⟨inn0, hi0⟩ : ∃ x, x = startI d.i d.b := ⟨_, rfl⟩
 have u7 : (k : Int).tmod (inn0.length : Int) = ((k % inn0.length : Nat) : Int) := rfl
 have u8 : ((1 : Int) + ((k % inn0.length : Nat) : Int)).toNat = 1 + k % inn0.length := by omega
 obtain ⟨lst, hlst⟩ : ∃ x, x = inn0.take (1 + k % inn0.length) := ⟨_, rfl⟩
 have u9 := Nat.mod_lt k (show 0 < inn0.length by rw [hi0]; omega)
 have u10 : List.take (1 + k % inn0.length - 0) (inn0.map eI) = lst.map eI := by rw [hlst, List.map_take, Nat.sub_zero]
 have u11 : lst.length = 1 + k % inn0.length := by rw [hlst]; simp; omega
 have u12 : ∀ x ∈ lst, 0 ≤ x ∧ x < 65536 := by
  intro x hx
  rw [hlst] at hx
  have s2' := s2
  rw [List.all_eq_true] at s2'
  have h := s2' x (by have := List.mem_of_mem_take hx; rwa [hi0] at this)
  have h16 : (2 : Int) ^ (Int.toNat 16) = 65536 := rfl
  simp only [serB, h16, Bool.and_eq_true, decide_eq_true_eq] at h
  exact h
 obtain ⟨cum2, hcum2⟩ : ∃ x, x = ((d.f : Int) + (bk : Int)) % 4294967296 := ⟨_, rfl⟩
 rw [← hcum2] at t2
 obtain ⟨ALL, hALL⟩ : ∃ x, x = stA d b c := ⟨_, rfl⟩
 rw [← hC] at hcm hcl
 rw [← hPC] at hpc hpl
 rw [← ho0] at hst s3 s4
 rw [← hi0] at hst s1 s2
 rw [← hALL] at hss
 simp only [strV, Df.row, Bd.row, Dat.row, List.map_nil] at hst hcm hpc hss hlc
 refine bdy Tryz.f4 ?_
 intro F3 hF1 hF2
 simp only [Tryz.f4, cx, Dat.row, Df.row, Bd.row, fwdP, go_sem, meths]
 refine CallVC.same works_ok ?_
 simp only [go_sem]
 repeat refine sd2 ?_
 refine CallVC.same (hlc _ _ _) ?_
 simp only [t0, t1, List.length_map, go_sem]
 repeat refine sd2 ?_
 refine CallVC.same (hst _ _ _) ?_
 simp only [go_sem]
 repeat refine sd2 ?_
 refine CallVC.same (hcm _ _ _) ?_
 simp only [List.length_map, go_sem]
 repeat refine sd2 ?_
 refine loopK.intro _ _ (I := fun z : TkX => ⟨[none, none, none, none, none, some (.int .u8 a), some (.int .u8 k), some (.int .u8 bk), some (.ptr ⟨L + 1, 0⟩ 0 0), some (.ptr ⟨L + 1, 32⟩ 0 0), some (.ptr ⟨L + 1, 64⟩ 0 0), some (.ptr ⟨L + 1, 96⟩ 0 0), some (.ptr ⟨L + 1, 128⟩ 0 0), none, none, none, some (.bool false), some (.ptr ⟨L + 1, 608⟩ 0 0), none, none, none, none, none, none, none, none, none, none, none, none, none, none, none, none, none, none, none, none, none, none, none, none, none, none, none, none, some (.fs 8 (C.map Dat.row)), some (.int .i64 C.length), some (.int .i64 z.j), none, none, none, none, none, none, none, none, none, none, none, none, none, none, none, none, none, none, none, none, none, none, none, none, none, none, none, none, none, none, none, none, none, none, none, none, none, none, none, none, none, none, none, none, none, none, none, none, none, none, none, none, none, none, none, none, none, none, none, none, none, none, none, none, none, none, none, none, none, none, none, none, none, none, none, none, none, none, none, none, none, none, none, none, none, none, none, none, none, none, none, none, none, none, none, none, none, none, none, none, none, none, none, none, none, none, none, none, none, none, none, none, none, none, none, none, none, none, none, none, none, none, none, none, none, none, none, none, none, none, none, none, none, none, none, none, none, none, none, none, none, none, none, none, none, none, none, none, none, none, none, none, none, none, none],
  [(⟨L + 1, 0⟩, .rows 30 7 true true [[.int .u8 d.o, .int .u8 d.i, .int .u32 d.f, .int .u16 d.a, .int .u16 d.b, .fs 4 (d.ws.map Wd.row), .fs 1 (d.ks.map oU)]]), (⟨L + 1, 32⟩, .rows 34 11 true true [[.int .u8 b.w, .int .u8 b.a, .int .i64 b.n, .int .i64 b.d.tsn, .int .i64 b.d.st, .int .i64 b.d.sq, .int .i64 b.d.pr, .bool b.d.fi, .bool b.d.la, .bool b.d.lo, .str b.d.pl]]), (⟨L + 1, 64⟩, .rows 34 11 true true [[.int .u8 c.w, .int .u8 c.a, .int .i64 c.n, .int .i64 c.d.tsn, .int .i64 c.d.st, .int .i64 c.d.sq, .int .i64 c.d.pr, .bool c.d.fi, .bool c.d.la, .bool c.d.lo, .str c.d.pl]]), (⟨L + 1, 96⟩, .rows 32 8 true true [[.int .i64 raw.tsn, .int .i64 raw.st, .int .i64 raw.sq, .int .i64 raw.pr, .bool raw.fi, .bool raw.la, .bool raw.lo, .str (raw.pl.take 1200)]]), (⟨L + 1, 128⟩, .rows 63 2 true true [[.int .i64 cum, .fs 2 (sk2.map kE)]]), (⟨L + 1, 608⟩, .rows 41 6 true true [[.fs 1 (z.s.out.map eI), .fs 1 (z.s.inn.map eI), .fs 8 (z.s.ps.map Dat.row), .int .i64 z.s.num, .int .i64 z.s.seen, .fs 1 (z.s.asked.map eI)]])], if z.j = C.length then 1000000 else 10000 * (z.j + 1)⟩)
  (pre := fun z => z.j ≤ C.length ∧ z.s.Le (100 + z.j)) (μ := fun z => C.length - z.j) ⟨0, 0, ⟨out0, inn0, [], 0, -1, []⟩⟩ ⟨by simp, ⟨by simp only []; omega, by simp only []; omega, by simp, by simp⟩⟩ ?_ ?_
 ·refine Sub.of (hfz hF2) (by simp only [go_sem, subT, and_self, Int.natCast_zero]) ?_ (by simp [subK, keys]) (by simp only []; split <;> omega)
  simp [subH, Tx.look]
 ·rintro ⟨i, i9, s⟩ ⟨h1, h2⟩
  simp only at h1 h2 ⊢
  by_cases hlt : i < C.length
  ·have hiN : (i = C.length) = False := by apply eq_false; omega
   have f1 : decide ((i : Int) < (C.length : Int)) = true := dT (by omega)
   have r0 := rowD hlt
   obtain ⟨p, hp⟩ : ∃ p, p = C[i] := ⟨_, rfl⟩
   rw [← hp] at r0
   have htk := fun F L nx => takes_ok (F := F) (L := L) (nx := nx) s (h2.mono (by omega)) p
   have hrt := fun F L nx => refTakeAll_ok (F := F) (L := L) (nx := nx) s (h2.mono (by omega)) p
   obtain ⟨g1, _⟩ := takeR_le h2 p
   obtain ⟨r, hr⟩ : ∃ r, r = takeR s p := ⟨_, rfl⟩
   rw [← hr] at hrt g1
   obtain ⟨s', ms, e⟩ := r
   simp only [ansV, StX.v, strV, Dat.row] at htk hrt
   simp only [f1, r0, hiN, if_false, Dat.row, Int.toNat_natCast, nB, Nat.add_assoc, List.length_map, go_sem]
   repeat refine sd2 ?_
   refine CallVC.same (htk _ _ _) ?_
   simp only [nB, Nat.add_assoc, go_sem]
   repeat refine sd2 ?_
   refine CallVC.same (hrt _ _ _) ?_
   simp only [nB, Nat.add_assoc, go_sem]
   repeat refine sd2 ?_
   refine ⟨⟨i + 1, 0, s'⟩, ⟨by simp only []; omega, g1.mono (by simp only []; omega)⟩, by simp only []; omega, ?_⟩
   refine Sub.of (hfz hF2) (by simp only [go_sem, subT, and_self, Int.natCast_succ]) ?_ (by simp [subK, keys]) (by simp only []; split <;> omega)
   simp [subH, Tx.look]
  ·have f1 : decide ((i : Int) < (C.length : Int)) = false := dF (by omega)
   have e : i = C.length := by omega
   subst e
   clear h1 hlt
   apply cut3
   ·intro key
    simp only [f1, if_true, go_sem]
    repeat refine sd2 ?_
    refine CallVC.same (hpc _ _ _) ?_
    by_cases hne : 0 < PC.length
    ·have f2 : decide ((0 : Int) < (PC.length : Int)) = true := dT (by omega)
     have hm := Nat.mod_lt a hne
     have t5 : (a : Int).tmod (PC.length : Int) = ((a % PC.length : Nat) : Int) := rfl
     have t6 : (k : Int).tmod 6 = ((k % 6 : Nat) : Int) := rfl
     have r1 := rowD hm
     have hpk := Dat.ok_bounds (hPk _ (List.getElem_mem hm))
     obtain ⟨p, hp⟩ : ∃ p, p = PC[a % PC.length] := ⟨_, rfl⟩
     rw [← hp] at r1 hpk
     obtain ⟨r, hr⟩ : ∃ r, r = k % 6 := ⟨_, rfl⟩
     have hr6 : r < 6 := by omega
     have t7 : (p.sq + (bk : Int)).tmod 65536 = (p.sq + (bk : Int)) % 65536 := Int.tmod_eq_emod_of_nonneg (by omega)
     have t8 : (bk : Int).tmod 5 = ((bk % 5 : Nat) : Int) := rfl
     have t9 : (p.tsn + ((bk % 5 : Nat) : Int)).tmod 4294967296 = (p.tsn + ((bk % 5 : Nat) : Int)) % 4294967296 := Int.tmod_eq_emod_of_nonneg (by omega)
     rw [← hr] at t6
     rcases (show r = 0 ∨ r = 1 ∨ r = 2 ∨ r = 3 ∨ r = 4 ∨ r = 5 by omega) with rfl | rfl | rfl | rfl | rfl | rfl
     ·have w0 : (((0 : Nat) : Int) == 0) = true := rfl
      simp only [f2, t5, t6, t7, w0, r1, Int.toNat_natCast, t2, Dat.row, nm_beq, List.length_map, go_sem]
      repeat refine sd2 ?_
      refine CallVC.same (hst _ _ _) ?_
      simp only [go_sem]
      repeat refine sd2 ?_
      refine CallVC.same (hst _ _ _) ?_
      simp only [Int.toNat_natCast, u7, u8, List.length_map, go_sem]
      repeat refine sd2 ?_
      refine ⟨okDyn_num (fun x => x.i) (by kernel_rfl), ?_⟩
      repeat refine sd2 ?_
      obtain ⟨l, hl⟩ : ∃ l, l = 1001216 := ⟨_, rfl⟩
      obtain ⟨n, hn⟩ : ∃ n, n = 1001536 := ⟨_, rfl⟩
      obtain ⟨PL, hPL⟩ : ∃ P : List Dat, P = [{ raw with pl := raw.pl.take 1200 }, p, ⟨p.tsn, p.st, (p.sq + (bk : Int)) % 65536, p.pr, p.fi, p.la, p.lo, p.pl⟩] := ⟨_, rfl⟩
      have hPl : PL.length ≤ 3 := by rw [hPL]; simp
      simp only [← hl, ← hn]
      have ln1 : (l = n) = False := by apply eq_false; omega
      have ln2 : (n = l) = False := by apply eq_false; omega
      refine loopK.intro _ _ (I := fun z : NrX => ⟨[none, none, none, none, none, some (.int .u8 a), none, none, some (.ptr ⟨L + 1, 0⟩ 0 0), some (.ptr ⟨L + 1, 32⟩ 0 0), some (.ptr ⟨L + 1, 64⟩ 0 0), none, some (.ptr ⟨L + 1, 128⟩ 0 0), none, none, none, some (.bool false), none, none, none, some (.sl ⟨L + 1, l⟩ 0 PL.length), none, none, none, some (.ptr ⟨L + 1, n⟩ 0 0), none, none, none, none, none, none, none, none, none, none, none, none, none, none, none, none, none, none, none, none, none, none, none, none, none, none, none, none, none, none, none, none, none, none, none, none, none, none, none, none, none, none, none, none, none, none, none, none, none, none, none, none, none, none, none, none, none, none, none, none, none, none, none, none, none, none, none, none, none, none, none, none, none, none, none, none, none, none, none, none, none, none, none, none, none, none, none, none, none, none, none, none, none, none, none, none, none, none, none, none, none, none, none, none, none, none, none, none, none, none, none, none, none, none, none, none, none, none, none, none, none, none, some (.fs 1 (lst.map eI)), some (.int .i64 lst.length), some (.int .i64 z.j), none, none, none, none, none, none, none, none, none, none, none, none, none, none, none, none, none, none, none, none, none, none, none, none, none, none, none, none, none, none, none, none, none, none, none, none, none, none, none, none, none, none, none, none, none, none, none, none, none, none, none, none, none, none], [(⟨L + 1, 0⟩, .rows 30 7 true true [[.int .u8 d.o, .int .u8 d.i, .int .u32 d.f, .int .u16 d.a, .int .u16 d.b, .fs 4 (d.ws.map Wd.row), .fs 1 (d.ks.map oU)]]), (⟨L + 1, 32⟩, .rows 34 11 true true [[.int .u8 b.w, .int .u8 b.a, .int .i64 b.n, .int .i64 b.d.tsn, .int .i64 b.d.st, .int .i64 b.d.sq, .int .i64 b.d.pr, .bool b.d.fi, .bool b.d.la, .bool b.d.lo, .str b.d.pl]]), (⟨L + 1, 64⟩, .rows 34 11 true true [[.int .u8 c.w, .int .u8 c.a, .int .i64 c.n, .int .i64 c.d.tsn, .int .i64 c.d.st, .int .i64 c.d.sq, .int .i64 c.d.pr, .bool c.d.fi, .bool c.d.la, .bool c.d.lo, .str c.d.pl]]), (⟨L + 1, 128⟩, .rows 63 2 true true [[.int .i64 cum, .fs 2 (sk2.map kE)]]), (⟨L + 1, l⟩, .rows 32 8 true true (PL.map Dat.row))] ++ nrH L n z.q cum2 z.S, 10000 * (z.i + 1)⟩) (pre := fun z => z.j ≤ lst.length ∧ 200 ≤ z.i ∧ z.S.length ≤ z.j ∧ 2000000 ≤ z.q ∧ z.q < 10000 * (z.i + 1)) (μ := fun z => lst.length - z.j) ⟨0, 200, 2000000, []⟩ ⟨by simp, by simp, by simp, by simp, by simp⟩ ?_ ?_
      rotate_left
      ·exact key l n PL ⟨by omega, by omega, by omega, by omega, by omega, hPl⟩
      refine Sub.of (hfz hF2) (by simp only [u10, u11, List.length_map, hPL, List.length_cons, go_sem, subT, and_self, Int.natCast_zero]) ?_ (by simp [subK, keys, nrH]) (by simp)
      subst hl; subst hn
      simp [subH, Tx.look, nrH, hPL, Dat.row]
     ·have w0 : (((1 : Nat) : Int) == 0) = false := rfl
      have w1 : (((1 : Nat) : Int) == 1) = true := rfl
      simp only [f2, t5, t6, w0, w1, r1, Int.toNat_natCast, t2, Dat.row, nm_beq, List.length_map, go_sem]
      repeat refine sd2 ?_
      refine CallVC.same (hst _ _ _) ?_
      simp only [go_sem]
      repeat refine sd2 ?_
      refine CallVC.same (hst _ _ _) ?_
      simp only [Int.toNat_natCast, u7, u8, List.length_map, go_sem]
      repeat refine sd2 ?_
      refine ⟨okDyn_num (fun x => x.i) (by kernel_rfl), ?_⟩
      repeat refine sd2 ?_
      obtain ⟨l, hl⟩ : ∃ l, l = 1001184 := ⟨_, rfl⟩
      obtain ⟨n, hn⟩ : ∃ n, n = 1001504 := ⟨_, rfl⟩
      obtain ⟨PL, hPL⟩ : ∃ P : List Dat, P = [{ raw with pl := raw.pl.take 1200 }, p, ⟨p.tsn, p.st, p.sq, p.pr, !p.fi, p.la, p.lo, p.pl⟩] := ⟨_, rfl⟩
      have hPl : PL.length ≤ 3 := by rw [hPL]; simp
      simp only [← hl, ← hn]
      have ln1 : (l = n) = False := by apply eq_false; omega
      have ln2 : (n = l) = False := by apply eq_false; omega
      refine loopK.intro _ _ (I := fun z : NrX => ⟨[none, none, none, none, none, some (.int .u8 a), none, none, some (.ptr ⟨L + 1, 0⟩ 0 0), some (.ptr ⟨L + 1, 32⟩ 0 0), some (.ptr ⟨L + 1, 64⟩ 0 0), none, some (.ptr ⟨L + 1, 128⟩ 0 0), none, none, none, some (.bool false), none, none, none, some (.sl ⟨L + 1, l⟩ 0 PL.length), none, none, none, some (.ptr ⟨L + 1, n⟩ 0 0), none, none, none, none, none, none, none, none, none, none, none, none, none, none, none, none, none, none, none, none, none, none, none, none, none, none, none, none, none, none, none, none, none, none, none, none, none, none, none, none, none, none, none, none, none, none, none, none, none, none, none, none, none, none, none, none, none, none, none, none, none, none, none, none, none, none, none, none, none, none, none, none, none, none, none, none, none, none, none, none, none, none, none, none, none, none, none, none, none, none, none, none, none, none, none, none, none, none, none, none, none, none, none, none, none, none, none, none, none, none, none, none, none, none, none, none, none, none, none, none, none, none, some (.fs 1 (lst.map eI)), some (.int .i64 lst.length), some (.int .i64 z.j), none, none, none, none, none, none, none, none, none, none, none, none, none, none, none, none, none, none, none, none, none, none, none, none, none, none, none, none, none, none, none, none, none, none, none, none, none, none, none, none, none, none, none, none, none, none, none, none, none, none, none, none, none, none], [(⟨L + 1, 0⟩, .rows 30 7 true true [[.int .u8 d.o, .int .u8 d.i, .int .u32 d.f, .int .u16 d.a, .int .u16 d.b, .fs 4 (d.ws.map Wd.row), .fs 1 (d.ks.map oU)]]), (⟨L + 1, 32⟩, .rows 34 11 true true [[.int .u8 b.w, .int .u8 b.a, .int .i64 b.n, .int .i64 b.d.tsn, .int .i64 b.d.st, .int .i64 b.d.sq, .int .i64 b.d.pr, .bool b.d.fi, .bool b.d.la, .bool b.d.lo, .str b.d.pl]]), (⟨L + 1, 64⟩, .rows 34 11 true true [[.int .u8 c.w, .int .u8 c.a, .int .i64 c.n, .int .i64 c.d.tsn, .int .i64 c.d.st, .int .i64 c.d.sq, .int .i64 c.d.pr, .bool c.d.fi, .bool c.d.la, .bool c.d.lo, .str c.d.pl]]), (⟨L + 1, 128⟩, .rows 63 2 true true [[.int .i64 cum, .fs 2 (sk2.map kE)]]), (⟨L + 1, l⟩, .rows 32 8 true true (PL.map Dat.row))] ++ nrH L n z.q cum2 z.S, 10000 * (z.i + 1)⟩) (pre := fun z => z.j ≤ lst.length ∧ 200 ≤ z.i ∧ z.S.length ≤ z.j ∧ 2000000 ≤ z.q ∧ z.q < 10000 * (z.i + 1)) (μ := fun z => lst.length - z.j) ⟨0, 200, 2000000, []⟩ ⟨by simp, by simp, by simp, by simp, by simp⟩ ?_ ?_
      rotate_left
      ·exact key l n PL ⟨by omega, by omega, by omega, by omega, by omega, hPl⟩
      refine Sub.of (hfz hF2) (by simp only [u10, u11, List.length_map, hPL, List.length_cons, go_sem, subT, and_self, Int.natCast_zero]) ?_ (by simp [subK, keys, nrH]) (by simp)
      subst hl; subst hn
      simp [subH, Tx.look, nrH, hPL, Dat.row]
     ·have w0 : (((2 : Nat) : Int) == 0) = false := rfl
      have w1 : (((2 : Nat) : Int) == 1) = false := rfl
      have w2 : (((2 : Nat) : Int) == 2) = true := rfl
      simp only [f2, t5, t6, w0, w1, w2, r1, Int.toNat_natCast, t2, Dat.row, nm_beq, List.length_map, go_sem]
      repeat refine sd2 ?_
      refine CallVC.same (hst _ _ _) ?_
      simp only [go_sem]
      repeat refine sd2 ?_
      refine CallVC.same (hst _ _ _) ?_
      simp only [Int.toNat_natCast, u7, u8, List.length_map, go_sem]
      repeat refine sd2 ?_
      refine ⟨okDyn_num (fun x => x.i) (by kernel_rfl), ?_⟩
      repeat refine sd2 ?_
      obtain ⟨l, hl⟩ : ∃ l, l = 1001248 := ⟨_, rfl⟩
      obtain ⟨n, hn⟩ : ∃ n, n = 1001568 := ⟨_, rfl⟩
      obtain ⟨PL, hPL⟩ : ∃ P : List Dat, P = [{ raw with pl := raw.pl.take 1200 }, p, ⟨p.tsn, p.st, p.sq, p.pr, p.fi, !p.la, p.lo, p.pl⟩] := ⟨_, rfl⟩
      have hPl : PL.length ≤ 3 := by rw [hPL]; simp
      simp only [← hl, ← hn]
      have ln1 : (l = n) = False := by apply eq_false; omega
      have ln2 : (n = l) = False := by apply eq_false; omega
      refine loopK.intro _ _ (I := fun z : NrX => ⟨[none, none, none, none, none, some (.int .u8 a), none, none, some (.ptr ⟨L + 1, 0⟩ 0 0), some (.ptr ⟨L + 1, 32⟩ 0 0), some (.ptr ⟨L + 1, 64⟩ 0 0), none, some (.ptr ⟨L + 1, 128⟩ 0 0), none, none, none, some (.bool false), none, none, none, some (.sl ⟨L + 1, l⟩ 0 PL.length), none, none, none, some (.ptr ⟨L + 1, n⟩ 0 0), none, none, none, none, none, none, none, none, none, none, none, none, none, none, none, none, none, none, none, none, none, none, none, none, none, none, none, none, none, none, none, none, none, none, none, none, none, none, none, none, none, none, none, none, none, none, none, none, none, none, none, none, none, none, none, none, none, none, none, none, none, none, none, none, none, none, none, none, none, none, none, none, none, none, none, none, none, none, none, none, none, none, none, none, none, none, none, none, none, none, none, none, none, none, none, none, none, none, none, none, none, none, none, none, none, none, none, none, none, none, none, none, none, none, none, none, none, none, none, none, none, none, some (.fs 1 (lst.map eI)), some (.int .i64 lst.length), some (.int .i64 z.j), none, none, none, none, none, none, none, none, none, none, none, none, none, none, none, none, none, none, none, none, none, none, none, none, none, none, none, none, none, none, none, none, none, none, none, none, none, none, none, none, none, none, none, none, none, none, none, none, none, none, none, none, none, none], [(⟨L + 1, 0⟩, .rows 30 7 true true [[.int .u8 d.o, .int .u8 d.i, .int .u32 d.f, .int .u16 d.a, .int .u16 d.b, .fs 4 (d.ws.map Wd.row), .fs 1 (d.ks.map oU)]]), (⟨L + 1, 32⟩, .rows 34 11 true true [[.int .u8 b.w, .int .u8 b.a, .int .i64 b.n, .int .i64 b.d.tsn, .int .i64 b.d.st, .int .i64 b.d.sq, .int .i64 b.d.pr, .bool b.d.fi, .bool b.d.la, .bool b.d.lo, .str b.d.pl]]), (⟨L + 1, 64⟩, .rows 34 11 true true [[.int .u8 c.w, .int .u8 c.a, .int .i64 c.n, .int .i64 c.d.tsn, .int .i64 c.d.st, .int .i64 c.d.sq, .int .i64 c.d.pr, .bool c.d.fi, .bool c.d.la, .bool c.d.lo, .str c.d.pl]]), (⟨L + 1, 128⟩, .rows 63 2 true true [[.int .i64 cum, .fs 2 (sk2.map kE)]]), (⟨L + 1, l⟩, .rows 32 8 true true (PL.map Dat.row))] ++ nrH L n z.q cum2 z.S, 10000 * (z.i + 1)⟩) (pre := fun z => z.j ≤ lst.length ∧ 200 ≤ z.i ∧ z.S.length ≤ z.j ∧ 2000000 ≤ z.q ∧ z.q < 10000 * (z.i + 1)) (μ := fun z => lst.length - z.j) ⟨0, 200, 2000000, []⟩ ⟨by simp, by simp, by simp, by simp, by simp⟩ ?_ ?_
      rotate_left
      ·exact key l n PL ⟨by omega, by omega, by omega, by omega, by omega, hPl⟩
      refine Sub.of (hfz hF2) (by simp only [u10, u11, List.length_map, hPL, List.length_cons, go_sem, subT, and_self, Int.natCast_zero]) ?_ (by simp [subK, keys, nrH]) (by simp)
      subst hl; subst hn
      simp [subH, Tx.look, nrH, hPL, Dat.row]
     ·have w0 : (((3 : Nat) : Int) == 0) = false := rfl
      have w1 : (((3 : Nat) : Int) == 1) = false := rfl
      have w2 : (((3 : Nat) : Int) == 2) = false := rfl
      have w3 : (((3 : Nat) : Int) == 3) = true := rfl
      simp only [f2, t5, t6, w0, w1, w2, w3, r1, Int.toNat_natCast, t2, Dat.row, nm_beq, List.length_map, go_sem]
      repeat refine sd2 ?_
      refine CallVC.same (hst _ _ _) ?_
      simp only [go_sem]
      repeat refine sd2 ?_
      refine CallVC.same (hst _ _ _) ?_
      simp only [Int.toNat_natCast, u7, u8, List.length_map, go_sem]
      repeat refine sd2 ?_
      refine ⟨okDyn_num (fun x => x.i) (by kernel_rfl), ?_⟩
      repeat refine sd2 ?_
      obtain ⟨l, hl⟩ : ∃ l, l = 1001312 := ⟨_, rfl⟩
      obtain ⟨n, hn⟩ : ∃ n, n = 1001632 := ⟨_, rfl⟩
      obtain ⟨PL, hPL⟩ : ∃ P : List Dat, P = [{ raw with pl := raw.pl.take 1200 }, p, ⟨p.tsn, p.st, p.sq, p.pr, p.fi, p.la, !p.lo, p.pl⟩] := ⟨_, rfl⟩
      have hPl : PL.length ≤ 3 := by rw [hPL]; simp
      simp only [← hl, ← hn]
      have ln1 : (l = n) = False := by apply eq_false; omega
      have ln2 : (n = l) = False := by apply eq_false; omega
      refine loopK.intro _ _ (I := fun z : NrX => ⟨[none, none, none, none, none, some (.int .u8 a), none, none, some (.ptr ⟨L + 1, 0⟩ 0 0), some (.ptr ⟨L + 1, 32⟩ 0 0), some (.ptr ⟨L + 1, 64⟩ 0 0), none, some (.ptr ⟨L + 1, 128⟩ 0 0), none, none, none, some (.bool false), none, none, none, some (.sl ⟨L + 1, l⟩ 0 PL.length), none, none, none, some (.ptr ⟨L + 1, n⟩ 0 0), none, none, none, none, none, none, none, none, none, none, none, none, none, none, none, none, none, none, none, none, none, none, none, none, none, none, none, none, none, none, none, none, none, none, none, none, none, none, none, none, none, none, none, none, none, none, none, none, none, none, none, none, none, none, none, none, none, none, none, none, none, none, none, none, none, none, none, none, none, none, none, none, none, none, none, none, none, none, none, none, none, none, none, none, none, none, none, none, none, none, none, none, none, none, none, none, none, none, none, none, none, none, none, none, none, none, none, none, none, none, none, none, none, none, none, none, none, none, none, none, none, none, some (.fs 1 (lst.map eI)), some (.int .i64 lst.length), some (.int .i64 z.j), none, none, none, none, none, none, none, none, none, none, none, none, none, none, none, none, none, none, none, none, none, none, none, none, none, none, none, none, none, none, none, none, none, none, none, none, none, none, none, none, none, none, none, none, none, none, none, none, none, none, none, none, none, none], [(⟨L + 1, 0⟩, .rows 30 7 true true [[.int .u8 d.o, .int .u8 d.i, .int .u32 d.f, .int .u16 d.a, .int .u16 d.b, .fs 4 (d.ws.map Wd.row), .fs 1 (d.ks.map oU)]]), (⟨L + 1, 32⟩, .rows 34 11 true true [[.int .u8 b.w, .int .u8 b.a, .int .i64 b.n, .int .i64 b.d.tsn, .int .i64 b.d.st, .int .i64 b.d.sq, .int .i64 b.d.pr, .bool b.d.fi, .bool b.d.la, .bool b.d.lo, .str b.d.pl]]), (⟨L + 1, 64⟩, .rows 34 11 true true [[.int .u8 c.w, .int .u8 c.a, .int .i64 c.n, .int .i64 c.d.tsn, .int .i64 c.d.st, .int .i64 c.d.sq, .int .i64 c.d.pr, .bool c.d.fi, .bool c.d.la, .bool c.d.lo, .str c.d.pl]]), (⟨L + 1, 128⟩, .rows 63 2 true true [[.int .i64 cum, .fs 2 (sk2.map kE)]]), (⟨L + 1, l⟩, .rows 32 8 true true (PL.map Dat.row))] ++ nrH L n z.q cum2 z.S, 10000 * (z.i + 1)⟩) (pre := fun z => z.j ≤ lst.length ∧ 200 ≤ z.i ∧ z.S.length ≤ z.j ∧ 2000000 ≤ z.q ∧ z.q < 10000 * (z.i + 1)) (μ := fun z => lst.length - z.j) ⟨0, 200, 2000000, []⟩ ⟨by simp, by simp, by simp, by simp, by simp⟩ ?_ ?_
      rotate_left
      ·exact key l n PL ⟨by omega, by omega, by omega, by omega, by omega, hPl⟩
      refine Sub.of (hfz hF2) (by simp only [u10, u11, List.length_map, hPL, List.length_cons, go_sem, subT, and_self, Int.natCast_zero]) ?_ (by simp [subK, keys, nrH]) (by simp)
      subst hl; subst hn
      simp [subH, Tx.look, nrH, hPL, Dat.row]
     ·have w0 : (((4 : Nat) : Int) == 0) = false := rfl
      have w1 : (((4 : Nat) : Int) == 1) = false := rfl
      have w2 : (((4 : Nat) : Int) == 2) = false := rfl
      have w3 : (((4 : Nat) : Int) == 3) = false := rfl
      have w4 : (((4 : Nat) : Int) == 4) = true := rfl
      simp only [f2, t5, t6, t8, t9, w0, w1, w2, w3, w4, r1, Int.toNat_natCast, t2, Dat.row, nm_beq, List.length_map, Nat.add_zero, go_sem]
      repeat refine sd2 ?_
      refine CallVC.same (hst _ _ _) ?_
      simp only [go_sem]
      repeat refine sd2 ?_
      refine CallVC.same (hst _ _ _) ?_
      simp only [Int.toNat_natCast, u7, u8, List.length_map, go_sem]
      repeat refine sd2 ?_
      refine ⟨okDyn_num (fun x => x.i) (by kernel_rfl), ?_⟩
      repeat refine sd2 ?_
      obtain ⟨l, hl⟩ : ∃ l, l = 1001504 := ⟨_, rfl⟩
      obtain ⟨n, hn⟩ : ∃ n, n = 1001824 := ⟨_, rfl⟩
      obtain ⟨PL, hPL⟩ : ∃ P : List Dat, P = [{ raw with pl := raw.pl.take 1200 }, p, ⟨(p.tsn + ((bk % 5 : Nat) : Int)) % 4294967296, p.st, p.sq, p.pr, p.fi, p.la, p.lo, p.pl⟩] := ⟨_, rfl⟩
      have hPl : PL.length ≤ 3 := by rw [hPL]; simp
      simp only [← hl, ← hn]
      have ln1 : (l = n) = False := by apply eq_false; omega
      have ln2 : (n = l) = False := by apply eq_false; omega
      refine loopK.intro _ _ (I := fun z : NrX => ⟨[none, none, none, none, none, some (.int .u8 a), none, none, some (.ptr ⟨L + 1, 0⟩ 0 0), some (.ptr ⟨L + 1, 32⟩ 0 0), some (.ptr ⟨L + 1, 64⟩ 0 0), none, some (.ptr ⟨L + 1, 128⟩ 0 0), none, none, none, some (.bool false), none, none, none, some (.sl ⟨L + 1, l⟩ 0 PL.length), none, none, none, some (.ptr ⟨L + 1, n⟩ 0 0), none, none, none, none, none, none, none, none, none, none, none, none, none, none, none, none, none, none, none, none, none, none, none, none, none, none, none, none, none, none, none, none, none, none, none, none, none, none, none, none, none, none, none, none, none, none, none, none, none, none, none, none, none, none, none, none, none, none, none, none, none, none, none, none, none, none, none, none, none, none, none, none, none, none, none, none, none, none, none, none, none, none, none, none, none, none, none, none, none, none, none, none, none, none, none, none, none, none, none, none, none, none, none, none, none, none, none, none, none, none, none, none, none, none, none, none, none, none, none, none, none, none, some (.fs 1 (lst.map eI)), some (.int .i64 lst.length), some (.int .i64 z.j), none, none, none, none, none, none, none, none, none, none, none, none, none, none, none, none, none, none, none, none, none, none, none, none, none, none, none, none, none, none, none, none, none, none, none, none, none, none, none, none, none, none, none, none, none, none, none, none, none, none, none, none, none, none], [(⟨L + 1, 0⟩, .rows 30 7 true true [[.int .u8 d.o, .int .u8 d.i, .int .u32 d.f, .int .u16 d.a, .int .u16 d.b, .fs 4 (d.ws.map Wd.row), .fs 1 (d.ks.map oU)]]), (⟨L + 1, 32⟩, .rows 34 11 true true [[.int .u8 b.w, .int .u8 b.a, .int .i64 b.n, .int .i64 b.d.tsn, .int .i64 b.d.st, .int .i64 b.d.sq, .int .i64 b.d.pr, .bool b.d.fi, .bool b.d.la, .bool b.d.lo, .str b.d.pl]]), (⟨L + 1, 64⟩, .rows 34 11 true true [[.int .u8 c.w, .int .u8 c.a, .int .i64 c.n, .int .i64 c.d.tsn, .int .i64 c.d.st, .int .i64 c.d.sq, .int .i64 c.d.pr, .bool c.d.fi, .bool c.d.la, .bool c.d.lo, .str c.d.pl]]), (⟨L + 1, 128⟩, .rows 63 2 true true [[.int .i64 cum, .fs 2 (sk2.map kE)]]), (⟨L + 1, l⟩, .rows 32 8 true true (PL.map Dat.row))] ++ nrH L n z.q cum2 z.S, 10000 * (z.i + 1)⟩) (pre := fun z => z.j ≤ lst.length ∧ 200 ≤ z.i ∧ z.S.length ≤ z.j ∧ 2000000 ≤ z.q ∧ z.q < 10000 * (z.i + 1)) (μ := fun z => lst.length - z.j) ⟨0, 200, 2000000, []⟩ ⟨by simp, by simp, by simp, by simp, by simp⟩ ?_ ?_
      rotate_left
      ·exact key l n PL ⟨by omega, by omega, by omega, by omega, by omega, hPl⟩
      refine Sub.of (hfz hF2) (by simp only [u10, u11, List.length_map, hPL, List.length_cons, go_sem, subT, and_self, Int.natCast_zero]) ?_ (by simp [subK, keys, nrH]) (by simp)
      subst hl; subst hn
      simp [subH, Tx.look, nrH, hPL, Dat.row]
     ·have w0 : (((5 : Nat) : Int) == 0) = false := rfl
      have w1 : (((5 : Nat) : Int) == 1) = false := rfl
      have w2 : (((5 : Nat) : Int) == 2) = false := rfl
      have w3 : (((5 : Nat) : Int) == 3) = false := rfl
      have w4 : (((5 : Nat) : Int) == 4) = false := rfl
      simp only [f2, t5, t6, w0, w1, w2, w3, w4, r1, Int.toNat_natCast, t2, Dat.row, nm_beq, List.length_map, go_sem]
      repeat refine sd2 ?_
      refine CallVC.same (hst _ _ _) ?_
      simp only [go_sem]
      repeat refine sd2 ?_
      refine CallVC.same (hst _ _ _) ?_
      simp only [Int.toNat_natCast, u7, u8, List.length_map, go_sem]
      repeat refine sd2 ?_
      refine ⟨okDyn_num (fun x => x.i) (by kernel_rfl), ?_⟩
      repeat refine sd2 ?_
      obtain ⟨l, hl⟩ : ∃ l, l = 1001376 := ⟨_, rfl⟩
      obtain ⟨n, hn⟩ : ∃ n, n = 1001696 := ⟨_, rfl⟩
      obtain ⟨PL, hPL⟩ : ∃ P : List Dat, P = [{ raw with pl := raw.pl.take 1200 }, p, ⟨p.tsn, p.st + 1, p.sq, p.pr, p.fi, p.la, p.lo, p.pl⟩] := ⟨_, rfl⟩
      have hPl : PL.length ≤ 3 := by rw [hPL]; simp
      simp only [← hl, ← hn]
      have ln1 : (l = n) = False := by apply eq_false; omega
      have ln2 : (n = l) = False := by apply eq_false; omega
      refine loopK.intro _ _ (I := fun z : NrX => ⟨[none, none, none, none, none, some (.int .u8 a), none, none, some (.ptr ⟨L + 1, 0⟩ 0 0), some (.ptr ⟨L + 1, 32⟩ 0 0), some (.ptr ⟨L + 1, 64⟩ 0 0), none, some (.ptr ⟨L + 1, 128⟩ 0 0), none, none, none, some (.bool false), none, none, none, some (.sl ⟨L + 1, l⟩ 0 PL.length), none, none, none, some (.ptr ⟨L + 1, n⟩ 0 0), none, none, none, none, none, none, none, none, none, none, none, none, none, none, none, none, none, none, none, none, none, none, none, none, none, none, none, none, none, none, none, none, none, none, none, none, none, none, none, none, none, none, none, none, none, none, none, none, none, none, none, none, none, none, none, none, none, none, none, none, none, none, none, none, none, none, none, none, none, none, none, none, none, none, none, none, none, none, none, none, none, none, none, none, none, none, none, none, none, none, none, none, none, none, none, none, none, none, none, none, none, none, none, none, none, none, none, none, none, none, none, none, none, none, none, none, none, none, none, none, none, none, some (.fs 1 (lst.map eI)), some (.int .i64 lst.length), some (.int .i64 z.j), none, none, none, none, none, none, none, none, none, none, none, none, none, none, none, none, none, none, none, none, none, none, none, none, none, none, none, none, none, none, none, none, none, none, none, none, none, none, none, none, none, none, none, none, none, none, none, none, none, none, none, none, none, none], [(⟨L + 1, 0⟩, .rows 30 7 true true [[.int .u8 d.o, .int .u8 d.i, .int .u32 d.f, .int .u16 d.a, .int .u16 d.b, .fs 4 (d.ws.map Wd.row), .fs 1 (d.ks.map oU)]]), (⟨L + 1, 32⟩, .rows 34 11 true true [[.int .u8 b.w, .int .u8 b.a, .int .i64 b.n, .int .i64 b.d.tsn, .int .i64 b.d.st, .int .i64 b.d.sq, .int .i64 b.d.pr, .bool b.d.fi, .bool b.d.la, .bool b.d.lo, .str b.d.pl]]), (⟨L + 1, 64⟩, .rows 34 11 true true [[.int .u8 c.w, .int .u8 c.a, .int .i64 c.n, .int .i64 c.d.tsn, .int .i64 c.d.st, .int .i64 c.d.sq, .int .i64 c.d.pr, .bool c.d.fi, .bool c.d.la, .bool c.d.lo, .str c.d.pl]]), (⟨L + 1, 128⟩, .rows 63 2 true true [[.int .i64 cum, .fs 2 (sk2.map kE)]]), (⟨L + 1, l⟩, .rows 32 8 true true (PL.map Dat.row))] ++ nrH L n z.q cum2 z.S, 10000 * (z.i + 1)⟩) (pre := fun z => z.j ≤ lst.length ∧ 200 ≤ z.i ∧ z.S.length ≤ z.j ∧ 2000000 ≤ z.q ∧ z.q < 10000 * (z.i + 1)) (μ := fun z => lst.length - z.j) ⟨0, 200, 2000000, []⟩ ⟨by simp, by simp, by simp, by simp, by simp⟩ ?_ ?_
      rotate_left
      ·exact key l n PL ⟨by omega, by omega, by omega, by omega, by omega, hPl⟩
      refine Sub.of (hfz hF2) (by simp only [u10, u11, List.length_map, hPL, List.length_cons, go_sem, subT, and_self, Int.natCast_zero]) ?_ (by simp [subK, keys, nrH]) (by simp)
      subst hl; subst hn
      simp [subH, Tx.look, nrH, hPL, Dat.row]
    ·have f2 : decide ((0 : Int) < (PC.length : Int)) = false := dF (by omega)
     simp only [f2, t2, List.length_map, go_sem]
     repeat refine sd2 ?_
     refine CallVC.same (hst _ _ _) ?_
     simp only [go_sem]
     repeat refine sd2 ?_
     refine CallVC.same (hst _ _ _) ?_
     simp only [u7, u8, List.length_map, go_sem]
     repeat refine sd2 ?_
     refine ⟨okDyn_num (fun x => x.i) (by kernel_rfl), ?_⟩
     repeat refine sd2 ?_
     obtain ⟨l, hl⟩ : ∃ l, l = 1000064 := ⟨_, rfl⟩
     obtain ⟨n, hn⟩ : ∃ n, n = 1000544 := ⟨_, rfl⟩
     obtain ⟨PL, hPL⟩ : ∃ P : List Dat, P = [{ raw with pl := raw.pl.take 1200 }] := ⟨_, rfl⟩
     have hPl : PL.length ≤ 3 := by rw [hPL]; simp
     simp only [← hl, ← hn]
     have ln1 : (l = n) = False := by apply eq_false; omega
     have ln2 : (n = l) = False := by apply eq_false; omega
     refine loopK.intro _ _ (I := fun z : NrX => ⟨[none, none, none, none, none, some (.int .u8 a), none, none, some (.ptr ⟨L + 1, 0⟩ 0 0), some (.ptr ⟨L + 1, 32⟩ 0 0), some (.ptr ⟨L + 1, 64⟩ 0 0), none, some (.ptr ⟨L + 1, 128⟩ 0 0), none, none, none, some (.bool false), none, none, none, some (.sl ⟨L + 1, l⟩ 0 PL.length), none, none, none, some (.ptr ⟨L + 1, n⟩ 0 0), none, none, none, none, none, none, none, none, none, none, none, none, none, none, none, none, none, none, none, none, none, none, none, none, none, none, none, none, none, none, none, none, none, none, none, none, none, none, none, none, none, none, none, none, none, none, none, none, none, none, none, none, none, none, none, none, none, none, none, none, none, none, none, none, none, none, none, none, none, none, none, none, none, none, none, none, none, none, none, none, none, none, none, none, none, none, none, none, none, none, none, none, none, none, none, none, none, none, none, none, none, none, none, none, none, none, none, none, none, none, none, none, none, none, none, none, none, none, none, none, none, none, some (.fs 1 (lst.map eI)), some (.int .i64 lst.length), some (.int .i64 z.j), none, none, none, none, none, none, none, none, none, none, none, none, none, none, none, none, none, none, none, none, none, none, none, none, none, none, none, none, none, none, none, none, none, none, none, none, none, none, none, none, none, none, none, none, none, none, none, none, none, none, none, none, none, none], [(⟨L + 1, 0⟩, .rows 30 7 true true [[.int .u8 d.o, .int .u8 d.i, .int .u32 d.f, .int .u16 d.a, .int .u16 d.b, .fs 4 (d.ws.map Wd.row), .fs 1 (d.ks.map oU)]]), (⟨L + 1, 32⟩, .rows 34 11 true true [[.int .u8 b.w, .int .u8 b.a, .int .i64 b.n, .int .i64 b.d.tsn, .int .i64 b.d.st, .int .i64 b.d.sq, .int .i64 b.d.pr, .bool b.d.fi, .bool b.d.la, .bool b.d.lo, .str b.d.pl]]), (⟨L + 1, 64⟩, .rows 34 11 true true [[.int .u8 c.w, .int .u8 c.a, .int .i64 c.n, .int .i64 c.d.tsn, .int .i64 c.d.st, .int .i64 c.d.sq, .int .i64 c.d.pr, .bool c.d.fi, .bool c.d.la, .bool c.d.lo, .str c.d.pl]]), (⟨L + 1, 128⟩, .rows 63 2 true true [[.int .i64 cum, .fs 2 (sk2.map kE)]]), (⟨L + 1, l⟩, .rows 32 8 true true (PL.map Dat.row))] ++ nrH L n z.q cum2 z.S, 10000 * (z.i + 1)⟩) (pre := fun z => z.j ≤ lst.length ∧ 200 ≤ z.i ∧ z.S.length ≤ z.j ∧ 2000000 ≤ z.q ∧ z.q < 10000 * (z.i + 1)) (μ := fun z => lst.length - z.j) ⟨0, 200, 2000000, []⟩ ⟨by simp, by simp, by simp, by simp, by simp⟩ ?_ ?_
     rotate_left
     ·exact key l n PL ⟨by omega, by omega, by omega, by omega, by omega, hPl⟩
     refine Sub.of (hfz hF2) (by simp only [u10, u11, List.length_map, hPL, List.length_cons, go_sem, subT, and_self, Int.natCast_zero]) ?_ (by simp [subK, keys, nrH]) (by simp)
     subst hl; subst hn
     simp [subH, Tx.look, nrH, hPL, Dat.row]
   ·intro l n PL ⟨c1, c2, c3, c4, c5, c6⟩
    apply cutQ
    ·intro key2
     rintro ⟨j, i, q, S⟩ ⟨h1, h2, h3, h4, h5⟩
     simp only at h1 h2 h3 h4 h5 ⊢
     have nd1 : ∀ k, k < 1000000 → (10000 * (i + 1) = k) = False := fun k h => by apply eq_false; omega
     have nd2 : ∀ k, k < 1000000 → (k = 10000 * (i + 1)) = False := fun k h => by apply eq_false; omega
     have l_0 : (l = 0) = False := by apply eq_false; omega
     have n0_l : (0 = l) = False := by apply eq_false; omega
     have l_32 : (l = 32) = False := by apply eq_false; omega
     have n32_l : (32 = l) = False := by apply eq_false; omega
     have l_64 : (l = 64) = False := by apply eq_false; omega
     have n64_l : (64 = l) = False := by apply eq_false; omega
     have l_128 : (l = 128) = False := by apply eq_false; omega
     have n128_l : (128 = l) = False := by apply eq_false; omega
     have l_n1 : ∀ kk, (10000 * (i + 1) + kk = l) = False := fun kk => by apply eq_false; omega
     have l_n2 : ∀ kk, (l = 10000 * (i + 1) + kk) = False := fun kk => by apply eq_false; omega
     have l_n3 : (10000 * (i + 1) = l) = False := by apply eq_false; omega
     have l_n4 : (l = 10000 * (i + 1)) = False := by apply eq_false; omega
     have l_n5 : ∀ kk, ((⟨L + 1, l⟩ : Nm) == ⟨L + 1, 10000 * (i + 1) + kk⟩) = false := fun kk => by simp; omega
     have n_0 : (n = 0) = False := by apply eq_false; omega
     have n0_n : (0 = n) = False := by apply eq_false; omega
     have n_32 : (n = 32) = False := by apply eq_false; omega
     have n32_n : (32 = n) = False := by apply eq_false; omega
     have n_64 : (n = 64) = False := by apply eq_false; omega
     have n64_n : (64 = n) = False := by apply eq_false; omega
     have n_128 : (n = 128) = False := by apply eq_false; omega
     have n128_n : (128 = n) = False := by apply eq_false; omega
     have n_l : (n = l) = False := by apply eq_false; omega
     have nl_n : (l = n) = False := by apply eq_false; omega
     have n_n1 : ∀ kk, (10000 * (i + 1) + kk = n) = False := fun kk => by apply eq_false; omega
     have n_n2 : ∀ kk, (n = 10000 * (i + 1) + kk) = False := fun kk => by apply eq_false; omega
     have n_n3 : (10000 * (i + 1) = n) = False := by apply eq_false; omega
     have n_n4 : (n = 10000 * (i + 1)) = False := by apply eq_false; omega
     have n_n5 : ∀ kk, ((⟨L + 1, n⟩ : Nm) == ⟨L + 1, 10000 * (i + 1) + kk⟩) = false := fun kk => by simp; omega
     have q_0 : (q = 0) = False := by apply eq_false; omega
     have n0_q : (0 = q) = False := by apply eq_false; omega
     have q_32 : (q = 32) = False := by apply eq_false; omega
     have n32_q : (32 = q) = False := by apply eq_false; omega
     have q_64 : (q = 64) = False := by apply eq_false; omega
     have n64_q : (64 = q) = False := by apply eq_false; omega
     have q_128 : (q = 128) = False := by apply eq_false; omega
     have n128_q : (128 = q) = False := by apply eq_false; omega
     have q_l : (q = l) = False := by apply eq_false; omega
     have nl_q : (l = q) = False := by apply eq_false; omega
     have q_n : (q = n) = False := by apply eq_false; omega
     have nn_q : (n = q) = False := by apply eq_false; omega
     have q_n1 : ∀ kk, (10000 * (i + 1) + kk = q) = False := fun kk => by apply eq_false; omega
     have q_n2 : ∀ kk, (q = 10000 * (i + 1) + kk) = False := fun kk => by apply eq_false; omega
     have q_n3 : (10000 * (i + 1) = q) = False := by apply eq_false; omega
     have q_n4 : (q = 10000 * (i + 1)) = False := by apply eq_false; omega
     have q_n5 : ∀ kk, ((⟨L + 1, q⟩ : Nm) == ⟨L + 1, 10000 * (i + 1) + kk⟩) = false := fun kk => by simp; omega
     by_cases hj : j < lst.length
     ·have f1 : decide ((j : Int) < (lst.length : Int)) = true := dT (by omega)
      have r0 := getD_eI lst hj
      obtain ⟨b1, b2⟩ := u12 _ (List.getElem_mem hj)
      have e0 : lst.getD j 0 = lst[j] := by simp [List.getD_eq_getElem?_getD, hj]
      rw [e0] at r0
      obtain ⟨v, hv⟩ : ∃ v, v = lst[j] := ⟨_, rfl⟩
      rw [← hv] at r0 b1 b2
      have w1 : (j : Int).tmod 3 = ((j % 3 : Nat) : Int) := rfl
      have w2 : (a : Int).tmod 3 = ((a % 3 : Nat) : Int) := rfl
      have w3 : (a : Int).tmod 7 = ((a % 7 : Nat) : Int) := rfl
      have w4 : (v + ((a % 7 : Nat) : Int) + 65534).tmod 65536 = (v + ((a % 7 : Nat) : Int) + 65534) % 65536 := Int.tmod_eq_emod_of_nonneg (by omega)
      have w5 : v + (((a % 7 : Nat) : Int) + 65534) = v + ((a % 7 : Nat) : Int) + 65534 := by omega
      obtain ⟨e2, he2⟩ : ∃ e, e = (v + ((a % 7 : Nat) : Int) + 65534) % 65536 := ⟨_, rfl⟩
      rw [← he2] at w4
      cases hT : ((j % 3 : Nat) : Int) == ((a % 3 : Nat) : Int) with
      | false =>
       cases S with
       | nil =>
        simp only [f1, r0, eI, w1, w2, hT, nrH, Int.toNat_natCast, Nat.add_assoc, List.length_map, go_sem]
        repeat refine sd2 ?_
        refine ⟨⟨j + 1, i + 1, q, []⟩, ⟨by simp only []; omega, by simp only []; omega, by simp only [List.length_nil] at h3 ⊢; omega, by simp only []; omega, by simp only []; omega⟩, by simp only []; omega, ?_⟩
        refine Sub.o hF2 ?_
        simp [subH, Tx.look, l_0, l_32, l_64, l_128, n_0, n_32, n_64, n_128, n_l]
       | cons x S =>
        simp only [List.length_cons] at h3
        simp only [f1, r0, eI, w1, w2, hT, nrH, Int.toNat_natCast, Nat.add_assoc, List.length_map, go_sem]
        repeat refine sd2 ?_
        refine ⟨⟨j + 1, i + 1, q, x :: S⟩, ⟨by simp only []; omega, by simp only []; omega, by simp only [List.length_cons] at h3 ⊢; omega, by simp only []; omega, by simp only []; omega⟩, by simp only []; omega, ?_⟩
        refine Sub.o hF2 ?_
        simp [subH, Tx.look, kE, q_0, q_32, q_64, q_128, q_l, q_n, l_0, l_32, l_64, l_128, n_0, n_32, n_64, n_128, n_l]
      | true =>
       cases S with
       | nil =>
        simp only [f1, r0, eI, w1, w2, w3, w4, hT, nrH, Int.toNat_natCast, l_n1, n_0, n_32, n_64, n_128, n_l, n_n1, n_n2, nS2, Nat.add_assoc, List.length_map, go_sem]
        repeat refine sd2 ?_
        refine ⟨⟨j + 1, i + 1, 10000 * (i + 1) + 768, [((j : Int), e2)]⟩, ⟨by simp only []; omega, by simp only []; omega, by simp only [List.length_cons, List.length_nil] at h3 ⊢; omega, by simp only []; omega, by simp only []; omega⟩, by simp only []; omega, ?_⟩
        refine Sub.o hF2 ?_
        simp [subH, Tx.look, kE, l_0, l_32, l_64, l_128, l_n1, n_0, n_32, n_64, n_128, n_l, n_n1, nd1]
       | cons x S =>
        simp only [List.length_cons] at h3
        simp only [f1, r0, eI, w1, w2, w3, w4, hT, nrH, Int.toNat_natCast, l_n1, n_0, n_32, n_64, n_128, n_l, n_n1, n_n2, q_0, q_32, q_64, q_128, q_l, q_n, nn_q, q_n1, q_n2, q_n5, nS2, Nat.add_assoc, List.length_map, go_sem]
        repeat refine sd2 ?_
        refine ⟨⟨j + 1, i + 1, 10000 * (i + 1) + 768, x :: (S ++ [((j : Int), e2)])⟩, ⟨by simp only []; omega, by simp only []; omega, by simp only [List.length_append, List.length_cons, List.length_nil] at h3 ⊢; omega, by simp only []; omega, by simp only []; omega⟩, by simp only []; omega, ?_⟩
        refine Sub.o hF2 ?_
        simp [subH, Tx.look, kE, q_n1, l_0, l_32, l_64, l_128, l_n1, n_0, n_32, n_64, n_128, n_l, n_n1, nd1]
     ·have f1 : decide ((j : Int) < (lst.length : Int)) = false := dF (by omega)
      cases S with
      | nil =>
       simp only [f1, nrH, n0_l, n32_l, n64_l, n0_n, n32_n, n64_n, Nat.add_assoc, go_sem]
       repeat refine sd2 ?_
       refine CallVC.same (hss _ _ _) ?_
       simp only [Nat.add_assoc, go_sem]
       repeat refine sd2 ?_
       obtain ⟨Q, hQ⟩ : ∃ Q : List (Int × Int), Q = [] := ⟨_, rfl⟩
       have hQl : Q.length ≤ 16 := by rw [hQ]; simp only [List.length_nil] at h3 ⊢; omega
       refine loopK.intro _ _ (I := fun z : TsX => ⟨[none, none, none, none, none, none, none, none, none, none, none, none, some (.ptr ⟨L + 1, 128⟩ 0 0), none, none, none, some (.bool false), none, none, none, some (.sl ⟨L + 1, l⟩ 0 PL.length), none, none, none, some (.ptr ⟨L + 1, n⟩ 0 0), none, none, none, none, none, none, none, none, none, none, none, none, none, none, none, none, none, none, none, none, none, none, none, none, none, none, none, none, none, none, none, none, none, none, none, none, none, none, none, none, none, none, none, none, none, none, none, none, none, none, none, none, none, none, none, none, none, none, none, none, none, none, none, none, none, none, none, none, none, none, none, none, none, none, none, none, none, none, none, none, none, none, none, none, none, none, none, none, none, none, none, none, none, none, none, none, none, none, none, none, none, none, none, none, none, none, none, none, none, none, none, none, none, none, none, none, none, none, none, none, none, none, none, none, none, none, none, none, none, none, none, none, none, none, none, none, none, none, none, none, none, none, none, none, none, none, none, none, none, none, none, none, none, some (.agg ALL), some (.int .i64 z.x), none, none, none, none, none, none, none, none, none, none, none, none, none, none, none, none, none, none, none, none, none, none, none, none], [(⟨L + 1, 128⟩, .rows 63 2 true true [[.int .i64 cum, .fs 2 (sk2.map kE)]]), (⟨L + 1, l⟩, .rows 32 8 true true (PL.map Dat.row)), (⟨L + 1, n⟩, nrB cum2 Q)], 10000 * (z.i + 1)⟩) (pre := fun z => z.x ≤ 3 ∧ 200 ≤ z.i) (μ := fun z => 3 - z.x) ⟨0, i + 1⟩ ⟨by simp, by simp only []; omega⟩ ?_ ?_
       rotate_left
       ·exact key2 Q hQl
       refine Sub.o hF2 ?_
       simp [subH, Tx.look, nrB, hQ, l_0, l_32, l_64, l_128, n_0, n_32, n_64, n_128, n_l]
      | cons x S =>
       simp only [List.length_cons] at h3
       simp only [f1, nrH, n0_l, n32_l, n64_l, n0_n, n32_n, n64_n, Nat.add_assoc, go_sem]
       repeat refine sd2 ?_
       refine CallVC.same (hss _ _ _) ?_
       simp only [Nat.add_assoc, go_sem]
       repeat refine sd2 ?_
       obtain ⟨Q, hQ⟩ : ∃ Q : List (Int × Int), Q = x :: S := ⟨_, rfl⟩
       have hQl : Q.length ≤ 16 := by rw [hQ]; simp only [List.length_cons] at h3 ⊢; omega
       refine loopK.intro _ _ (I := fun z : TsX => ⟨[none, none, none, none, none, none, none, none, none, none, none, none, some (.ptr ⟨L + 1, 128⟩ 0 0), none, none, none, some (.bool false), none, none, none, some (.sl ⟨L + 1, l⟩ 0 PL.length), none, none, none, some (.ptr ⟨L + 1, n⟩ 0 0), none, none, none, none, none, none, none, none, none, none, none, none, none, none, none, none, none, none, none, none, none, none, none, none, none, none, none, none, none, none, none, none, none, none, none, none, none, none, none, none, none, none, none, none, none, none, none, none, none, none, none, none, none, none, none, none, none, none, none, none, none, none, none, none, none, none, none, none, none, none, none, none, none, none, none, none, none, none, none, none, none, none, none, none, none, none, none, none, none, none, none, none, none, none, none, none, none, none, none, none, none, none, none, none, none, none, none, none, none, none, none, none, none, none, none, none, none, none, none, none, none, none, none, none, none, none, none, none, none, none, none, none, none, none, none, none, none, none, none, none, none, none, none, none, none, none, none, none, none, none, none, none, none, some (.agg ALL), some (.int .i64 z.x), none, none, none, none, none, none, none, none, none, none, none, none, none, none, none, none, none, none, none, none, none, none, none, none], [(⟨L + 1, 128⟩, .rows 63 2 true true [[.int .i64 cum, .fs 2 (sk2.map kE)]]), (⟨L + 1, l⟩, .rows 32 8 true true (PL.map Dat.row)), (⟨L + 1, n⟩, nrB cum2 Q)], 10000 * (z.i + 1)⟩) (pre := fun z => z.x ≤ 3 ∧ 200 ≤ z.i) (μ := fun z => 3 - z.x) ⟨0, i + 1⟩ ⟨by simp, by simp only []; omega⟩ ?_ ?_
       rotate_left
       ·exact key2 Q hQl
       refine Sub.trans (Sub.freeze (n := ⟨L + 1, n⟩) (e := 63) (wd := 2) (o := true) (rs := [[.int .i64 cum2, .sl ⟨L + 1, q⟩ 0 (S.length + 1)]]) [[.int .i64 cum2, .fs 2 ((x :: S).map kE)]] (by simp [Tx.look, n_0, n_32, n_64, n_128, n_l]) (by simp [WkLL, WkL, Wk, Tx.look, List.take_of_length_le, q_0, q_32, q_64, q_128, q_l, q_n]) (by simp [wkNLL, wkNL, wkN, nn_q])) ?_
       refine Sub.of (hfz hF2) (by simp only [go_sem, subT, and_self, Int.natCast_zero]) ?_ (by simp [subK, keys, updH, setH, unown, wkNLL, wkNL, wkN, Tx.look, n0_l, n32_l, n64_l, l_128, n128_l, n_0, n0_n, n_32, n32_n, n_64, n64_n, n_128, n128_n, n_l, nl_n, q_0, q_32, q_64, q_128, q_l, q_n]) (by simp only []; omega)
       simp [subH, Tx.look, updH, setH, unown, wkNLL, wkNL, wkN, nrB, hQ, l_0, l_32, l_64, l_128, n_0, n_32, n_64, n_128, n_l, q_0, q_32, q_64, q_128, q_l, q_n]
    ·intro Q hQl
     rintro ⟨x, i⟩ ⟨h1, h2⟩
     simp only at h1 h2 ⊢
     have nd1 : ∀ k, k < 1000000 → (10000 * (i + 1) = k) = False := fun k h => by apply eq_false; omega
     have nd2 : ∀ k, k < 1000000 → (k = 10000 * (i + 1)) = False := fun k h => by apply eq_false; omega
     have l_0 : (l = 0) = False := by apply eq_false; omega
     have n0_l : (0 = l) = False := by apply eq_false; omega
     have l_32 : (l = 32) = False := by apply eq_false; omega
     have n32_l : (32 = l) = False := by apply eq_false; omega
     have l_64 : (l = 64) = False := by apply eq_false; omega
     have n64_l : (64 = l) = False := by apply eq_false; omega
     have l_128 : (l = 128) = False := by apply eq_false; omega
     have n128_l : (128 = l) = False := by apply eq_false; omega
     have l_n1 : ∀ kk, (10000 * (i + 1) + kk = l) = False := fun kk => by apply eq_false; omega
     have l_n2 : ∀ kk, (l = 10000 * (i + 1) + kk) = False := fun kk => by apply eq_false; omega
     have l_n3 : (10000 * (i + 1) = l) = False := by apply eq_false; omega
     have l_n4 : (l = 10000 * (i + 1)) = False := by apply eq_false; omega
     have l_n5 : ∀ kk, ((⟨L + 1, l⟩ : Nm) == ⟨L + 1, 10000 * (i + 1) + kk⟩) = false := fun kk => by simp; omega
     have n_0 : (n = 0) = False := by apply eq_false; omega
     have n0_n : (0 = n) = False := by apply eq_false; omega
     have n_32 : (n = 32) = False := by apply eq_false; omega
     have n32_n : (32 = n) = False := by apply eq_false; omega
     have n_64 : (n = 64) = False := by apply eq_false; omega
     have n64_n : (64 = n) = False := by apply eq_false; omega
     have n_128 : (n = 128) = False := by apply eq_false; omega
     have n128_n : (128 = n) = False := by apply eq_false; omega
     have n_l : (n = l) = False := by apply eq_false; omega
     have nl_n : (l = n) = False := by apply eq_false; omega
     have n_n1 : ∀ kk, (10000 * (i + 1) + kk = n) = False := fun kk => by apply eq_false; omega
     have n_n2 : ∀ kk, (n = 10000 * (i + 1) + kk) = False := fun kk => by apply eq_false; omega
     have n_n3 : (10000 * (i + 1) = n) = False := by apply eq_false; omega
     have n_n4 : (n = 10000 * (i + 1)) = False := by apply eq_false; omega
     have n_n5 : ∀ kk, ((⟨L + 1, n⟩ : Nm) == ⟨L + 1, 10000 * (i + 1) + kk⟩) = false := fun kk => by simp; omega
     by_cases hx : x < 3
     ·have f1 : decide ((x : Int) < 3) = true := dT (by omega)
      have hA := stA_at d b c hx
      have hle := stG_le hd b c x
      rw [← hALL] at hA
      obtain ⟨S, hS⟩ : ∃ y, y = stG d b c x := ⟨_, rfl⟩
      rw [← hS] at hA hle
      simp only [StX.cells] at hA
      have hle2 : S.Le 1000 := hle.mono (by omega)
      have hsk := fun F L nx => skips_ok (F := F) (L := L) (nx := nx) S hle2 cum sk2 (by omega)
      have hsn := fun F L nx => skips_ok (F := F) (L := L) (nx := nx) S hle2 cum2 Q (by omega)
      have htk := fun F L nx p => takes_ok (F := F) (L := L) (nx := nx) S hle2 p
      simp only [StX.v, strV, fwdP, Dat.row] at hsk hsn htk
      simp only [f1, hA, Int.toNat_natCast, l_n1, n_n1, nd1, Nat.add_assoc, go_sem]
      repeat refine sd2 ?_
      obtain ⟨y5, hy5⟩ : ∃ y, y = 10000 * (i + 1) + 64 := ⟨_, rfl⟩
      have hy6 : 2000000 ≤ y5 := by omega
      simp only [← hy5]
      refine loopK.intro _ _ (I := fun z : TsX => ⟨[none, none, none, none, none, none, none, none, none, none, none, none, some (.ptr ⟨L + 1, 128⟩ 0 0), none, none, none, some (.bool false), none, none, none, some (.sl ⟨L + 1, l⟩ 0 PL.length), none, none, none, some (.ptr ⟨L + 1, n⟩ 0 0), none, none, none, some (.ptr ⟨L + 1, y5⟩ 0 0), none, none, none, none, none, none, none, none, none, none, none, none, none, none, none, none, none, none, none, none, none, none, none, none, none, none, none, none, none, none, none, none, none, none, none, none, none, none, none, none, none, none, none, none, none, none, none, none, none, none, none, none, none, none, none, none, none, none, none, none, none, none, none, none, none, none, none, none, none, none, none, none, none, none, none, none, none, none, none, none, none, none, none, none, none, none, none, none, none, none, none, none, none, none, none, none, none, none, none, none, none, none, none, none, none, none, none, none, none, none, none, none, none, none, none, none, none, none, none, none, none, none, none, none, none, none, none, none, none, none, none, none, none, none, none, none, none, none, none, none, none, none, none, none, none, none, none, none, none, some (.agg ALL), some (.int .i64 x), none, none, some (.sl ⟨L + 1, l⟩ 0 PL.length), some (.int .i64 PL.length), some (.int .i64 z.x), none, none, none, none, none, none, none, none, none, none, none, none, none, none, none, none, none, none, none], [(⟨L + 1, 128⟩, .rows 63 2 true true [[.int .i64 cum, .fs 2 (sk2.map kE)]]), (⟨L + 1, l⟩, .rows 32 8 true true (PL.map Dat.row)), (⟨L + 1, n⟩, nrB cum2 Q), (⟨L + 1, y5⟩, .rows 41 6 true true [[.fs 1 (S.out.map eI), .fs 1 (S.inn.map eI), .fs 8 (S.ps.map Dat.row), .int .i64 S.num, .int .i64 S.seen, .fs 1 (S.asked.map eI)]])], 10000 * (z.i + 1)⟩)
       (pre := fun z => z.x ≤ PL.length ∧ 200 ≤ z.i ∧ y5 < 10000 * (z.i + 1)) (μ := fun z => PL.length - z.x) ⟨0, i + 1⟩ ⟨by simp, by simp only []; omega, by simp only []; omega⟩ ?_ ?_
      ·have z1 : (y5 = 128) = False := by apply eq_false; omega
       have z2 : (128 = y5) = False := by apply eq_false; omega
       have z3 : (y5 = l) = False := by apply eq_false; omega
       have z4 : (l = y5) = False := by apply eq_false; omega
       have z5 : (y5 = n) = False := by apply eq_false; omega
       have z6 : (n = y5) = False := by apply eq_false; omega
       refine Sub.o hF2 ?_
       simp [subH, Tx.look, z1, z3, z5, l_128, n_128, n_l]
      ·clear nd1 nd2 l_0 n0_l l_32 n32_l l_64 n64_l l_128 n128_l l_n1 l_n2 l_n3 l_n4 l_n5 n_0 n0_n n_32 n32_n n_64 n64_n n_128 n128_n n_l nl_n n_n1 n_n2 n_n3 n_n4 n_n5 hy5 h2 i
       rintro ⟨y, i⟩ ⟨g1, g2, g3⟩
       simp only at g1 g2 g3 ⊢
       have nd1 : ∀ k, k < 1000000 → (10000 * (i + 1) = k) = False := fun k h => by apply eq_false; omega
       have nd2 : ∀ k, k < 1000000 → (k = 10000 * (i + 1)) = False := fun k h => by apply eq_false; omega
       have l_0 : (l = 0) = False := by apply eq_false; omega
       have n0_l : (0 = l) = False := by apply eq_false; omega
       have l_32 : (l = 32) = False := by apply eq_false; omega
       have n32_l : (32 = l) = False := by apply eq_false; omega
       have l_64 : (l = 64) = False := by apply eq_false; omega
       have n64_l : (64 = l) = False := by apply eq_false; omega
       have l_128 : (l = 128) = False := by apply eq_false; omega
       have n128_l : (128 = l) = False := by apply eq_false; omega
       have l_n1 : ∀ kk, (10000 * (i + 1) + kk = l) = False := fun kk => by apply eq_false; omega
       have l_n2 : ∀ kk, (l = 10000 * (i + 1) + kk) = False := fun kk => by apply eq_false; omega
       have l_n3 : (10000 * (i + 1) = l) = False := by apply eq_false; omega
       have l_n4 : (l = 10000 * (i + 1)) = False := by apply eq_false; omega
       have l_n5 : ∀ kk, ((⟨L + 1, l⟩ : Nm) == ⟨L + 1, 10000 * (i + 1) + kk⟩) = false := fun kk => by simp; omega
       have n_0 : (n = 0) = False := by apply eq_false; omega
       have n0_n : (0 = n) = False := by apply eq_false; omega
       have n_32 : (n = 32) = False := by apply eq_false; omega
       have n32_n : (32 = n) = False := by apply eq_false; omega
       have n_64 : (n = 64) = False := by apply eq_false; omega
       have n64_n : (64 = n) = False := by apply eq_false; omega
       have n_128 : (n = 128) = False := by apply eq_false; omega
       have n128_n : (128 = n) = False := by apply eq_false; omega
       have n_l : (n = l) = False := by apply eq_false; omega
       have nl_n : (l = n) = False := by apply eq_false; omega
       have n_n1 : ∀ kk, (10000 * (i + 1) + kk = n) = False := fun kk => by apply eq_false; omega
       have n_n2 : ∀ kk, (n = 10000 * (i + 1) + kk) = False := fun kk => by apply eq_false; omega
       have n_n3 : (10000 * (i + 1) = n) = False := by apply eq_false; omega
       have n_n4 : (n = 10000 * (i + 1)) = False := by apply eq_false; omega
       have n_n5 : ∀ kk, ((⟨L + 1, n⟩ : Nm) == ⟨L + 1, 10000 * (i + 1) + kk⟩) = false := fun kk => by simp; omega
       have y5_128 : (y5 = 128) = False := by apply eq_false; omega
       have n128_y5 : (128 = y5) = False := by apply eq_false; omega
       have y5_l : (y5 = l) = False := by apply eq_false; omega
       have nl_y5 : (l = y5) = False := by apply eq_false; omega
       have y5_n : (y5 = n) = False := by apply eq_false; omega
       have nn_y5 : (n = y5) = False := by apply eq_false; omega
       have y5_n1 : ∀ kk, (10000 * (i + 1) + kk = y5) = False := fun kk => by apply eq_false; omega
       have y5_n2 : ∀ kk, (y5 = 10000 * (i + 1) + kk) = False := fun kk => by apply eq_false; omega
       have y5_n3 : (10000 * (i + 1) = y5) = False := by apply eq_false; omega
       have y5_n4 : (y5 = 10000 * (i + 1)) = False := by apply eq_false; omega
       have y5_n5 : ∀ kk, ((⟨L + 1, y5⟩ : Nm) == ⟨L + 1, 10000 * (i + 1) + kk⟩) = false := fun kk => by simp; omega
       by_cases hy : y < PL.length
       ·have f2 : decide ((y : Int) < (PL.length : Int)) = true := dT (by omega)
        have r0 := rowD hy
        obtain ⟨p, hp⟩ : ∃ p, p = PL[y] := ⟨_, rfl⟩
        rw [← hp] at r0
        simp only [f2, r0, Dat.row, Int.toNat_natCast, l_128, l_n1, nl_n, n_n1, y5_128, y5_l, nl_y5, y5_n, y5_n1, y5_n2, nd1, Nat.add_assoc, List.length_map, go_sem]
        repeat refine sd2 ?_
        refine CallVC.same (htk _ _ _ p) ?_
        simp only [Nat.add_assoc, go_sem]
        repeat refine sd2 ?_
        refine ⟨⟨y + 1, i + 1⟩, ⟨by simp only []; omega, by simp only []; omega, by simp only []; omega⟩, by simp only []; omega, ?_⟩
        refine Sub.o hF2 ?_
        simp [subH, Tx.look, l_128, n_128, n_l, y5_128, y5_l, y5_n]
       ·have f2 : decide ((y : Int) < (PL.length : Int)) = false := dF (by omega)
        cases Q with
        | nil =>
         simp only [List.map_nil] at hsn
         simp only [f2, nrB, n128_l, n128_n, y5_128, n128_y5, y5_l, y5_n, Nat.add_assoc, go_sem]
         repeat refine sd2 ?_
         refine CallVC.same (hsk _ _ _) ?_
         simp only [n_128, n_l, y5_128, y5_l, y5_n, nn_y5, Nat.add_assoc, go_sem]
         repeat refine sd2 ?_
         refine CallVC.gen (args2 := [.agg [.fs 1 (S.out.map eI), .fs 1 (S.inn.map eI), .fs 8 (S.ps.map Dat.row), .int .i64 S.num, .int .i64 S.seen, .fs 1 (S.asked.map eI)], .agg [.int .i64 cum2, .fs 2 []]]) (by simp [WkL, Wk]) (hsn _ _ _) ?_
         simp only [wkNL, wkN, unown, Nat.add_assoc, go_sem]
         repeat refine sd2 ?_
         refine ⟨⟨x + 1, i + 1⟩, ⟨by simp only []; omega, by simp only []; omega⟩, by simp only []; omega, ?_⟩
         refine Sub.o hF2 ?_
         simp [subH, Tx.look, l_128, n_128, n_l]
        | cons x9 Q =>
         simp only [f2, nrB, n128_l, n128_n, y5_128, n128_y5, y5_l, y5_n, Nat.add_assoc, go_sem]
         repeat refine sd2 ?_
         refine CallVC.same (hsk _ _ _) ?_
         simp only [n_128, n_l, y5_128, y5_l, y5_n, nn_y5, Nat.add_assoc, go_sem]
         repeat refine sd2 ?_
         refine CallVC.gen (args2 := [.agg [.fs 1 (S.out.map eI), .fs 1 (S.inn.map eI), .fs 8 (S.ps.map Dat.row), .int .i64 S.num, .int .i64 S.seen, .fs 1 (S.asked.map eI)], .agg [.int .i64 cum2, .fs 2 ((x9 :: Q).map kE)]]) (by simp [WkL, Wk]) (hsn _ _ _) ?_
         simp only [wkNL, wkN, unown, Nat.add_assoc, go_sem]
         repeat refine sd2 ?_
         refine ⟨⟨x + 1, i + 1⟩, ⟨by simp only []; omega, by simp only []; omega⟩, by simp only []; omega, ?_⟩
         refine Sub.o hF2 ?_
         simp [subH, Tx.look, l_128, n_128, n_l]
     ·have f1 : decide ((x : Int) < 3) = false := dF (by omega)
      simp only [f1, Nat.add_assoc, go_sem]
      exact .bool (.inr rfl) rfl rfl (by simp [UpdAll])
end Go.Proofs.YtfhhbkehlfipgaaGreat
end
