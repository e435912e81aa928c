/- Lemmas for the walk: GK85, GK91, GK92, GK93. -/
import Derived.Test.YtifhjhbfhdcahaaGreatP15
import Derived.Test.YtifhjhbfhdcahaaGreatP14
import Derived.Test.YtifhjhbfhdcahaaGreatP13
import Derived.Test.YtifhjhbfhdcahaaGreatP12
set_option linter.all false
section
namespace Go.Proofs.YtifhjhbfhdcahaaGreat
open Go.Tx
set_option maxRecDepth 100000
set_option maxHeartbeats 16000000
def zGs (key : List UInt8) (c : UInt8) (i : Nat) : List UInt8 := (List.range 64).map fun j => if j < i then key.getD j 0 ^^^ c else key.getD j 0
theorem zKN (key : List UInt8) (c : UInt8) (i : Nat) : (zGs key c i).length = 64 := by simp [zGs]
theorem zOJ (key : List UInt8) (c : UInt8) {i : Nat} (hi : i < 64) : (zGs key c i).getD i 0 = key.getD i 0 := by
 unfold zGs;rw [zH, zT, uW hi];simp
theorem zOK (key : List UInt8) (c : UInt8) {i : Nat} (hi : i < 64) : (zGs key c i).set i (key.getD i 0 ^^^ c) = zGs key c (i + 1) := by
 apply uM (by simp [zGs]);intro k h1 h2;have hk : k < 64 := by simpa [zGs] using h2
 rw [List.getElem_set];simp only [zGs, List.getElem_map, List.getElem_range];by_cases e : i = k;·subst e; simp
 ·rw [if_neg e];have : (k < i) = (k < i + 1) := by apply propext; omega
  simp only [this]
theorem zOL (key : List UInt8) (c : UInt8) : zGs key c 64 = zI2 key c := by
 apply uM (by simp [zGs, zI2]);intro k h1 h2;have hk : k < 64 := by simpa [zGs] using h1
 simp [zGs, zI2, hk]
theorem zMb {key : List UInt8} (c : UInt8) (h : key.length ≤ 64) : key ++ (List.replicate 64 (0 : UInt8)).drop key.length = zGs key c 0 := by
 apply uM (by simp [zGs]; omega);intro k h1 h2;have hk : k < 64 := by simpa [zGs] using h2
 simp only [zGs, List.getElem_map, List.getElem_range, Nat.not_lt_zero, if_false];rw [List.getElem_append];by_cases hkl : k < key.length;·rw [dif_pos hkl]; simp [zH, hkl]
 ·rw [dif_neg hkl, List.getElem_drop, List.getElem_replicate]; simp [zH, hkl]
theorem zFu (l : List UInt8) (i : Nat) (v : UInt8) : (l.map zBg).set i [.int .u8 ((v.toNat : Nat) : Int)] = (l.set i v).map zBg := by rw [List.map_set]; rfl
theorem zMc (l : List UInt8) {i : Nat} (h : i < l.length) : (l.map zBg).getD i [] = [.int .u8 (((l.getD i 0).toNat : Nat) : Int)] := by
 simp [zH, h, zBg]
theorem zR5 (a b : UInt8) : Sx.zE1 .xor .u8 ((a.toNat : Nat) : Int) ((b.toNat : Nat) : Int) = (((a ^^^ b).toNat : Nat) : Int) := by
 rw [zTE a.toNat_lt b.toNat_lt, UInt8.toNat_xor]
theorem zIn {F : SF} {L nx : Nat} (q : Nm) (hq : q.l ≤ L) (o pu : Bool) (key : List UInt8) (hk : key.length ≤ 64) (c : UInt8) (hF : F q = some (.rows 9 1 o pu [[.str key]])) : Con Tryz.prog 145 [.int .u8 ((c.toNat : Nat) : Int), .ptr q 0 0] F L nx nx (.str (zI2 key c)) [] [q] := by
 have z0 : ([[.int .u8 0], [.int .u8 0], [.int .u8 0], [.int .u8 0], [.int .u8 0], [.int .u8 0], [.int .u8 0], [.int .u8 0], [.int .u8 0], [.int .u8 0], [.int .u8 0], [.int .u8 0], [.int .u8 0], [.int .u8 0], [.int .u8 0], [.int .u8 0], [.int .u8 0], [.int .u8 0], [.int .u8 0], [.int .u8 0], [.int .u8 0], [.int .u8 0], [.int .u8 0], [.int .u8 0], [.int .u8 0], [.int .u8 0], [.int .u8 0], [.int .u8 0], [.int .u8 0], [.int .u8 0], [.int .u8 0], [.int .u8 0], [.int .u8 0], [.int .u8 0], [.int .u8 0], [.int .u8 0], [.int .u8 0], [.int .u8 0], [.int .u8 0], [.int .u8 0], [.int .u8 0], [.int .u8 0], [.int .u8 0], [.int .u8 0], [.int .u8 0], [.int .u8 0], [.int .u8 0], [.int .u8 0], [.int .u8 0], [.int .u8 0], [.int .u8 0], [.int .u8 0], [.int .u8 0], [.int .u8 0], [.int .u8 0], [.int .u8 0], [.int .u8 0], [.int .u8 0], [.int .u8 0], [.int .u8 0], [.int .u8 0], [.int .u8 0], [.int .u8 0], [.int .u8 0]] : List (List PV)) = (List.replicate 64 (0 : UInt8)).map zBg := by rw [List.map_replicate]; rfl
 have e0 : (key.map fun b : UInt8 => [PV.int .u8 ((b.toNat : Nat) : Int)]) = key.map zBg := rfl;have e1 : key.map zBg ++ List.drop key.length ((List.replicate 64 (0 : UInt8)).map zBg) = (zGs key c 0).map zBg := by
  rw [← List.map_drop, ← uJ, zMb c hk]
 have m1 : ∀ k, (q = (⟨L + 1, k⟩ : Nm)) = False := zAG hq;have m2 : ∀ k, ((⟨L + 1, k⟩ : Nm) = q) = False := zAE hq;refine bdy Tryz.f145 (hrd := (by simp; omega)) ?_;intro F3 hF1 hF2;have kq : F3 q = some (.rows 9 1 o pu [[.str key]]) := (hF1 q (by simp)).trans hF;have hml : ∀ i, ((zGs key c i).map zBg).length = 64 := fun i => by rw [zL, zKN]
 simp only [Tryz.f145, kq, m1, go_sem];repeat refine sd2 ?_
 rw [z0, e0, zL, e1];refine ⟨hk, ?_⟩;refine loopK.intro _ _ (I := fun i : Nat => ⟨[some (.int .u8 ((c.toNat : Nat) : Int)), some (.ptr q 0 0), none, none, some (.sl ⟨L + 1, 32⟩ 0 64), none, none, none, none, none, none, some (.int .i64 64), some (.int .i64 i)] ++ oz 12, [(⟨L + 1, 32⟩, .rows 5 1 true true ((zGs key c i).map zBg))], 10000 * (i + 1)⟩)
  (pre := fun i => i ≤ 64) (μ := fun i => 64 - i) 0 (by omega) ?_ ?_
 ·refine Sub.of (hfz hF2) (by simp only [go_sem, zA2, and_self, wX]; try trivial) ?_ (by simp [zA1, keys]) (by simp);simp [zAv, Tx.look]
 intro i hi;by_cases hlt : i < 64
 ·have g1 : decide ((i : Int) < 64) = true := dT (by omega);have gd := zMc (zGs key c i) (i := i) (by rw [zKN]; omega);rw [zOJ key c hlt] at gd;have hx := zR5 (key.getD i 0) c;have hs := zFu (zGs key c i) i (key.getD i 0 ^^^ c);rw [zOK key c hlt] at hs;simp only [g1, gd, hx, hs, hml, zE, go_sem];repeat refine sd2 ?_
  refine ⟨i + 1, by omega, by omega, ?_⟩;refine Sub.of (hfz hF2) (by simp only [go_sem, zA2, and_self, wW]; try trivial) ?_ (by simp [zA1, keys]) (by simp only []; omega);simp only [zAv, Tx.look, if_true, and_true]
 ·have g1 : decide ((i : Int) < 64) = false := dF (by omega);obtain rfl : i = 64 := by omega
  have hb := zBZ (zI2 key c);have ht : List.take 64 ((zI2 key c).map zBg) = (zI2 key c).map zBg := zW (by simp [zI2]);rw [zOL];have hl : ((zI2 key c).map zBg).length = 64 := by simp [zI2]
  simp only [g1, ht, hb, hl, go_sem];refine ⟨zEo _, ?_⟩;exact ps0
theorem zRX : W8 hT := by
 rw [zQu];exact W8.cons (by decide) (by decide) (by decide) (by decide) (by decide) (by decide) (by decide) (by decide)
theorem zMd : kT.length = 64 := by rw [kT, zL, zOB]
theorem zR6 (i : Nat) : kT.getD i 0 < M32 := by
 by_cases h : i < kT.length
 ·rw [zH, zN h, vT];simp only [kT, List.getElem_map];exact vB _ (by decide)
 ·rw [zH, vP (by omega)]; decide
theorem zP0 {F : SF} {L nx : Nat} (m : Nm) (hm : m.l ≤ L) (o p : Bool) (ls : List (List UInt8)) (hl : ls.length ≤ 100) (hs : ∀ s ∈ ls, s.length ≤ 10000) (hF : F m = some (.rows 9 1 o p (ls.map fun s => [.str s]))) :
  Con Tryz.prog 144 [.agg (hT.map eW ++ kT.map eW), .sl m 0 ls.length] F L nx nx (.str (zNL kT hT ls.flatten)) [] [m] := by
 have h := zQ8 (F := F) (L := L) (nx := nx) hT kT zRX zMd zR6 m hm o p ls hl hs hF;rw [zPz] at h;exact h
theorem zOM : ∀ l : List Nat, (zIg l).length = 4 * l.length := by
 intro l;induction l with
 | nil => rfl
 | cons a l ih => simp only [zIg, uS, zQ, wK, zAR] at ih ⊢; omega
theorem zKO (s : List UInt8) : (zNL kT hT s).length = 32 := by
 unfold zNL;rw [zOM, (zGf zRX _ _ _).1]
theorem zKP (key : List UInt8) (c : UInt8) : (zI2 key c).length = 64 := by simp [zI2]
theorem zKQ (key s : List UInt8) : (zPp kT hT key s).length = 32 := zKO _
theorem zON {F : SF} {L nx : Nat} (m : Nm) (hm : m.l ≤ L) (o : Bool) (key : List UInt8) (hk : key.length ≤ 64) (ls : List (List UInt8)) (hl : ls.length ≤ 90) (hs : ∀ s ∈ ls, s.length ≤ 10000) (hF : F m = some (.rows 9 1 o true (ls.map fun s => [.str s]))) :
  Con Tryz.prog 129 [.agg (hT.map eW ++ kT.map eW), .str key, .sl m 0 ls.length] F L nx nx (.str (zPp kT hT key ls.flatten)) [] [m] := by
 have w1 := fun (q : Nm) (hq : q.l ≤ L + 1) (F : SF) (nx : Nat) (hF : F q = _) => zIn (F := F) (L := L + 1) (nx := nx) q hq true true key hk 92 hF
 have w2 := fun (q : Nm) (hq : q.l ≤ L + 1) (F : SF) (nx : Nat) (hF : F q = _) => zIn (F := F) (L := L + 1) (nx := nx) q hq true true key hk 54 hF
 have l1 : (hT.map eW ++ kT.map eW).length = 72 := by rw [zQ, zL, zL, zMd, zRX.1]
 have n1 : nfl (hT.map eW ++ kT.map eW) = true := by rw [zGe, zFG, zFG]; rfl
 have su := fun (q : Nm) (hq : q.l ≤ L + 1) (F : SF) (nx : Nat) (ls : List (List UInt8)) (hl : ls.length ≤ 100) (hs : ∀ s ∈ ls, s.length ≤ 10000) (hF : F q = _) => zP0 (F := F) (L := L + 1) (nx := nx) q hq true true ls hl hs hF
 have hk5 := zKP key 54;have hk9 := zKP key 92;obtain ⟨k5, e5⟩ : ∃ k, k = zI2 key 54 := ⟨_, rfl⟩;obtain ⟨k9, e9⟩ : ∃ k, k = zI2 key 92 := ⟨_, rfl⟩;have hin := zKO (k5 ++ ls.flatten);have hmac : zPp kT hT key ls.flatten = zNL kT hT (k9 ++ zNL kT hT (k5 ++ ls.flatten)) := by rw [e5, e9]; rfl
 rw [← e5] at hk5 w2;rw [← e9] at hk9 w1;obtain ⟨mk, hmk⟩ : ∃ mk, mk = hT.map eW ++ kT.map eW := ⟨_, rfl⟩;rw [← hmk] at l1 n1 su ⊢;rw [hmac];refine bdy Tryz.f129 (hrd := (by simp; omega)) ?_;intro F3 hF1 hF2;have kq : F3 m = some (.rows 9 1 o true (ls.map fun s => [.str s])) := (hF1 m (by simp)).trans hF;have m1 : ∀ k, (m = (⟨L + 1, k⟩ : Nm)) = False := zAG hm;have m2 : ∀ k, ((⟨L + 1, k⟩ : Nm) = m) = False := zAE hm;have b1 : ∀ k, ((⟨L + 1, k⟩ : Nm) == m) = false := fun k => by rw [beq_eq_false_iff_ne]; intro h; rw [m2 k] at h; exact h
 have tl : List.take ls.length (ls.map fun s => [PV.str s]) = ls.map fun s => [PV.str s] := zW (by simp)
 have hll : (ls.map fun s => [PV.str s]).length = ls.length := zL ..;have f1 : decide ((key.length : Int) > 64) = false := dF (by omega);have f1' : decide ((64 : Int) < (key.length : Int)) = false := dF (by omega);simp only [Tryz.f129, l1, n1, f1, go_sem];repeat refine sd2 ?_
 refine CallVC.same (w1 ⟨L + 1, 32⟩ (by simp) _ _ (by simp [Tx.look])) ?_;simp only [go_sem];repeat refine sd2 ?_
 refine CallVC.same (w2 ⟨L + 1, 32⟩ (by simp) _ _ (by simp [Tx.look])) ?_;simp only [kq, m1, b1, tl, hll, go_sem];repeat refine sd2 ?_
 have s1 := su ⟨L + 1, 448⟩ (by simp);have q1 := fun (F : SF) (nx : Nat) (hF : F _ = _) => s1 F nx (k5 :: ls) (by simp; omega) (by intro s hm; rcases List.mem_cons.1 hm with rfl | hm; omega; exact hs s hm) hF
 rw [wK, Nat.add_comm ls.length 1] at q1;refine CallVC.same (q1 _ _ (by simp [Tx.look])) ?_;simp only [List.flatten_cons, go_sem];repeat refine sd2 ?_
 have s2 := su ⟨L + 1, 480⟩ (by simp);have q2 := fun (F : SF) (nx : Nat) (hF : F _ = _) => s2 F nx [k9, zNL kT hT (k5 ++ ls.flatten)] (by simp) (by intro s hm; simp only [zS, wH, or_false] at hm; rcases hm with rfl | rfl <;> omega) hF
 refine CallVC.same (q2 _ _ (by simp [Tx.look])) ?_;simp only [List.flatten_cons, List.flatten_nil, go_sem];repeat refine sd2 ?_
 refine ⟨zDt m2, ?_⟩;exact ps0
theorem zP1 {F : SF} {L nx : Nat} (key s : List UInt8) (hk : key.length ≤ 64) (hs : s.length ≤ 4096) : Con Tryz.prog 96 [.str key, .str s] F L nx nx (.tup [.str (zPp kT hT key s), .int .i64 0]) [] [] := by
 have lo := fun (q : Nm) (hq : q.l ≤ L + 1) (F : SF) (nx : Nat) (hF : F q = _) => zPt (F := F) (L := L + 1) (nx := nx) q hq true true [key, s] (by simp) (by intro x hx; simp only [zS, wH, or_false] at hx; rcases hx with rfl | rfl <;> omega) hF
 have mm := fun (q : Nm) (hq : q.l ≤ L + 1) (F : SF) (nx : Nat) (hF : F q = _) => zON (F := F) (L := L + 1) (nx := nx) q hq true key hk [s] (by simp) (by intro x hx; simp only [zS, wH, or_false] at hx; subst hx; omega) hF
 have md := fun (F : SF) (nx : Nat) => zPs (F := F) (L := L + 1) (nx := nx)
 have l1 : (hT.map eW ++ kT.map eW).length = 72 := by rw [zQ, zL, zL, zMd, zRX.1]
 have n1 : nfl (hT.map eW ++ kT.map eW) = true := by rw [zGe, zFG, zFG]; rfl
 obtain ⟨mk, hmk⟩ : ∃ mk, mk = hT.map eW ++ kT.map eW := ⟨_, rfl⟩;rw [← hmk] at l1 n1;simp only [← hmk] at mm md;refine bdy Tryz.f96 ?_;intro F3 hF1 hF2;simp only [Tryz.f96, go_sem];repeat refine sd2 ?_
 refine CallVC.same (lo ⟨L + 1, 128⟩ (by simp) _ _ (by simp [Tx.look])) ?_;simp only [go_sem];repeat refine sd2 ?_
 refine CallVC.same (md _ _) ?_;simp only [go_sem];repeat refine sd2 ?_
 refine CallVC.same (mm ⟨L + 1, 224⟩ (by simp) _ _ (by simp [Tx.look])) ?_;simp only [List.flatten_cons, List.flatten_nil, vS, go_sem];repeat refine sd2 ?_
 exact ps0 (hf := by simp [Tx.nf, nfl, Bool.and_true])
def zEq (ps : List (Nat × Nat)) : List UInt8 := ps.flatMap fun p => zAf p.1 p.2
def zH8 (ps : List (Nat × Nat)) : List (List PV) := ps.flatMap fun p => [[.int .i64 (p.1 : Int)], [.int .i64 (p.2 : Int)]]
theorem zMe (ps : List (Nat × Nat)) : (zH8 ps).length = 2 * ps.length := by
 induction ps with
 | nil => rfl
 | cons p ps ih => simp only [zH8, uS, zQ, wK, wE] at ih ⊢; omega
theorem zMf (ps : List (Nat × Nat)) : ∀ {i : Nat} (h : i < ps.length), (zH8 ps).getD (2 * i) [] = [.int .i64 ((ps.getD i (0, 0)).1 : Int)] ∧ (zH8 ps).getD (2 * i + 1) [] = [.int .i64 ((ps.getD i (0, 0)).2 : Int)] := by
 induction ps with
 | nil => intro i h; simp at h
 | cons p ps ih =>
  intro i h;cases i with
  | zero => exact ⟨rfl, rfl⟩
  | succ i =>
   have := ih (i := i) (by simpa using h);simp only [zH8, uS, zI, zC] at this ⊢;rw [show 2 * (i + 1) = 2 * i + 1 + 1 by omega];simp only [uD];exact this
theorem zIo : ∀ ps : List (Nat × Nat), (∀ q ∈ ps, 1 ≤ q.1 ∧ q.1 ≤ 7 ∧ q.2 < 256 ^ q.1) → (zEq ps).length ≤ 7 * ps.length
 | [], _ => by simp [zEq]
 | p :: ps, h => by
  have h1 := zIo ps fun q hq => h q (by simp [hq])
  have h2 := (h p (by simp)).2.1;simp only [zEq, uS, zQ, zAR, wK] at h1 ⊢;omega
theorem zHQ {F : SF} {L nx : Nat} (m : Nm) (hm : m.l ≤ L) (o p : Bool) (ps : List (Nat × Nat)) (hl : ps.length ≤ 10) (hs : ∀ q ∈ ps, 1 ≤ q.1 ∧ q.1 ≤ 7 ∧ q.2 < 256 ^ q.1) (hF : F m = some (.rows 3 1 o p (zH8 ps))) :
  Con Tryz.prog 95 [.sl m 0 (2 * ps.length)] F L nx nx (.str (zEq ps)) [] [m] := by
 have hrl := zMe ps;have m1 : ∀ k, (m = (⟨L + 1, k⟩ : Nm)) = False := zAG hm;have m2 : ∀ k, ((⟨L + 1, k⟩ : Nm) = m) = False := zAE hm;refine bdy Tryz.f95 (hrd := (by simp; omega)) ?_;intro F3 hF1 hF2;have kq : F3 m = some (.rows 3 1 o p (zH8 ps)) := (hF1 m (by simp)).trans hF;simp only [Tryz.f95, go_sem];repeat refine sd2 ?_
 refine loopK.intro _ _ (I := fun i : Nat => ⟨[some (.sl m 0 (2 * ps.length)), none, none, some (.str (zEq (ps.take i))), some (.int .i64 (2 * i))] ++ oz 26, [], 10000 * (i + 1)⟩)
  (pre := fun i => i ≤ ps.length) (μ := fun i => ps.length - i) 0 (by omega) ?_ ?_
 ·refine Sub.of (hfz hF2) (by simp only [go_sem, zA2, and_self, wX, zEq, List.take_zero, List.flatMap_nil, Int.mul_zero]; try trivial) ?_ (by simp [zA1]) (by simp);simp [zAv]
 intro i hi;by_cases hlt : i < ps.length
 ·have g1 : decide ((2 * (i : Int) + 1) < ((2 * ps.length : Nat) : Int)) = true := dT (by omega);have t1 : (2 * (i : Int)).toNat = 2 * i := by omega
  have t2 : (2 * (i : Int) + 1).toNat = 2 * i + 1 := by omega
  obtain ⟨r1, r2⟩ := zMf ps hlt;have hq := hs _ (uT hlt);have hg : ps.getD i (0, 0) = ps[i] := by simp [zH, hlt]
  rw [hg] at r1 r2;have hj : zEq (ps.take (i + 1)) = zEq (ps.take i) ++ zAf ps[i].1 ps[i].2 := by
   rw [qP hlt, zEq, zEq, List.flatMap_append, uS, List.flatMap_nil, vS]
  obtain ⟨⟨a, b⟩, hab⟩ : ∃ q, q = ps[i] := ⟨_, rfl⟩;rw [← hab] at r1 r2 hq hj;simp only at r1 r2 hq hj;have hp := fun F L nx => zL4 (F := F) (L := L) (nx := nx) a b hq.1 hq.2.1 hq.2.2
  simp only [g1, kq, t1, t2, r1, r2, hrl, zE, go_sem];repeat refine sd2 ?_
  refine CallVC.same (hp _ _ _) ?_;simp only [zE, go_sem];repeat refine sd2 ?_
  have hj2 := zIo (ps.take i) fun q hq => hs q (vD hq)
  have hj3 : (ps.take i).length ≤ 10 := by rw [vG]; omega
  refine ⟨zAF (fun _ => 0) (by simp only [zCb, List.map]; kernel_rfl), by rw [zAR]; omega, ⟨by omega, by omega⟩, i + 1, by omega, by omega, ?_⟩;rw [hj];refine Sub.of (hfz hF2) (by simp only [go_sem, zA2, and_self, wW, show 2 * ((i : Int) + 1) = 2 * (i : Int) + 2 by omega]; try trivial) ?_ (by simp [zA1]) (by simp only []; omega);simp [zAv]
 ·obtain rfl : i = ps.length := by omega
  have g1 : decide ((2 * (ps.length : Int) + 1) < ((2 * ps.length : Nat) : Int)) = false := dF (by omega);rw [List.take_length];simp only [g1, zE, go_sem];repeat refine sd2 ?_
  exact ps0
def Gx.mrow (g : Gx) (now : Int) (o : PV) : List PV := g.row ++ [.int .i64 now, o]
theorem zHR {F : SF} {L nx : Nat} (m : Nm) (hm : m.l ≤ L) (ow : Bool) (g : Gx) (now : Int) (u : PV) (body : List UInt8) (t : Nat) (ht : t < 256 ^ 6) (hb : body.length ≤ 1000) (h1 : 0 ≤ g.own.tag ∧ g.own.tag < 4294967296) (h2 : 0 ≤ g.fr ∧ g.fr < 65536) (h3 : 0 ≤ g.tt ∧ g.tt < 65536) (hs : g.sec.length ≤ 64) (hF : F m = some (.rows 123 22 ow true [g.mrow now u])) :
  Con Tryz.prog 52 [.ptr m 0 0, .str body, .int .i64 t] F L nx nx (.str (ckS g body t)) [] [m] := by
 obtain ⟨tg, htg⟩ : ∃ x : Nat, g.own.tag = x := ⟨g.own.tag.toNat, by omega⟩;obtain ⟨fr, hfr⟩ : ∃ x : Nat, g.fr = x := ⟨g.fr.toNat, by omega⟩;obtain ⟨tt, htt⟩ : ∃ x : Nat, g.tt = x := ⟨g.tt.toNat, by omega⟩;have j1 := fun (q : Nm) (hq : q.l ≤ L + 1) (F : SF) (nx : Nat) (hF : F q = _) => zHQ (F := F) (L := L + 1) (nx := nx) q hq true true [(6, t)] (by simp) (by intro q hq; simp only [zS, wH, or_false] at hq; subst hq; exact ⟨by simp, by simp, ht⟩) hF
 have j2 := fun (q : Nm) (hq : q.l ≤ L + 1) (F : SF) (nx : Nat) (hF : F q = _) => zHQ (F := F) (L := L + 1) (nx := nx) q hq true true [(4, tg), (2, fr), (2, tt)] (by simp) (by
  intro q hq; simp only [zS, wH, or_false] at hq;rcases hq with rfl | rfl | rfl;·exact ⟨by simp, by simp, by simp only []; omega⟩
  ·exact ⟨by simp, by simp, by simp only []; omega⟩
  ·exact ⟨by simp, by simp, by simp only []; omega⟩) hF
 have e1 : zEq [(6, t)] = zAf 6 t := by simp [zEq]
 have e2 : zEq [(4, tg), (2, fr), (2, tt)] = zAf 4 tg ++ (zAf 2 fr ++ zAf 2 tt) := by simp [zEq]
 rw [e1] at j1;rw [e2] at j2;obtain ⟨s, hs9⟩ : ∃ s, s = zAf 6 t ++ body ++ (zAf 4 tg ++ (zAf 2 fr ++ zAf 2 tt)) := ⟨_, rfl⟩;have hsl : s.length = body.length + 14 := by rw [hs9]; simp only [zQ, zAR]; omega
 have hmac := fun F L nx => zP1 (F := F) (L := L) (nx := nx) g.sec s hs (by omega)
 have hml := zKQ g.sec s;have hck : ckS g body t = s ++ zPp kT hT g.sec s := by
  unfold ckS;rw [htg, hfr, htt];simp only [Int.toNat_natCast, hs9, vU]
 rw [hck];obtain ⟨mc, hmc⟩ : ∃ x, x = zPp kT hT g.sec s := ⟨_, rfl⟩;rw [← hmc] at hml ⊢;simp only [← hmc] at hmac;have m1 : ∀ k, (m = (⟨L + 1, k⟩ : Nm)) = False := zAG hm;have m2 : ∀ k, ((⟨L + 1, k⟩ : Nm) = m) = False := zAE hm;simp only [Gx.mrow, Gx.row, htg, hfr, htt] at hF;refine bdy Tryz.f52 (hrd := (by simp; omega)) ?_;intro F3 hF1 hF2;have kq := (hF1 m (by simp)).trans hF;simp only [Tryz.f52, go_sem];repeat refine sd2 ?_
 refine CallVC.same (j1 ⟨L + 1, 64⟩ (by simp) _ _ (by simp [zH8])) ?_;simp only [kq, m1, go_sem];repeat refine sd2 ?_
 refine ⟨by rw [zAR]; omega, CallVC.same (j2 ⟨L + 1, 672⟩ (by simp) _ _ (by simp [zH8])) ?_⟩;simp only [kq, m1, go_sem];repeat refine sd2 ?_
 have hs8 : zAf 6 t ++ body ++ (zAf 4 tg ++ (zAf 2 fr ++ zAf 2 tt)) = s := hs9.symm;refine ⟨by simp only [zQ, zAR]; omega, zDt m2, ?_⟩;simp only [hs8, go_sem];repeat refine sd2 ?_
 refine CallVC.same (hmac _ _ _) ?_;simp only [go_sem];repeat refine sd2 ?_
 exact ps0
theorem zH9 (g : Gx) (body : List UInt8) (t : Int) : (ckS g body t).length = body.length + 46 := by
 unfold ckS;simp only [zQ, zAR, zKQ];omega
theorem zUZ {g : Gx} (h : g.ok = true) : g.hd = true := by
 unfold Gx.ok at h;simp only [zG] at h;exact h.1.1
theorem zMg {n : Int} (h : zBP 32 n = true) : 0 ≤ n ∧ n < 4294967296 := by
 unfold zBP at h; simp at h; omega
theorem zGg {d : Ini} (h : zAh d = true) : d.ok = true ∧ d.ck = [] := by
 unfold zAh at h;simp only [zG, beq_iff_eq] at h;exact h
theorem zT6 {d : Ini} (h : d.ok = true) : 0 < d.tag ∧ d.tag < 4294967296 := by
 unfold Ini.ok at h;simp only [zG, decide_eq_true_eq] at h;have := zMg h.1.1;omega
theorem zB8 (t : Int) : zGc t = true ↔ 0 ≤ t ∧ t ≤ 1099511627776 := by unfold zGc; simp
theorem zOO (p : Pkx) : zAz [p] = .fs 4 [(pR p)] := rfl
theorem zDy {F : SF} {L nx : Nat} (m : Nm) (hm : m.l ≤ L) (g : Gx) (now tag : Int) (c : Ckx) (hF : F m = some (.rows 123 22 true true [g.mrow now .nilS])) :
  Con Tryz.prog 130 [.ptr m 0 0, .int .i64 tag, .agg c.row] F L nx nx (.tup []) [(m, .rows 123 22 true true [g.mrow now (zAz (zBI g tag c))])] [m] := by
 have m1 : ∀ k, (m = (⟨L + 1, k⟩ : Nm)) = False := zAG hm;have m2 : ∀ k, ((⟨L + 1, k⟩ : Nm) = m) = False := zAE hm;simp only [Gx.mrow, Gx.row, Ckx.row, zI, zC] at hF ⊢;show Con _ _ _ F L nx (nx + 0) _ _ _;refine zTb (zBp (L + 1)) rfl rfl (fn := Tryz.f130) (c := Tryz.f130.body.getD .skip) (by kernel_rfl) (by rfl) (by kernel_rfl) rfl  (by simp; omega) ?_;intro F3 hF1 hF2;have kq := (hF1 m (by simp)).trans hF;refine vcu ⟨[some (.ptr m 0 0), some (.int .i64 tag), none, none, none, some (.ptr ⟨L + 1, 0⟩ 0 0)] ++ oz 23, [(⟨L + 1, 0⟩, .rows 73 3 true true [c.row])], 10000⟩ ?_ ?_
 ·simp only [Tryz.f130, go_sem];repeat refine sd2 ?_
  refine ⟨(), (so0 hF2 (h2 := by simp [zAv, Tx.look, Ckx.row]))⟩
 refine VT.of (zBp (L + 1)) ?_;simp only [Tryz.f130, kq, m1, Ckx.row, go_sem];repeat refine sd2 ?_
 refine ⟨zDt m2, ?_⟩;refine ⟨_, (zT5 ⟨L + 1, 10640⟩ (e := 38) (wd := 4) (o := true) (p := false) (row := [.int .i64 g.fr, .int .i64 g.tt, .int .i64 tag, .sl ⟨L + 1, 10544⟩ 0 1]) [.int .i64 g.fr, .int .i64 g.tt, .int .i64 tag, .fs 3 [[.int .i64 c.kd, .int .i64 c.fl, .str c.bd]]] (by simp [Tx.look]) rfl (by simp [Wk, WkL, Tx.look]) (by simp [zAu, wkN]) (by simp [nfl, Tx.nf])).trans
  (zT5 m (e := 123) (wd := 22) (o := true) (p := false) (row := (gR g [.int .i64 now, .sl ⟨L + 1, 10640⟩ 0 1])) (gR g [.int .i64 now, .fs 4 [[.int .i64 g.fr, .int .i64 g.tt, .int .i64 tag, .fs 3 [[.int .i64 c.kd, .int .i64 c.fl, .str c.bd]]]]]) (by simp [Tx.look, zAs, setH, unown, zAu, wkN, m1]) rfl (by simp [Wk, WkL, Tx.look, zAs, setH, unown, zAu, wkN]) (by simp [zAu, wkN, m1]) (by simp [nfl, Tx.nf])), ?_⟩
 simp only [Tx.look, zAs, setH, unown, zAu, wkN, m1, m2, zI, zC, zOO, zBI, List.map, Ckx.row, go_sem];refine .val [] (.inl rfl) (by simp) (p := True) (v0 := .tup []) ?_ trivial ?_ ?_ ⟨hm, ?_, trivial⟩ ?_;·simp only [go_sem]
 ·simp [nmA, zCj]
 ·simp [Tx.rn, Tx.rnL]
 ·rw [zFa];exact .pure (by simp [Tx.look, m1])
 ·simp [UpdAll, keys]
theorem zDj {F : SF} {L nx : Nat} (m : Nm) (hm : m.l ≤ L) (g : Gx) (now : Int) (u : PV) (s : Int) (hn : 0 ≤ now ∧ now ≤ 1099511627776) (hF : F m = some (.rows 123 22 true true [g.mrow now u])) :
  Con Tryz.prog 97 [.ptr m 0 0, .int .i64 s] F L nx nx (.tup []) [(m, .rows 123 22 true true [(zAJ g s now).mrow now u])] [m] := by
 have m1 : ∀ k, (m = (⟨L + 1, k⟩ : Nm)) = False := zAG hm;have m2 : ∀ k, ((⟨L + 1, k⟩ : Nm) = m) = False := zAE hm;simp only [Gx.mrow, Gx.row, zAJ, zI, zC] at hF ⊢;refine bdy Tryz.f97 (hrd := (by simp; omega)) ?_;intro F3 hF1 hF2;have kq := (hF1 m (by simp)).trans hF;simp only [Tryz.f97, kq, go_sem];repeat refine sd2 ?_
 exact po0 (.tup []) ⟨hm, by simp [Tx.look, BW], trivial⟩
theorem zB9 {F : SF} {L nx : Nat} (m : Nm) (hm : m.l ≤ L) (g : Gx) (now : Int) (u : PV) (s : Int) (hF : F m = some (.rows 123 22 true true [g.mrow now u])) :
  Con Tryz.prog 100 [.ptr m 0 0, .int .i64 s] F L nx nx (.tup []) [(m, .rows 123 22 true true [(zAW g s).mrow now u])] [m] := by
 have m1 : ∀ k, (m = (⟨L + 1, k⟩ : Nm)) = False := zAG hm;have m2 : ∀ k, ((⟨L + 1, k⟩ : Nm) = m) = False := zAE hm;simp only [Gx.mrow, Gx.row, zAW, zI, zC] at hF ⊢;refine bdy Tryz.f100 (hrd := (by simp; omega)) ?_;intro F3 hF1 hF2;have kq := (hF1 m (by simp)).trans hF;simp only [Tryz.f100, kq, go_sem];repeat refine sd2 ?_
 exact po0 (.tup []) ⟨hm, by simp [Tx.look, BW], trivial⟩
theorem zCg {F : SF} {L nx : Nat} (m : Nm) (hm : m.l ≤ L) (g : Gx) (now k : Int) (hF : F m = some (.rows 123 22 true true [g.mrow now .nilS])) :
  Con Tryz.prog 99 [.ptr m 0 0, .int .i64 k] F L nx nx (.tup []) [(m, .rows 123 22 true true [g.mrow now (zAz (zAr g k))])] [m] := by
 have m1 : ∀ k, (m = (⟨L + 1, k⟩ : Nm)) = False := zAG hm;have m2 : ∀ k, ((⟨L + 1, k⟩ : Nm) = m) = False := zAE hm;have hc := fun (F : SF) (nx : Nat) (hF : F m = _) => zDy (F := F) (L := L + 1) (nx := nx) m (by omega) g now g.peer.tag ⟨k, 0, []⟩ hF
 unfold zAr;obtain ⟨o, ho⟩ : ∃ o, o = zAz (zBI g g.peer.tag ⟨k, 0, []⟩) := ⟨_, rfl⟩;rw [← ho];simp only [← ho] at hc;simp only [Gx.mrow, Gx.row, Ckx.row, zI, zC] at hF hc ⊢;refine bdy Tryz.f99 (hrd := (by simp; omega)) ?_;intro F3 hF1 hF2;have kq := (hF1 m (by simp)).trans hF;simp only [Tryz.f99, kq, go_sem];repeat refine sd2 ?_
 refine CallVC.same (hc _ _ (by simp [kq])) ?_;simp only [go_sem];repeat refine sd2 ?_
 exact po0 (.tup []) ⟨hm, by simp [Tx.look, BW], trivial⟩
theorem zCZ {F : SF} {L nx : Nat} (m : Nm) (hm : m.l ≤ L) (g : Gx) (now : Int) (hg : g.own.ok = true ∧ g.own.ck = []) (hF : F m = some (.rows 123 22 true true [g.mrow now .nilS])) :
  Con Tryz.prog 98 [.ptr m 0 0] F L nx nx (.tup []) [(m, .rows 123 22 true true [g.mrow now (zAz (zAl g))])] [m] := by
 have m1 : ∀ k, (m = (⟨L + 1, k⟩ : Nm)) = False := zAG hm;have m2 : ∀ k, ((⟨L + 1, k⟩ : Nm) = m) = False := zAE hm;unfold zAl;by_cases h2 : g.st = 2
 ·rw [if_pos h2];have hI := fun F L nx => zDw (F := F) (L := L) (nx := nx) g.own
  rw [hg.1, if_pos rfl, hg.2, show zEv [] = 1 from rfl] at hI;have hc := fun (F : SF) (nx : Nat) (hF : F m = _) => zDy (F := F) (L := L + 1) (nx := nx) m (by omega) g now 0 ⟨1, 0, g.own.oct⟩ hF
  obtain ⟨o, ho⟩ : ∃ o, o = zAz (zBI g 0 ⟨1, 0, g.own.oct⟩) := ⟨_, rfl⟩;rw [← ho];simp only [← ho] at hc;have s2 : (g.st == 2) = true := by simp; omega
  simp only [Gx.mrow, Gx.row, Ckx.row, Ini.row, zI, zC] at hF hc hI ⊢;refine bdy Tryz.f98 (hrd := (by simp; omega)) ?_;intro F3 hF1 hF2;have kq := (hF1 m (by simp)).trans hF;simp only [Tryz.f98, kq, s2, go_sem];repeat refine sd2 ?_
  refine CallVC.same (hI _ _ _) ?_;simp only [go_sem];repeat refine sd2 ?_
  refine CallVC.same (hc _ _ (by simp [kq, m1])) ?_;simp only [m1, go_sem];repeat refine sd2 ?_
  exact po0 (.tup []) ⟨hm, by simp [Tx.look, BW, m1], trivial⟩
 rw [if_neg h2];have s2 : (g.st == 2) = false := by simp; omega
 by_cases h3 : g.st = 3
 ·rw [if_pos h3];have hc := fun (F : SF) (nx : Nat) (hF : F m = _) => zDy (F := F) (L := L + 1) (nx := nx) m (by omega) g now g.peer.tag ⟨10, 0, g.ck⟩ hF
  obtain ⟨o, ho⟩ : ∃ o, o = zAz (zBI g g.peer.tag ⟨10, 0, g.ck⟩) := ⟨_, rfl⟩;rw [← ho];simp only [← ho] at hc;have s3 : (g.st == 3) = true := by simp; omega
  simp only [Gx.mrow, Gx.row, Ckx.row, zI, zC] at hF hc ⊢;refine bdy Tryz.f98 (hrd := (by simp; omega)) ?_;intro F3 hF1 hF2;have kq := (hF1 m (by simp)).trans hF;simp only [Tryz.f98, kq, s2, s3, go_sem];repeat refine sd2 ?_
  refine CallVC.same (hc _ _ (by simp [kq])) ?_;simp only [go_sem];repeat refine sd2 ?_
  refine ⟨zAF (fun _ => 0) (by simp only [zCb, List.map]; kernel_rfl), ?_⟩;exact po0 (.tup []) ⟨hm, by simp [Tx.look, BW], trivial⟩
 rw [if_neg h3];have s3 : (g.st == 3) = false := by simp; omega
 by_cases h5 : g.st = 5
 ·rw [if_pos h5];have hc := fun (F : SF) (nx : Nat) (hF : F m = _) => zCg (F := F) (L := L + 1) (nx := nx) m (by omega) g now 7 hF
  obtain ⟨o, ho⟩ : ∃ o, o = zAz (zAr g 7) := ⟨_, rfl⟩;rw [← ho];simp only [← ho] at hc;have s5 : (g.st == 5) = true := by simp; omega
  simp only [Gx.mrow, Gx.row, zI, zC] at hF hc ⊢;refine bdy Tryz.f98 (hrd := (by simp; omega)) ?_;intro F3 hF1 hF2;have kq := (hF1 m (by simp)).trans hF;simp only [Tryz.f98, kq, s2, s3, s5, go_sem];repeat refine sd2 ?_
  refine CallVC.same (hc _ _ (by simp [kq])) ?_;simp only [go_sem];repeat refine sd2 ?_
  exact po0 (.tup []) ⟨hm, by simp [Tx.look, BW], trivial⟩
 rw [if_neg h5];have s5 : (g.st == 5) = false := by simp; omega
 by_cases h6 : g.st = 6
 ·rw [if_pos h6];have hc := fun (F : SF) (nx : Nat) (hF : F m = _) => zCg (F := F) (L := L + 1) (nx := nx) m (by omega) g now 8 hF
  obtain ⟨o, ho⟩ : ∃ o, o = zAz (zAr g 8) := ⟨_, rfl⟩;rw [← ho];simp only [← ho] at hc;have s6 : (g.st == 6) = true := by simp; omega
  simp only [Gx.mrow, Gx.row, zI, zC] at hF hc ⊢;refine bdy Tryz.f98 (hrd := (by simp; omega)) ?_;intro F3 hF1 hF2;have kq := (hF1 m (by simp)).trans hF;simp only [Tryz.f98, kq, s2, s3, s5, s6, go_sem];repeat refine sd2 ?_
  refine CallVC.same (hc _ _ (by simp [kq])) ?_;simp only [go_sem];repeat refine sd2 ?_
  exact po0 (.tup []) ⟨hm, by simp [Tx.look, BW], trivial⟩
 rw [if_neg h6];have s6 : (g.st == 6) = false := by simp; omega
 simp only [Gx.mrow, Gx.row, zI, zC, zAz] at hF ⊢;refine bdy Tryz.f98 (hrd := (by simp; omega)) ?_;intro F3 hF1 hF2;have kq := (hF1 m (by simp)).trans hF;simp only [Tryz.f98, kq, s2, s3, s5, s6, go_sem];repeat refine sd2 ?_
 exact po0 (.tup []) ⟨hm, by simp [Tx.look, BW, kq], trivial⟩
theorem zMh {F : SF} {L nx : Nat} (m : Nm) (hm : m.l ≤ L) (g : Gx) (now : Int) (p : Pkx) (h1 : g.st ≠ 1) (hF : F m = some (.rows 123 22 true true [g.mrow now .nilS])) :
  Con Tryz.prog 53 [.ptr m 0 0, .agg p.row] F L nx nx (.bool false) [] [m] := by
 have m1 : ∀ k, (m = (⟨L + 1, k⟩ : Nm)) = False := zAG hm;have m2 : ∀ k, ((⟨L + 1, k⟩ : Nm) = m) = False := zAE hm;have s1 : (g.st != 1) = true := by simp; omega
 simp only [Gx.mrow, Gx.row, Pkx.row, zI, zC] at hF ⊢;refine bdy Tryz.f53 (hrd := (by simp; omega)) ?_;intro F3 hF1 hF2;have kq := (hF1 m (by simp)).trans hF;simp only [Tryz.f53, kq, m1, s1, go_sem];repeat refine sd2 ?_
 exact po0 (.bool false) trivial
theorem zOP {F : SF} {L nx : Nat} (m : Nm) (hm : m.l ≤ L) (g : Gx) (now : Int) (p : Pkx) (h1 : g.st = 1) (hn : 0 ≤ now ∧ now ≤ 1099511627776) (ho : g.own.ok = true ∧ g.own.ck = []) (hF : F m = some (.rows 123 22 true true [g.mrow now .nilS])) :
  Con Tryz.prog 53 [.ptr m 0 0, .agg p.row] F L nx nx (.bool true) [(m, .rows 123 22 true true [(zAJ g 2 now).mrow now (zAz (zAl (zAJ g 2 now)))])] [m] := by
 have m1 : ∀ k, (m = (⟨L + 1, k⟩ : Nm)) = False := zAG hm;have m2 : ∀ k, ((⟨L + 1, k⟩ : Nm) = m) = False := zAE hm;have s1 : (g.st != 1) = false := by simp; omega
 have hb := fun (F : SF) (nx : Nat) (hF : F m = _) => zDj (F := F) (L := L + 1) (nx := nx) m (by omega) g now .nilS 2 hn hF
 have ha := fun (F : SF) (nx : Nat) (hF : F m = _) => zCZ (F := F) (L := L + 1) (nx := nx) m (by omega) (zAJ g 2 now) now ho hF
 obtain ⟨o, hoo⟩ : ∃ o, o = zAz (zAl (zAJ g 2 now)) := ⟨_, rfl⟩;rw [← hoo];simp only [← hoo] at ha;simp only [Gx.mrow, Gx.row, Pkx.row, zAJ, zI, zC] at hF ha hb ⊢;refine bdy Tryz.f53 (hrd := (by simp; omega)) ?_;intro F3 hF1 hF2;have kq := (hF1 m (by simp)).trans hF;simp only [Tryz.f53, kq, m1, s1, go_sem];repeat refine sd2 ?_
 refine CallVC.same (hb _ _ (by simp [kq, m1])) ?_;simp only [m1, go_sem];repeat refine sd2 ?_
 refine CallVC.same (ha _ _ (by simp [m1])) ?_;simp only [m1, go_sem];repeat refine sd2 ?_
 exact po0 (.bool true) ⟨hm, by simp [Tx.look, BW, m1], trivial⟩ (by simp [UpdAll, keys, m2])
theorem zK6 {F : SF} {L nx : Nat} (m : Nm) (hm : m.l ≤ L) (g : Gx) (now : Int) (p : Pkx) (h1 : g.st ≠ 4) (hF : F m = some (.rows 123 22 true true [g.mrow now .nilS])) :
  Con Tryz.prog 54 [.ptr m 0 0, .agg p.row] F L nx nx (.bool false) [] [m] := by
 have m1 : ∀ k, (m = (⟨L + 1, k⟩ : Nm)) = False := zAG hm;have m2 : ∀ k, ((⟨L + 1, k⟩ : Nm) = m) = False := zAE hm;have s1 : (g.st != 4) = true := by simp; omega
 simp only [Gx.mrow, Gx.row, Pkx.row, zI, zC] at hF ⊢;refine bdy Tryz.f54 (hrd := (by simp; omega)) ?_;intro F3 hF1 hF2;have kq := (hF1 m (by simp)).trans hF;simp only [Tryz.f54, kq, m1, s1, go_sem];repeat refine sd2 ?_
 exact po0 (.bool false) trivial
theorem zMi {F : SF} {L nx : Nat} (m : Nm) (hm : m.l ≤ L) (g : Gx) (now : Int) (p : Pkx) (h1 : g.st = 4) (hn : 0 ≤ now ∧ now ≤ 1099511627776) (ho : g.own.ok = true ∧ g.own.ck = []) (hF : F m = some (.rows 123 22 true true [g.mrow now .nilS])) :
  Con Tryz.prog 54 [.ptr m 0 0, .agg p.row] F L nx nx (.bool true) [(m, .rows 123 22 true true [(zAJ g 5 now).mrow now (zAz (zAl (zAJ g 5 now)))])] [m] := by
 have m1 : ∀ k, (m = (⟨L + 1, k⟩ : Nm)) = False := zAG hm;have m2 : ∀ k, ((⟨L + 1, k⟩ : Nm) = m) = False := zAE hm;have s1 : (g.st != 4) = false := by simp; omega
 have hb := fun (F : SF) (nx : Nat) (hF : F m = _) => zDj (F := F) (L := L + 1) (nx := nx) m (by omega) g now .nilS 5 hn hF
 have ha := fun (F : SF) (nx : Nat) (hF : F m = _) => zCZ (F := F) (L := L + 1) (nx := nx) m (by omega) (zAJ g 5 now) now ho hF
 obtain ⟨o, hoo⟩ : ∃ o, o = zAz (zAl (zAJ g 5 now)) := ⟨_, rfl⟩;rw [← hoo];simp only [← hoo] at ha;simp only [Gx.mrow, Gx.row, Pkx.row, zAJ, zI, zC] at hF ha hb ⊢;refine bdy Tryz.f54 (hrd := (by simp; omega)) ?_;intro F3 hF1 hF2;have kq := (hF1 m (by simp)).trans hF;simp only [Tryz.f54, kq, m1, s1, go_sem];repeat refine sd2 ?_
 refine CallVC.same (hb _ _ (by simp [kq, m1])) ?_;simp only [m1, go_sem];repeat refine sd2 ?_
 refine CallVC.same (ha _ _ (by simp [m1])) ?_;simp only [m1, go_sem];repeat refine sd2 ?_
 exact po0 (.bool true) ⟨hm, by simp [Tx.look, BW, m1], trivial⟩ (by simp [UpdAll, keys, m2])
theorem zK7 {F : SF} {L nx : Nat} (m : Nm) (hm : m.l ≤ L) (g : Gx) (now : Int) (p : Pkx) (h1 : g.st = 1 ∨ g.st = 7) (hF : F m = some (.rows 123 22 true true [g.mrow now .nilS])) :
  Con Tryz.prog 55 [.ptr m 0 0, .agg p.row] F L nx nx (.bool false) [] [m] := by
 have m1 : ∀ k, (m = (⟨L + 1, k⟩ : Nm)) = False := zAG hm;have m2 : ∀ k, ((⟨L + 1, k⟩ : Nm) = m) = False := zAE hm;simp only [Gx.mrow, Gx.row, Pkx.row, zI, zC] at hF ⊢;rcases h1 with h1 | h1
 ·have s1 : (g.st == 1) = true := by simp; omega
  refine bdy Tryz.f55 (hrd := (by simp; omega)) ?_;intro F3 hF1 hF2;have kq := (hF1 m (by simp)).trans hF;simp only [Tryz.f55, kq, m1, s1, go_sem];repeat refine sd2 ?_
  exact po0 (.bool false) trivial
 ·have s1 : (g.st == 1) = false := by simp; omega
  have s7 : (g.st == 7) = true := by simp; omega
  refine bdy Tryz.f55 (hrd := (by simp; omega)) ?_;intro F3 hF1 hF2;have kq := (hF1 m (by simp)).trans hF;simp only [Tryz.f55, kq, m1, s1, s7, go_sem];repeat refine sd2 ?_
  exact po0 (.bool false) trivial
theorem zK8 {F : SF} {L nx : Nat} (m : Nm) (hm : m.l ≤ L) (g : Gx) (now : Int) (p : Pkx) (h1 : g.st = 2) (hF : F m = some (.rows 123 22 true true [g.mrow now .nilS])) :
  Con Tryz.prog 55 [.ptr m 0 0, .agg p.row] F L nx nx (.bool true) [(m, .rows 123 22 true true [(zAW g 7).mrow now .nilS])] [m] := by
 have m1 : ∀ k, (m = (⟨L + 1, k⟩ : Nm)) = False := zAG hm;have m2 : ∀ k, ((⟨L + 1, k⟩ : Nm) = m) = False := zAE hm;have s1 : (g.st == 1) = false := by simp; omega
 have s7 : (g.st == 7) = false := by simp; omega
 have s2 : (g.st == 2) = true := by simp; omega
 have hr := fun (F : SF) (nx : Nat) (hF : F m = _) => zB9 (F := F) (L := L + 1) (nx := nx) m (by omega) g now .nilS 7 hF
 simp only [Gx.mrow, Gx.row, Pkx.row, zAW, zI, zC] at hF hr ⊢;refine bdy Tryz.f55 (hrd := (by simp; omega)) ?_;intro F3 hF1 hF2;have kq := (hF1 m (by simp)).trans hF;simp only [Tryz.f55, kq, m1, s1, s7, s2, go_sem];repeat refine sd2 ?_
 refine CallVC.same (hr _ _ (by simp [kq, m1])) ?_;simp only [m1, go_sem];repeat refine sd2 ?_
 exact po0 (.bool true) ⟨hm, by simp [Tx.look, BW, m1], trivial⟩ (by simp [UpdAll, keys, m2])
theorem zMj {F : SF} {L nx : Nat} (m : Nm) (hm : m.l ≤ L) (g : Gx) (now : Int) (p : Pkx) (h1 : g.st ≠ 1 ∧ g.st ≠ 2 ∧ g.st ≠ 7) (hF : F m = some (.rows 123 22 true true [g.mrow now .nilS])) :
  Con Tryz.prog 55 [.ptr m 0 0, .agg p.row] F L nx nx (.bool true) [(m, .rows 123 22 true true [(zAW g 7).mrow now (zAz (zAr g 6))])] [m] := by
 have m1 : ∀ k, (m = (⟨L + 1, k⟩ : Nm)) = False := zAG hm;have m2 : ∀ k, ((⟨L + 1, k⟩ : Nm) = m) = False := zAE hm;have s1 : (g.st == 1) = false := by simp; omega
 have s7 : (g.st == 7) = false := by simp; omega
 have s2 : (g.st == 2) = false := by simp; omega
 have ht := fun (F : SF) (nx : Nat) (hF : F m = _) => zCg (F := F) (L := L + 1) (nx := nx) m (by omega) g now 6 hF
 have hr := fun (F : SF) (nx : Nat) (hF : F m = _) => zB9 (F := F) (L := L + 1) (nx := nx) m (by omega) g now (zAz (zAr g 6)) 7 hF
 obtain ⟨o, hoo⟩ : ∃ o, o = zAz (zAr g 6) := ⟨_, rfl⟩;rw [← hoo];simp only [← hoo] at ht hr;simp only [Gx.mrow, Gx.row, Pkx.row, zAW, zI, zC] at hF ht hr ⊢;refine bdy Tryz.f55 (hrd := (by simp; omega)) ?_;intro F3 hF1 hF2;have kq := (hF1 m (by simp)).trans hF;simp only [Tryz.f55, kq, m1, s1, s7, s2, go_sem];repeat refine sd2 ?_
 refine CallVC.same (ht _ _ (by simp [kq, m1])) ?_;simp only [m1, go_sem];repeat refine sd2 ?_
 refine CallVC.same (hr _ _ (by simp [m1])) ?_;simp only [m1, go_sem];repeat refine sd2 ?_
 exact po0 (.bool true) ⟨hm, by simp [Tx.look, BW, m1], trivial⟩ (by simp [UpdAll, keys, m2])
theorem zMk {F : SF} {L nx : Nat} (m : Nm) (hm : m.l ≤ L) (g : Gx) (now : Int) (p : Pkx) (h1 : g.due < 0 ∨ now < g.due) (hF : F m = some (.rows 123 22 true true [g.mrow now .nilS])) :
  Con Tryz.prog 56 [.ptr m 0 0, .agg p.row] F L nx nx (.bool true) [(m, .rows 123 22 true true [g.mrow now .nilS])] [m] := by
 have m1 : ∀ k, (m = (⟨L + 1, k⟩ : Nm)) = False := zAG hm;have m2 : ∀ k, ((⟨L + 1, k⟩ : Nm) = m) = False := zAE hm;simp only [Gx.mrow, Gx.row, Pkx.row, zI, zC] at hF ⊢;by_cases h2 : g.due < 0
 ·have d1 : decide (g.due < 0) = true := dT (by omega);refine bdy Tryz.f56 (hrd := (by simp; omega)) ?_;intro F3 hF1 hF2;have kq := (hF1 m (by simp)).trans hF;simp only [Tryz.f56, kq, m1, d1, go_sem];repeat refine sd2 ?_
  refine ⟨zAF (fun _ => 0) (by simp only [zCb, List.map]; kernel_rfl), ?_⟩;exact po0 (.bool true) ⟨hm, by simp [Tx.look, BW, m1, kq], trivial⟩ (by simp [UpdAll, keys, m2])
 ·have d1 : decide (g.due < 0) = false := dF (by omega);have d2 : decide (g.due > now) = true := dT (by omega);have d2' : decide (now < g.due) = true := dT (by omega);refine bdy Tryz.f56 (hrd := (by simp; omega)) ?_;intro F3 hF1 hF2;have kq := (hF1 m (by simp)).trans hF;simp only [Tryz.f56, kq, m1, d1, d2, go_sem];repeat refine sd2 ?_
  refine ⟨zAF (fun _ => 0) (by simp only [zCb, List.map]; kernel_rfl), ?_⟩;exact po0 (.bool true) ⟨hm, by simp [Tx.look, BW, m1, kq], trivial⟩ (by simp [UpdAll, keys, m2])
theorem zMl {F : SF} {L nx : Nat} (m : Nm) (hm : m.l ≤ L) (g : Gx) (now : Int) (p : Pkx) (h1 : 0 ≤ g.due ∧ g.due ≤ now) (h2 : g.tr = 8) (hF : F m = some (.rows 123 22 true true [g.mrow now .nilS])) :
  Con Tryz.prog 56 [.ptr m 0 0, .agg p.row] F L nx nx (.bool true) [(m, .rows 123 22 true true [(zAW g 7).mrow now .nilS])] [m] := by
 have m1 : ∀ k, (m = (⟨L + 1, k⟩ : Nm)) = False := zAG hm;have m2 : ∀ k, ((⟨L + 1, k⟩ : Nm) = m) = False := zAE hm;have d1 : decide (g.due < 0) = false := dF (by omega);have d2 : decide (g.due > now) = false := dF (by omega);have d2' : decide (now < g.due) = false := dF (by omega);have s8 : (g.tr == 8) = true := by simp; omega
 have hr := fun (F : SF) (nx : Nat) (hF : F m = _) => zB9 (F := F) (L := L + 1) (nx := nx) m (by omega) g now .nilS 7 hF
 simp only [Gx.mrow, Gx.row, Pkx.row, zAW, zI, zC] at hF hr ⊢;refine bdy Tryz.f56 (hrd := (by simp; omega)) ?_;intro F3 hF1 hF2;have kq := (hF1 m (by simp)).trans hF;simp only [Tryz.f56, kq, m1, d1, d2, s8, go_sem];repeat refine sd2 ?_
 refine ⟨zAF (fun _ => 0) (by simp only [zCb, List.map]; kernel_rfl), ?_⟩;refine CallVC.same (hr _ _ (by simp [kq, m1])) ?_;simp only [m1, go_sem];repeat refine sd2 ?_
 exact po0 (.bool true) ⟨hm, by simp [Tx.look, BW, m1], trivial⟩ (by simp [UpdAll, keys, m2])
theorem zP2 {n : Nat} (h8 : n < 9) : min (IntKind.i64.wrap (400 * 2 ^ min n 64)) 6400 = wtS (n : Int) := by
 have h : ∀ n : Nat, n < 9 → min (IntKind.i64.wrap (400 * 2 ^ min n 64)) 6400 = wtS (n : Int) := by decide
 exact h n h8
theorem zMm (n : Int) : 0 ≤ wtS n ∧ wtS n ≤ 6400 := by
 unfold wtS;have : (0 : Int) < 2 ^ n.toNat := Int.pow_pos (by decide);omega
theorem zOQ {F : SF} {L nx : Nat} (m : Nm) (hm : m.l ≤ L) (g : Gx) (now : Int) (p : Pkx) (h1 : 0 ≤ g.due ∧ g.due ≤ now) (h2 : 1 ≤ g.tr ∧ g.tr < 8) (hn : now ≤ 1099511627776) (ho : g.own.ok = true ∧ g.own.ck = []) (hF : F m = some (.rows 123 22 true true [g.mrow now .nilS])) :
  Con Tryz.prog 56 [.ptr m 0 0, .agg p.row] F L nx nx (.bool true) [(m, .rows 123 22 true true [({ g with due := now + wtS g.tr, tr := g.tr + 1 } : Gx).mrow now (zAz (zAl g))])] [m] := by
 have m1 : ∀ k, (m = (⟨L + 1, k⟩ : Nm)) = False := zAG hm;have m2 : ∀ k, ((⟨L + 1, k⟩ : Nm) = m) = False := zAE hm;have d1 : decide (g.due < 0) = false := dF (by omega);have d2 : decide (g.due > now) = false := dF (by omega);have d2' : decide (now < g.due) = false := dF (by omega);have s8 : (g.tr == 8) = false := by simp; omega
 have ha := fun (F : SF) (nx : Nat) (hF : F m = _) => zCZ (F := F) (L := L + 1) (nx := nx) m (by omega) g now ho hF
 obtain ⟨o, hoo⟩ : ∃ o, o = zAz (zAl g) := ⟨_, rfl⟩;rw [← hoo];simp only [← hoo] at ha;obtain ⟨n, hn9⟩ : ∃ n : Nat, g.tr = n := ⟨g.tr.toNat, by omega⟩;rw [hn9] at h2 s8;simp only [Gx.mrow, Gx.row, Pkx.row, zI, zC] at hF ha ⊢;simp only [hn9] at hF ha ⊢;refine bdy Tryz.f56 (hrd := (by simp; omega)) ?_;intro F3 hF1 hF2;have kq := (hF1 m (by simp)).trans hF;simp only [Tryz.f56, kq, m1, d1, d2, s8, go_sem];repeat refine sd2 ?_
 refine ⟨zAF (fun _ => 0) (by simp only [zCb, List.map]; kernel_rfl), ?_⟩;refine CallVC.same (ha _ _ (by simp [kq, m1])) ?_;simp only [kq, m1, go_sem];repeat refine sd2 ?_
 have hw := zP2 (n := n) (by omega);have hwl := zMm (n : Int);rw [hw];refine ⟨⟨by omega, by omega⟩, zAF (fun _ => 0) (by simp only [zCb, List.map]; kernel_rfl), ⟨by omega, by omega⟩, ?_⟩;exact po0 (.bool true) ⟨hm, by simp [Tx.look, BW, m1], trivial⟩ (by simp [UpdAll, keys, m2])
end Go.Proofs.YtifhjhbfhdcahaaGreat
end
