/- Lemmas for the walk: GK85, GK91, GK92, GK93. -/
import Derived.Test.YtifhjhbfhdcahaaGreatP15
import Derived.Test.YtifhjhbfhdcahaaGreatP14
import Derived.Test.YtifhjhbfhdcahaaGreatP13
import Derived.Test.YtifhjhbfhdcahaaGreatP12
set_option linter.all false
section
namespace Go.Proofs.YtifhjhbfhdcahaaGreat
open Go.Tx
set_option maxRecDepth 100000
set_option maxHeartbeats 16000000
def zGV (key : List UInt8) (c : UInt8) (i : Nat) : List UInt8 := (List.range 64).map fun j => if j < i then key.getD j 0 ^^^ c else key.getD j 0
theorem zJn (key : List UInt8) (c : UInt8) (i : Nat) : (zGV key c i).length = 64 := by simp [zGV]
theorem zNa (key : List UInt8) (c : UInt8) {i : Nat} (hi : i < 64) : (zGV key c i).getD i 0 = key.getD i 0 := by
 unfold zGV;rw [zG, zS, uS hi];simp
theorem zNb (key : List UInt8) (c : UInt8) {i : Nat} (hi : i < 64) : (zGV key c i).set i (key.getD i 0 ^^^ c) = zGV key c (i + 1) := by
 apply uJ (by simp [zGV]);intro k h1 h2;have hk : k < 64 := by simpa [zGV] using h2
 rw [List.getElem_set];simp only [zGV, List.getElem_map, List.getElem_range];by_cases e : i = k;·subst e; simp
 ·rw [if_neg e];have : (k < i) = (k < i + 1) := by apply propext; omega
  simp only [this]
theorem zNc (key : List UInt8) (c : UInt8) : zGV key c 64 = zIU key c := by
 apply uJ (by simp [zGV, zIU]);intro k h1 h2;have hk : k < 64 := by simpa [zGV] using h1
 simp [zGV, zIU, hk]
theorem zLz {key : List UInt8} (c : UInt8) (h : key.length ≤ 64) : key ++ (List.replicate 64 (0 : UInt8)).drop key.length = zGV key c 0 := by
 apply uJ (by simp [zGV]; omega);intro k h1 h2;have hk : k < 64 := by simpa [zGV] using h2
 simp only [zGV, List.getElem_map, List.getElem_range, Nat.not_lt_zero, if_false];rw [List.getElem_append];by_cases hkl : k < key.length;·rw [dif_pos hkl]; simp [zG, hkl]
 ·rw [dif_neg hkl, List.getElem_drop, List.getElem_replicate]; simp [zG, hkl]
theorem zFh (l : List UInt8) (i : Nat) (v : UInt8) : (l.map zBd).set i [.int .u8 ((v.toNat : Nat) : Int)] = (l.set i v).map zBd := by rw [List.map_set]; rfl
theorem zL0 (l : List UInt8) {i : Nat} (h : i < l.length) : (l.map zBd).getD i [] = [.int .u8 (((l.getD i 0).toNat : Nat) : Int)] := by
 simp [zG, h, zBd]
theorem zQv (a b : UInt8) : Sx.zEo .xor .u8 ((a.toNat : Nat) : Int) ((b.toNat : Nat) : Int) = (((a ^^^ b).toNat : Nat) : Int) := by
 rw [zR6 a.toNat_lt b.toNat_lt, UInt8.toNat_xor]
theorem zIH {F : SF} {L nx : Nat} (q : Nm) (hq : q.l ≤ L) (o pu : Bool) (key : List UInt8) (hk : key.length ≤ 64) (c : UInt8) (hF : F q = some (.rows 9 1 o pu [[.str key]])) : Con Tryz.prog 145 [.int .u8 ((c.toNat : Nat) : Int), .ptr q 0 0] F L nx nx (.str (zIU key c)) [] [q] := by
 have z0 : ([[.int .u8 0], [.int .u8 0], [.int .u8 0], [.int .u8 0], [.int .u8 0], [.int .u8 0], [.int .u8 0], [.int .u8 0], [.int .u8 0], [.int .u8 0], [.int .u8 0], [.int .u8 0], [.int .u8 0], [.int .u8 0], [.int .u8 0], [.int .u8 0], [.int .u8 0], [.int .u8 0], [.int .u8 0], [.int .u8 0], [.int .u8 0], [.int .u8 0], [.int .u8 0], [.int .u8 0], [.int .u8 0], [.int .u8 0], [.int .u8 0], [.int .u8 0], [.int .u8 0], [.int .u8 0], [.int .u8 0], [.int .u8 0], [.int .u8 0], [.int .u8 0], [.int .u8 0], [.int .u8 0], [.int .u8 0], [.int .u8 0], [.int .u8 0], [.int .u8 0], [.int .u8 0], [.int .u8 0], [.int .u8 0], [.int .u8 0], [.int .u8 0], [.int .u8 0], [.int .u8 0], [.int .u8 0], [.int .u8 0], [.int .u8 0], [.int .u8 0], [.int .u8 0], [.int .u8 0], [.int .u8 0], [.int .u8 0], [.int .u8 0], [.int .u8 0], [.int .u8 0], [.int .u8 0], [.int .u8 0], [.int .u8 0], [.int .u8 0], [.int .u8 0], [.int .u8 0]] : List (List PV)) = (List.replicate 64 (0 : UInt8)).map zBd := by rw [List.map_replicate]; rfl
 have e0 : (key.map fun b : UInt8 => [PV.int .u8 ((b.toNat : Nat) : Int)]) = key.map zBd := rfl;have e1 : key.map zBd ++ List.drop key.length ((List.replicate 64 (0 : UInt8)).map zBd) = (zGV key c 0).map zBd := by
  rw [← List.map_drop, ← uC, zLz c hk]
 have m1 : ∀ k, (q = (⟨L + 1, k⟩ : Nm)) = False := zAF hq;have m2 : ∀ k, ((⟨L + 1, k⟩ : Nm) = q) = False := zAE hq;refine bdy Tryz.f145 (hrd := (by simp; omega)) ?_;intro F3 hF1 hF2;have kq : F3 q = some (.rows 9 1 o pu [[.str key]]) := (hF1 q (by simp)).trans hF;have hml : ∀ i, ((zGV key c i).map zBd).length = 64 := fun i => by rw [zL, zJn]
 simp only [Tryz.f145, kq, m1, go_sem];repeat refine sd2 ?_
 rw [z0, e0, zL, e1];refine ⟨hk, ?_⟩;refine loopK.intro _ _ (I := fun i : Nat => ⟨[some (.int .u8 ((c.toNat : Nat) : Int)), some (.ptr q 0 0), none, none, some (.sl ⟨L + 1, 32⟩ 0 64), none, none, none, none, none, none, some (.int .i64 64), some (.int .i64 i)] ++ oz 12, [(⟨L + 1, 32⟩, .rows 5 1 true true ((zGV key c i).map zBd))], 10000 * (i + 1)⟩)
  (pre := fun i => i ≤ 64) (μ := fun i => 64 - i) 0 (by omega) ?_ ?_
 ·refine Sub.of (hfz hF2) (by simp only [go_sem, zBF, and_self, wM]; try trivial) ?_ (by simp [zBL, keys]) (by simp);simp [zA7, Tx.look]
 intro i hi;by_cases hlt : i < 64
 ·have g1 : decide ((i : Int) < 64) = true := dT (by omega);have gd := zL0 (zGV key c i) (i := i) (by rw [zJn]; omega);rw [zNa key c hlt] at gd;have hx := zQv (key.getD i 0) c;have hs := zFh (zGV key c i) i (key.getD i 0 ^^^ c);rw [zNb key c hlt] at hs;simp only [g1, gd, hx, hs, hml, zI, go_sem];repeat refine sd2 ?_
  refine ⟨i + 1, by omega, by omega, ?_⟩;refine Sub.of (hfz hF2) (by simp only [go_sem, zBF, and_self, wJ]; try trivial) ?_ (by simp [zBL, keys]) (by simp only []; omega);simp only [zA7, Tx.look, if_true, and_true]
 ·have g1 : decide ((i : Int) < 64) = false := dF (by omega);obtain rfl : i = 64 := by omega
  have hb := zBV (zIU key c);have ht : List.take 64 ((zIU key c).map zBd) = (zIU key c).map zBd := zU (by simp [zIU]);rw [zNc];have hl : ((zIU key c).map zBd).length = 64 := by simp [zIU]
  simp only [g1, ht, hb, hl, go_sem];refine ⟨zEd _, ?_⟩;exact ps0
theorem zQN : W8 hT := by
 rw [zPx];exact W8.cons (by decide) (by decide) (by decide) (by decide) (by decide) (by decide) (by decide) (by decide)
theorem zL1 : kT.length = 64 := by rw [kT, zL, zNT]
theorem zQw (i : Nat) : kT.getD i 0 < M32 := by
 by_cases h : i < kT.length
 ·rw [zG, zO h, vO];simp only [kT, List.getElem_map];exact wY _ (by decide)
 ·rw [zG, vK (by omega)]; decide
theorem zO3 {F : SF} {L nx : Nat} (m : Nm) (hm : m.l ≤ L) (o p : Bool) (ls : List (List UInt8)) (hl : ls.length ≤ 100) (hs : ∀ s ∈ ls, s.length ≤ 10000) (hF : F m = some (.rows 9 1 o p (ls.map fun s => [.str s]))) :
  Con Tryz.prog 144 [.agg (hT.map eW ++ kT.map eW), .sl m 0 ls.length] F L nx nx (.str (zMd kT hT ls.flatten)) [] [m] := by
 have h := zQB (F := F) (L := L) (nx := nx) hT kT zQN zL1 zQw m hm o p ls hl hs hF;rw [zO2] at h;exact h
theorem zNd : ∀ l : List Nat, (zIA l).length = 4 * l.length := by
 intro l;induction l with
 | nil => rfl
 | cons a l ih => simp only [zIA, uN, zQ, wR, zAQ] at ih ⊢; omega
theorem zJo (s : List UInt8) : (zMd kT hT s).length = 32 := by
 unfold zMd;rw [zNd, (zGP zQN _ _ _).1]
theorem zJp (key : List UInt8) (c : UInt8) : (zIU key c).length = 64 := by simp [zIU]
theorem zJq (key s : List UInt8) : (zOr kT hT key s).length = 32 := zJo _
theorem zNe {F : SF} {L nx : Nat} (m : Nm) (hm : m.l ≤ L) (o : Bool) (key : List UInt8) (hk : key.length ≤ 64) (ls : List (List UInt8)) (hl : ls.length ≤ 90) (hs : ∀ s ∈ ls, s.length ≤ 10000) (hF : F m = some (.rows 9 1 o true (ls.map fun s => [.str s]))) :
  Con Tryz.prog 129 [.agg (hT.map eW ++ kT.map eW), .str key, .sl m 0 ls.length] F L nx nx (.str (zOr kT hT key ls.flatten)) [] [m] := by
 have w1 := fun (q : Nm) (hq : q.l ≤ L + 1) (F : SF) (nx : Nat) (hF : F q = _) => zIH (F := F) (L := L + 1) (nx := nx) q hq true true key hk 92 hF
 have w2 := fun (q : Nm) (hq : q.l ≤ L + 1) (F : SF) (nx : Nat) (hF : F q = _) => zIH (F := F) (L := L + 1) (nx := nx) q hq true true key hk 54 hF
 have l1 : (hT.map eW ++ kT.map eW).length = 72 := by rw [zQ, zL, zL, zL1, zQN.1]
 have n1 : nfl (hT.map eW ++ kT.map eW) = true := by rw [zGO, zE4, zE4]; rfl
 have su := fun (q : Nm) (hq : q.l ≤ L + 1) (F : SF) (nx : Nat) (ls : List (List UInt8)) (hl : ls.length ≤ 100) (hs : ∀ s ∈ ls, s.length ≤ 10000) (hF : F q = _) => zO3 (F := F) (L := L + 1) (nx := nx) q hq true true ls hl hs hF
 have hk5 := zJp key 54;have hk9 := zJp key 92;obtain ⟨k5, e5⟩ : ∃ k, k = zIU key 54 := ⟨_, rfl⟩;obtain ⟨k9, e9⟩ : ∃ k, k = zIU key 92 := ⟨_, rfl⟩;have hin := zJo (k5 ++ ls.flatten);have hmac : zOr kT hT key ls.flatten = zMd kT hT (k9 ++ zMd kT hT (k5 ++ ls.flatten)) := by rw [e5, e9]; rfl
 rw [← e5] at hk5 w2;rw [← e9] at hk9 w1;obtain ⟨mk, hmk⟩ : ∃ mk, mk = hT.map eW ++ kT.map eW := ⟨_, rfl⟩;rw [← hmk] at l1 n1 su ⊢;rw [hmac];refine bdy Tryz.f129 (hrd := (by simp; omega)) ?_;intro F3 hF1 hF2;have kq : F3 m = some (.rows 9 1 o true (ls.map fun s => [.str s])) := (hF1 m (by simp)).trans hF;have m1 : ∀ k, (m = (⟨L + 1, k⟩ : Nm)) = False := zAF hm;have m2 : ∀ k, ((⟨L + 1, k⟩ : Nm) = m) = False := zAE hm;have b1 : ∀ k, ((⟨L + 1, k⟩ : Nm) == m) = false := fun k => by rw [beq_eq_false_iff_ne]; intro h; rw [m2 k] at h; exact h
 have tl : List.take ls.length (ls.map fun s => [PV.str s]) = ls.map fun s => [PV.str s] := zU (by simp)
 have hll : (ls.map fun s => [PV.str s]).length = ls.length := zL ..;have f1 : decide ((key.length : Int) > 64) = false := dF (by omega);have f1' : decide ((64 : Int) < (key.length : Int)) = false := dF (by omega);simp only [Tryz.f129, l1, n1, f1, go_sem];repeat refine sd2 ?_
 refine CallVC.same (w1 ⟨L + 1, 32⟩ (by simp) _ _ (by simp [Tx.look])) ?_;simp only [go_sem];repeat refine sd2 ?_
 refine CallVC.same (w2 ⟨L + 1, 32⟩ (by simp) _ _ (by simp [Tx.look])) ?_;simp only [kq, m1, b1, tl, hll, go_sem];repeat refine sd2 ?_
 have s1 := su ⟨L + 1, 448⟩ (by simp);have q1 := fun (F : SF) (nx : Nat) (hF : F _ = _) => s1 F nx (k5 :: ls) (by simp; omega) (by intro s hm; rcases List.mem_cons.1 hm with rfl | hm; omega; exact hs s hm) hF
 rw [wR, Nat.add_comm ls.length 1] at q1;refine CallVC.same (q1 _ _ (by simp [Tx.look])) ?_;simp only [List.flatten_cons, go_sem];repeat refine sd2 ?_
 have s2 := su ⟨L + 1, 480⟩ (by simp);have q2 := fun (F : SF) (nx : Nat) (hF : F _ = _) => s2 F nx [k9, zMd kT hT (k5 ++ ls.flatten)] (by simp) (by intro s hm; simp only [wG, vW, or_false] at hm; rcases hm with rfl | rfl <;> omega) hF
 refine CallVC.same (q2 _ _ (by simp [Tx.look])) ?_;simp only [List.flatten_cons, List.flatten_nil, go_sem];repeat refine sd2 ?_
 refine ⟨zDn m2, ?_⟩;exact ps0
theorem zO4 {F : SF} {L nx : Nat} (key s : List UInt8) (hk : key.length ≤ 64) (hs : s.length ≤ 4096) : Con Tryz.prog 96 [.str key, .str s] F L nx nx (.tup [.str (zOr kT hT key s), .int .i64 0]) [] [] := by
 have lo := fun (q : Nm) (hq : q.l ≤ L + 1) (F : SF) (nx : Nat) (hF : F q = _) => zOw (F := F) (L := L + 1) (nx := nx) q hq true true [key, s] (by simp) (by intro x hx; simp only [wG, vW, or_false] at hx; rcases hx with rfl | rfl <;> omega) hF
 have mm := fun (q : Nm) (hq : q.l ≤ L + 1) (F : SF) (nx : Nat) (hF : F q = _) => zNe (F := F) (L := L + 1) (nx := nx) q hq true key hk [s] (by simp) (by intro x hx; simp only [wG, vW, or_false] at hx; subst hx; omega) hF
 have md := fun (F : SF) (nx : Nat) => zOv (F := F) (L := L + 1) (nx := nx)
 have l1 : (hT.map eW ++ kT.map eW).length = 72 := by rw [zQ, zL, zL, zL1, zQN.1]
 have n1 : nfl (hT.map eW ++ kT.map eW) = true := by rw [zGO, zE4, zE4]; rfl
 obtain ⟨mk, hmk⟩ : ∃ mk, mk = hT.map eW ++ kT.map eW := ⟨_, rfl⟩;rw [← hmk] at l1 n1;simp only [← hmk] at mm md;refine bdy Tryz.f96 ?_;intro F3 hF1 hF2;simp only [Tryz.f96, go_sem];repeat refine sd2 ?_
 refine CallVC.same (lo ⟨L + 1, 128⟩ (by simp) _ _ (by simp [Tx.look])) ?_;simp only [go_sem];repeat refine sd2 ?_
 refine CallVC.same (md _ _) ?_;simp only [go_sem];repeat refine sd2 ?_
 refine CallVC.same (mm ⟨L + 1, 224⟩ (by simp) _ _ (by simp [Tx.look])) ?_;simp only [List.flatten_cons, List.flatten_nil, vQ, go_sem];repeat refine sd2 ?_
 exact ps0 (hf := by simp [Tx.nf, nfl, uO])
def zEf (ps : List (Nat × Nat)) : List UInt8 := ps.flatMap fun p => zAd p.1 p.2
def zHf (ps : List (Nat × Nat)) : List (List PV) := ps.flatMap fun p => [[.int .i64 (p.1 : Int)], [.int .i64 (p.2 : Int)]]
theorem zL2 (ps : List (Nat × Nat)) : (zHf ps).length = 2 * ps.length := by
 induction ps with
 | nil => rfl
 | cons p ps ih => simp only [zHf, uN, zQ, wR, wN] at ih ⊢; omega
theorem zL3 (ps : List (Nat × Nat)) : ∀ {i : Nat} (h : i < ps.length), (zHf ps).getD (2 * i) [] = [.int .i64 ((ps.getD i (0, 0)).1 : Int)] ∧ (zHf ps).getD (2 * i + 1) [] = [.int .i64 ((ps.getD i (0, 0)).2 : Int)] := by
 induction ps with
 | nil => intro i h; simp at h
 | cons p ps ih =>
  intro i h;cases i with
  | zero => exact ⟨rfl, rfl⟩
  | succ i =>
   have := ih (i := i) (by simpa using h);simp only [zHf, uN, zH, zD] at this ⊢;rw [show 2 * (i + 1) = 2 * i + 1 + 1 by omega];simp only [vU];exact this
theorem zII : ∀ ps : List (Nat × Nat), (∀ q ∈ ps, 1 ≤ q.1 ∧ q.1 ≤ 7 ∧ q.2 < 256 ^ q.1) → (zEf ps).length ≤ 7 * ps.length
 | [], _ => by simp [zEf]
 | p :: ps, h => by
  have h1 := zII ps fun q hq => h q (by simp [hq])
  have h2 := (h p (by simp)).2.1;simp only [zEf, uN, zQ, zAQ, wR] at h1 ⊢;omega
theorem zG3 {F : SF} {L nx : Nat} (m : Nm) (hm : m.l ≤ L) (o p : Bool) (ps : List (Nat × Nat)) (hl : ps.length ≤ 10) (hs : ∀ q ∈ ps, 1 ≤ q.1 ∧ q.1 ≤ 7 ∧ q.2 < 256 ^ q.1) (hF : F m = some (.rows 3 1 o p (zHf ps))) :
  Con Tryz.prog 95 [.sl m 0 (2 * ps.length)] F L nx nx (.str (zEf ps)) [] [m] := by
 have hrl := zL2 ps;have m1 : ∀ k, (m = (⟨L + 1, k⟩ : Nm)) = False := zAF hm;have m2 : ∀ k, ((⟨L + 1, k⟩ : Nm) = m) = False := zAE hm;refine bdy Tryz.f95 (hrd := (by simp; omega)) ?_;intro F3 hF1 hF2;have kq : F3 m = some (.rows 3 1 o p (zHf ps)) := (hF1 m (by simp)).trans hF;simp only [Tryz.f95, go_sem];repeat refine sd2 ?_
 refine loopK.intro _ _ (I := fun i : Nat => ⟨[some (.sl m 0 (2 * ps.length)), none, none, some (.str (zEf (ps.take i))), some (.int .i64 (2 * i))] ++ oz 26, [], 10000 * (i + 1)⟩)
  (pre := fun i => i ≤ ps.length) (μ := fun i => ps.length - i) 0 (by omega) ?_ ?_
 ·refine Sub.of (hfz hF2) (by simp only [go_sem, zBF, and_self, wM, zEf, List.take_zero, List.flatMap_nil, Int.mul_zero]; try trivial) ?_ (by simp [zBL]) (by simp);simp [zA7]
 intro i hi;by_cases hlt : i < ps.length
 ·have g1 : decide ((2 * (i : Int) + 1) < ((2 * ps.length : Nat) : Int)) = true := dT (by omega);have t1 : (2 * (i : Int)).toNat = 2 * i := by omega
  have t2 : (2 * (i : Int) + 1).toNat = 2 * i + 1 := by omega
  obtain ⟨r1, r2⟩ := zL3 ps hlt;have hq := hs _ (uU hlt);have hg : ps.getD i (0, 0) = ps[i] := by simp [zG, hlt]
  rw [hg] at r1 r2;have hj : zEf (ps.take (i + 1)) = zEf (ps.take i) ++ zAd ps[i].1 ps[i].2 := by
   rw [qI hlt, zEf, zEf, List.flatMap_append, uN, List.flatMap_nil, vQ]
  obtain ⟨⟨a, b⟩, hab⟩ : ∃ q, q = ps[i] := ⟨_, rfl⟩;rw [← hab] at r1 r2 hq hj;simp only at r1 r2 hq hj;have hp := fun F L nx => zLR (F := F) (L := L) (nx := nx) a b hq.1 hq.2.1 hq.2.2
  simp only [g1, kq, t1, t2, r1, r2, hrl, zI, go_sem];repeat refine sd2 ?_
  refine CallVC.same (hp _ _ _) ?_;simp only [zI, go_sem];repeat refine sd2 ?_
  have hj2 := zII (ps.take i) fun q hq => hs q (vB hq)
  have hj3 : (ps.take i).length ≤ 10 := by rw [vF]; omega
  refine ⟨zAH (fun _ => 0) (by simp only [zDN, List.map]; kernel_rfl), by rw [zAQ]; omega, ⟨by omega, by omega⟩, i + 1, by omega, by omega, ?_⟩;rw [hj];refine Sub.of (hfz hF2) (by simp only [go_sem, zBF, and_self, wJ, show 2 * ((i : Int) + 1) = 2 * (i : Int) + 2 by omega]; try trivial) ?_ (by simp [zBL]) (by simp only []; omega);simp [zA7]
 ·obtain rfl : i = ps.length := by omega
  have g1 : decide ((2 * (ps.length : Int) + 1) < ((2 * ps.length : Nat) : Int)) = false := dF (by omega);rw [List.take_length];simp only [g1, zI, go_sem];repeat refine sd2 ?_
  exact ps0
def Gx.mrow (g : Gx) (now : Int) (o : PV) : List PV := g.row ++ [.int .i64 now, o]
theorem zE5 {F : SF} {L nx : Nat} (m : Nm) (hm : m.l ≤ L) (ow : Bool) (g : Gx) (now : Int) (u : PV) (body : List UInt8) (t : Nat) (ht : t < 256 ^ 6) (hb : body.length ≤ 1000) (h1 : 0 ≤ g.own.tag ∧ g.own.tag < 4294967296) (h2 : 0 ≤ g.fr ∧ g.fr < 65536) (h3 : 0 ≤ g.tt ∧ g.tt < 65536) (hs : g.sec.length ≤ 64) (hF : F m = some (.rows 123 22 ow true [g.mrow now u])) :
  Con Tryz.prog 52 [.ptr m 0 0, .str body, .int .i64 t] F L nx nx (.str (ckS g body t)) [] [m] := by
 obtain ⟨tg, htg⟩ : ∃ x : Nat, g.own.tag = x := ⟨g.own.tag.toNat, by omega⟩;obtain ⟨fr, hfr⟩ : ∃ x : Nat, g.fr = x := ⟨g.fr.toNat, by omega⟩;obtain ⟨tt, htt⟩ : ∃ x : Nat, g.tt = x := ⟨g.tt.toNat, by omega⟩;have j1 := fun (q : Nm) (hq : q.l ≤ L + 1) (F : SF) (nx : Nat) (hF : F q = _) => zG3 (F := F) (L := L + 1) (nx := nx) q hq true true [(6, t)] (by simp) (by intro q hq; simp only [wG, vW, or_false] at hq; subst hq; exact ⟨by simp, by simp, ht⟩) hF
 have j2 := fun (q : Nm) (hq : q.l ≤ L + 1) (F : SF) (nx : Nat) (hF : F q = _) => zG3 (F := F) (L := L + 1) (nx := nx) q hq true true [(4, tg), (2, fr), (2, tt)] (by simp) (by
  intro q hq; simp only [wG, vW, or_false] at hq;rcases hq with rfl | rfl | rfl;·exact ⟨by simp, by simp, by simp only []; omega⟩
  ·exact ⟨by simp, by simp, by simp only []; omega⟩
  ·exact ⟨by simp, by simp, by simp only []; omega⟩) hF
 have e1 : zEf [(6, t)] = zAd 6 t := by simp [zEf]
 have e2 : zEf [(4, tg), (2, fr), (2, tt)] = zAd 4 tg ++ (zAd 2 fr ++ zAd 2 tt) := by simp [zEf]
 rw [e1] at j1;rw [e2] at j2;obtain ⟨s, hs9⟩ : ∃ s, s = zAd 6 t ++ body ++ (zAd 4 tg ++ (zAd 2 fr ++ zAd 2 tt)) := ⟨_, rfl⟩;have hsl : s.length = body.length + 14 := by rw [hs9]; simp only [zQ, zAQ]; omega
 have hmac := fun F L nx => zO4 (F := F) (L := L) (nx := nx) g.sec s hs (by omega)
 have hml := zJq g.sec s;have hck : ckS g body t = s ++ zOr kT hT g.sec s := by
  unfold ckS;rw [htg, hfr, htt];simp only [Int.toNat_natCast, hs9, vR]
 rw [hck];obtain ⟨mc, hmc⟩ : ∃ x, x = zOr kT hT g.sec s := ⟨_, rfl⟩;rw [← hmc] at hml ⊢;simp only [← hmc] at hmac;have m1 : ∀ k, (m = (⟨L + 1, k⟩ : Nm)) = False := zAF hm;have m2 : ∀ k, ((⟨L + 1, k⟩ : Nm) = m) = False := zAE hm;simp only [Gx.mrow, Gx.row, htg, hfr, htt] at hF;refine bdy Tryz.f52 (hrd := (by simp; omega)) ?_;intro F3 hF1 hF2;have kq := (hF1 m (by simp)).trans hF;simp only [Tryz.f52, go_sem];repeat refine sd2 ?_
 refine CallVC.same (j1 ⟨L + 1, 64⟩ (by simp) _ _ (by simp [zHf])) ?_;simp only [kq, m1, go_sem];repeat refine sd2 ?_
 refine ⟨by rw [zAQ]; omega, CallVC.same (j2 ⟨L + 1, 672⟩ (by simp) _ _ (by simp [zHf])) ?_⟩;simp only [kq, m1, go_sem];repeat refine sd2 ?_
 have hs8 : zAd 6 t ++ body ++ (zAd 4 tg ++ (zAd 2 fr ++ zAd 2 tt)) = s := hs9.symm;refine ⟨by simp only [zQ, zAQ]; omega, zDn m2, ?_⟩;simp only [hs8, go_sem];repeat refine sd2 ?_
 refine CallVC.same (hmac _ _ _) ?_;simp only [go_sem];repeat refine sd2 ?_
 exact ps0
theorem zHg (g : Gx) (body : List UInt8) (t : Int) : (ckS g body t).length = body.length + 46 := by
 unfold ckS;simp only [zQ, zAQ, zJq];omega
theorem zTR {g : Gx} (h : g.ok = true) : g.hd = true := by
 unfold Gx.ok at h;simp only [zF] at h;exact h.1.1
theorem zL4 {n : Int} (h : zBM 32 n = true) : 0 ≤ n ∧ n < 4294967296 := by
 unfold zBM at h; simp at h; omega
theorem zDd {d : Ini} (h : zAe d = true) : d.ok = true ∧ d.ck = [] := by
 unfold zAe at h;simp only [zF, beq_iff_eq] at h;exact h
theorem zSz {d : Ini} (h : d.ok = true) : 0 < d.tag ∧ d.tag < 4294967296 := by
 unfold Ini.ok at h;simp only [zF, decide_eq_true_eq] at h;have := zL4 h.1.1;omega
theorem zB2 (t : Int) : zGU t = true ↔ 0 ≤ t ∧ t ≤ 1099511627776 := by unfold zGU; simp
def zIJ (g : Gx) (d : Ini) (now : Int) : List UInt8 × Int := if g.ok = false then ([], 330) else if zAe d = false ∨ zGU now = false then ([], 2) else (ckS g d.oct now, 0)
theorem zKX {F : SF} {L nx : Nat} (g : Gx) (d : Ini) (now : Int) : Con Tryz.prog 23 [.agg g.row, .agg d.row, .int .i64 now] F L nx nx (.tup [.str (zIJ g d now).1, .int .i64 (zIJ g d now).2]) [] [] := by
 have hC := fun F L nx => zCB (F := F) (L := L) (nx := nx) g
 have hP := fun F L nx => zGN (F := F) (L := L) (nx := nx) d
 have hT := fun F L nx => zFg (F := F) (L := L) (nx := nx) now
 have hI := fun F L nx => zCt (F := F) (L := L) (nx := nx) d
 unfold zIJ;cases h1 : g.ok
 ·rw [if_pos rfl];rw [h1, if_neg (by simp)] at hC;simp only [Gx.row, Ini.row] at hC ⊢;refine bdy Tryz.f23 ?_;intro F3 hF1 hF2;have e1 : ((330 : Int) != 0) = true := rfl;simp only [Tryz.f23, go_sem];repeat refine sd2 ?_
  refine CallVC.same (hC _ _ _) ?_;simp only [e1, go_sem];repeat refine sd2 ?_
  exact ps0 (hf := by simp [Tx.nf, nfl, uO])
 rw [if_neg (by simp)];have hh := zTR h1;rw [zSe] at hh;have e0 : ((0 : Int) != 0) = false := rfl;cases h2 : zAe d
 ·rw [if_pos (.inl rfl)];rw [h1, if_pos rfl] at hC;rw [h2] at hP;simp only [Gx.row, Ini.row] at hC hP ⊢;refine bdy Tryz.f23 ?_;intro F3 hF1 hF2;simp only [Tryz.f23, go_sem];repeat refine sd2 ?_
  refine CallVC.same (hC _ _ _) ?_;simp only [e0, go_sem];repeat refine sd2 ?_
  refine CallVC.same (hP _ _ _) ?_;simp only [go_sem];repeat refine sd2 ?_
  exact ps0 (hf := by simp [Tx.nf, nfl, uO])
 cases h3 : zGU now
 ·rw [if_pos (.inr rfl)];rw [h1, if_pos rfl] at hC;rw [h2] at hP;rw [h3] at hT;simp only [Gx.row, Ini.row] at hC hP ⊢;refine bdy Tryz.f23 ?_;intro F3 hF1 hF2;simp only [Tryz.f23, go_sem];repeat refine sd2 ?_
  refine CallVC.same (hC _ _ _) ?_;simp only [e0, go_sem];repeat refine sd2 ?_
  refine CallVC.same (hP _ _ _) ?_;simp only [go_sem];repeat refine sd2 ?_
  refine CallVC.same (hT _ _ _) ?_;simp only [go_sem];repeat refine sd2 ?_
  exact ps0 (hf := by simp [Tx.nf, nfl, uO])
 rw [if_neg (by simp)];obtain ⟨hd, hk⟩ := zDd h2;rw [h1, if_pos rfl] at hC;rw [h2] at hP;rw [h3] at hT;rw [hd, if_pos rfl] at hI;rw [zB2] at h3;have hoc : d.oct.length = 16 := by unfold Ini.oct zKT; rw [hk]; simp only [zQ, zAQ, wN]
 obtain ⟨t, rfl⟩ : ∃ t : Nat, now = t := ⟨now.toNat, by omega⟩;have hg := (zDd hh.2.2.2.2.2.1).1;have htg := zSz hg;have hM := fun (q : Nm) (hq : q.l ≤ L + 1) (F : SF) (nx : Nat) (hF : F q = _) => zE5 (F := F) (L := L + 1) (nx := nx) q hq true g 0 .nilS d.oct t (by omega) (by omega) ⟨by omega, by omega⟩ ⟨by omega, by omega⟩ ⟨by omega, by omega⟩ (by omega) hF
 simp only [Gx.mrow, Gx.row, zH, zD] at hM;simp only [Gx.row, Ini.row] at hC hP hI ⊢;refine bdy Tryz.f23 ?_;intro F3 hF1 hF2;simp only [Tryz.f23, go_sem];repeat refine sd2 ?_
 refine CallVC.same (hC _ _ _) ?_;simp only [e0, go_sem];repeat refine sd2 ?_
 refine CallVC.same (hP _ _ _) ?_;simp only [go_sem];repeat refine sd2 ?_
 refine CallVC.same (hT _ _ _) ?_;simp only [go_sem];repeat refine sd2 ?_
 refine CallVC.same (hI _ _ _) ?_;simp only [go_sem];repeat refine sd2 ?_
 refine CallVC.same (hM ⟨L + 1, 736⟩ (by simp) _ _ (by simp [Tx.look])) ?_;simp only [go_sem];repeat refine sd2 ?_
 exact ps0 (hf := by simp [Tx.nf, nfl, uO])
theorem zFi (p : Pkx) : zAr [p] = .fs 4 [(pR p)] := rfl
theorem zDr {F : SF} {L nx : Nat} (m : Nm) (hm : m.l ≤ L) (g : Gx) (now tag : Int) (c : Ckx) (hF : F m = some (.rows 123 22 true true [g.mrow now .nilS])) :
  Con Tryz.prog 130 [.ptr m 0 0, .int .i64 tag, .agg c.row] F L nx nx (.tup []) [(m, .rows 123 22 true true [g.mrow now (zAr (zBX g tag c))])] [m] := by
 have m1 : ∀ k, (m = (⟨L + 1, k⟩ : Nm)) = False := zAF hm;have m2 : ∀ k, ((⟨L + 1, k⟩ : Nm) = m) = False := zAE hm;simp only [Gx.mrow, Gx.row, Ckx.row, zH, zD] at hF ⊢;show Con _ _ _ F L nx (nx + 0) _ _ _;refine zSk (zCQ (L + 1)) rfl rfl (fn := Tryz.f130) (c := Tryz.f130.body.getD .skip) (by kernel_rfl) (by rfl) (by kernel_rfl) rfl  (by simp; omega) ?_;intro F3 hF1 hF2;have kq := (hF1 m (by simp)).trans hF;refine vcu ⟨[some (.ptr m 0 0), some (.int .i64 tag), none, none, none, some (.ptr ⟨L + 1, 0⟩ 0 0)] ++ oz 23, [(⟨L + 1, 0⟩, .rows 73 3 true true [c.row])], 10000⟩ ?_ ?_
 ·simp only [Tryz.f130, go_sem];repeat refine sd2 ?_
  refine ⟨(), (so0 hF2 (h2 := by simp [zA7, Tx.look, Ckx.row]))⟩
 refine VT.of (zCQ (L + 1)) ?_;simp only [Tryz.f130, kq, m1, Ckx.row, go_sem];repeat refine sd2 ?_
 refine ⟨zDn m2, ?_⟩;refine ⟨_, (zS6 ⟨L + 1, 10640⟩ (e := 38) (wd := 4) (o := true) (p := false) (row := [.int .i64 g.fr, .int .i64 g.tt, .int .i64 tag, .sl ⟨L + 1, 10544⟩ 0 1]) [.int .i64 g.fr, .int .i64 g.tt, .int .i64 tag, .fs 3 [[.int .i64 c.kd, .int .i64 c.fl, .str c.bd]]] (by simp [Tx.look]) rfl (by simp [Wk, WkL, Tx.look]) (by simp [zAw, wkN]) (by simp [nfl, Tx.nf])).trans
  (zS6 m (e := 123) (wd := 22) (o := true) (p := false) (row := (gR g [.int .i64 now, .sl ⟨L + 1, 10640⟩ 0 1])) (gR g [.int .i64 now, .fs 4 [[.int .i64 g.fr, .int .i64 g.tt, .int .i64 tag, .fs 3 [[.int .i64 c.kd, .int .i64 c.fl, .str c.bd]]]]]) (by simp [Tx.look, zAv, setH, unown, zAw, wkN, m1]) rfl (by simp [Wk, WkL, Tx.look, zAv, setH, unown, zAw, wkN]) (by simp [zAw, wkN, m1]) (by simp [nfl, Tx.nf])), ?_⟩
 simp only [Tx.look, zAv, setH, unown, zAw, wkN, m1, m2, zH, zD, zFi, zBX, List.map, Ckx.row, go_sem];refine .val [] (.inl rfl) (by simp) (p := True) (v0 := .tup []) ?_ trivial ?_ ?_ ⟨hm, ?_, trivial⟩ ?_;·simp only [go_sem]
 ·simp [nmA, zDJ]
 ·simp [Tx.rn, Tx.rnL]
 ·rw [zFL];exact .pure (by simp [Tx.look, m1])
 ·simp [UpdAll, keys]
theorem zDe {F : SF} {L nx : Nat} (m : Nm) (hm : m.l ≤ L) (g : Gx) (now : Int) (u : PV) (s : Int) (hn : 0 ≤ now ∧ now ≤ 1099511627776) (hF : F m = some (.rows 123 22 true true [g.mrow now u])) :
  Con Tryz.prog 97 [.ptr m 0 0, .int .i64 s] F L nx nx (.tup []) [(m, .rows 123 22 true true [(zAL g s now).mrow now u])] [m] := by
 have m1 : ∀ k, (m = (⟨L + 1, k⟩ : Nm)) = False := zAF hm;have m2 : ∀ k, ((⟨L + 1, k⟩ : Nm) = m) = False := zAE hm;simp only [Gx.mrow, Gx.row, zAL, zH, zD] at hF ⊢;refine bdy Tryz.f97 (hrd := (by simp; omega)) ?_;intro F3 hF1 hF2;have kq := (hF1 m (by simp)).trans hF;simp only [Tryz.f97, kq, go_sem];repeat refine sd2 ?_
 exact po0 (.tup []) ⟨hm, by simp [Tx.look, BW], trivial⟩
theorem zB3 {F : SF} {L nx : Nat} (m : Nm) (hm : m.l ≤ L) (g : Gx) (now : Int) (u : PV) (s : Int) (hF : F m = some (.rows 123 22 true true [g.mrow now u])) :
  Con Tryz.prog 100 [.ptr m 0 0, .int .i64 s] F L nx nx (.tup []) [(m, .rows 123 22 true true [(zAj g s).mrow now u])] [m] := by
 have m1 : ∀ k, (m = (⟨L + 1, k⟩ : Nm)) = False := zAF hm;have m2 : ∀ k, ((⟨L + 1, k⟩ : Nm) = m) = False := zAE hm;simp only [Gx.mrow, Gx.row, zAj, zH, zD] at hF ⊢;refine bdy Tryz.f100 (hrd := (by simp; omega)) ?_;intro F3 hF1 hF2;have kq := (hF1 m (by simp)).trans hF;simp only [Tryz.f100, kq, go_sem];repeat refine sd2 ?_
 exact po0 (.tup []) ⟨hm, by simp [Tx.look, BW], trivial⟩
theorem zCY {F : SF} {L nx : Nat} (m : Nm) (hm : m.l ≤ L) (g : Gx) (now k : Int) (hF : F m = some (.rows 123 22 true true [g.mrow now .nilS])) :
  Con Tryz.prog 99 [.ptr m 0 0, .int .i64 k] F L nx nx (.tup []) [(m, .rows 123 22 true true [g.mrow now (zAr (zBR g k))])] [m] := by
 have m1 : ∀ k, (m = (⟨L + 1, k⟩ : Nm)) = False := zAF hm;have m2 : ∀ k, ((⟨L + 1, k⟩ : Nm) = m) = False := zAE hm;have hc := fun (F : SF) (nx : Nat) (hF : F m = _) => zDr (F := F) (L := L + 1) (nx := nx) m (by omega) g now g.peer.tag ⟨k, 0, []⟩ hF
 unfold zBR;obtain ⟨o, ho⟩ : ∃ o, o = zAr (zBX g g.peer.tag ⟨k, 0, []⟩) := ⟨_, rfl⟩;rw [← ho];simp only [← ho] at hc;simp only [Gx.mrow, Gx.row, Ckx.row, zH, zD] at hF hc ⊢;refine bdy Tryz.f99 (hrd := (by simp; omega)) ?_;intro F3 hF1 hF2;have kq := (hF1 m (by simp)).trans hF;simp only [Tryz.f99, kq, go_sem];repeat refine sd2 ?_
 refine CallVC.same (hc _ _ (by simp [kq])) ?_;simp only [go_sem];repeat refine sd2 ?_
 exact po0 (.tup []) ⟨hm, by simp [Tx.look, BW], trivial⟩
theorem zCS {F : SF} {L nx : Nat} (m : Nm) (hm : m.l ≤ L) (g : Gx) (now : Int) (hg : g.own.ok = true ∧ g.own.ck = []) (hF : F m = some (.rows 123 22 true true [g.mrow now .nilS])) :
  Con Tryz.prog 98 [.ptr m 0 0] F L nx nx (.tup []) [(m, .rows 123 22 true true [g.mrow now (zAr (zA2 g))])] [m] := by
 have m1 : ∀ k, (m = (⟨L + 1, k⟩ : Nm)) = False := zAF hm;have m2 : ∀ k, ((⟨L + 1, k⟩ : Nm) = m) = False := zAE hm;unfold zA2;by_cases h2 : g.st = 2
 ·rw [if_pos h2];have hI := fun F L nx => zCt (F := F) (L := L) (nx := nx) g.own
  rw [hg.1, if_pos rfl, hg.2, show zEi [] = 1 from rfl] at hI;have hc := fun (F : SF) (nx : Nat) (hF : F m = _) => zDr (F := F) (L := L + 1) (nx := nx) m (by omega) g now 0 ⟨1, 0, g.own.oct⟩ hF
  obtain ⟨o, ho⟩ : ∃ o, o = zAr (zBX g 0 ⟨1, 0, g.own.oct⟩) := ⟨_, rfl⟩;rw [← ho];simp only [← ho] at hc;have s2 : (g.st == 2) = true := by simp; omega
  simp only [Gx.mrow, Gx.row, Ckx.row, Ini.row, zH, zD] at hF hc hI ⊢;refine bdy Tryz.f98 (hrd := (by simp; omega)) ?_;intro F3 hF1 hF2;have kq := (hF1 m (by simp)).trans hF;simp only [Tryz.f98, kq, s2, go_sem];repeat refine sd2 ?_
  refine CallVC.same (hI _ _ _) ?_;simp only [go_sem];repeat refine sd2 ?_
  refine CallVC.same (hc _ _ (by simp [kq, m1])) ?_;simp only [m1, go_sem];repeat refine sd2 ?_
  exact po0 (.tup []) ⟨hm, by simp [Tx.look, BW, m1], trivial⟩
 rw [if_neg h2];have s2 : (g.st == 2) = false := by simp; omega
 by_cases h3 : g.st = 3
 ·rw [if_pos h3];have hc := fun (F : SF) (nx : Nat) (hF : F m = _) => zDr (F := F) (L := L + 1) (nx := nx) m (by omega) g now g.peer.tag ⟨10, 0, g.ck⟩ hF
  obtain ⟨o, ho⟩ : ∃ o, o = zAr (zBX g g.peer.tag ⟨10, 0, g.ck⟩) := ⟨_, rfl⟩;rw [← ho];simp only [← ho] at hc;have s3 : (g.st == 3) = true := by simp; omega
  simp only [Gx.mrow, Gx.row, Ckx.row, zH, zD] at hF hc ⊢;refine bdy Tryz.f98 (hrd := (by simp; omega)) ?_;intro F3 hF1 hF2;have kq := (hF1 m (by simp)).trans hF;simp only [Tryz.f98, kq, s2, s3, go_sem];repeat refine sd2 ?_
  refine CallVC.same (hc _ _ (by simp [kq])) ?_;simp only [go_sem];repeat refine sd2 ?_
  refine ⟨zAH (fun _ => 0) (by simp only [zDN, List.map]; kernel_rfl), ?_⟩;exact po0 (.tup []) ⟨hm, by simp [Tx.look, BW], trivial⟩
 rw [if_neg h3];have s3 : (g.st == 3) = false := by simp; omega
 by_cases h5 : g.st = 5
 ·rw [if_pos h5];have hc := fun (F : SF) (nx : Nat) (hF : F m = _) => zCY (F := F) (L := L + 1) (nx := nx) m (by omega) g now 7 hF
  obtain ⟨o, ho⟩ : ∃ o, o = zAr (zBR g 7) := ⟨_, rfl⟩;rw [← ho];simp only [← ho] at hc;have s5 : (g.st == 5) = true := by simp; omega
  simp only [Gx.mrow, Gx.row, zH, zD] at hF hc ⊢;refine bdy Tryz.f98 (hrd := (by simp; omega)) ?_;intro F3 hF1 hF2;have kq := (hF1 m (by simp)).trans hF;simp only [Tryz.f98, kq, s2, s3, s5, go_sem];repeat refine sd2 ?_
  refine CallVC.same (hc _ _ (by simp [kq])) ?_;simp only [go_sem];repeat refine sd2 ?_
  exact po0 (.tup []) ⟨hm, by simp [Tx.look, BW], trivial⟩
 rw [if_neg h5];have s5 : (g.st == 5) = false := by simp; omega
 by_cases h6 : g.st = 6
 ·rw [if_pos h6];have hc := fun (F : SF) (nx : Nat) (hF : F m = _) => zCY (F := F) (L := L + 1) (nx := nx) m (by omega) g now 8 hF
  obtain ⟨o, ho⟩ : ∃ o, o = zAr (zBR g 8) := ⟨_, rfl⟩;rw [← ho];simp only [← ho] at hc;have s6 : (g.st == 6) = true := by simp; omega
  simp only [Gx.mrow, Gx.row, zH, zD] at hF hc ⊢;refine bdy Tryz.f98 (hrd := (by simp; omega)) ?_;intro F3 hF1 hF2;have kq := (hF1 m (by simp)).trans hF;simp only [Tryz.f98, kq, s2, s3, s5, s6, go_sem];repeat refine sd2 ?_
  refine CallVC.same (hc _ _ (by simp [kq])) ?_;simp only [go_sem];repeat refine sd2 ?_
  exact po0 (.tup []) ⟨hm, by simp [Tx.look, BW], trivial⟩
 rw [if_neg h6];have s6 : (g.st == 6) = false := by simp; omega
 simp only [Gx.mrow, Gx.row, zH, zD, zAr] at hF ⊢;refine bdy Tryz.f98 (hrd := (by simp; omega)) ?_;intro F3 hF1 hF2;have kq := (hF1 m (by simp)).trans hF;simp only [Tryz.f98, kq, s2, s3, s5, s6, go_sem];repeat refine sd2 ?_
 exact po0 (.tup []) ⟨hm, by simp [Tx.look, BW, kq], trivial⟩
theorem zL5 {F : SF} {L nx : Nat} (m : Nm) (hm : m.l ≤ L) (g : Gx) (now : Int) (p : Pkx) (h1 : g.st ≠ 1) (hF : F m = some (.rows 123 22 true true [g.mrow now .nilS])) :
  Con Tryz.prog 53 [.ptr m 0 0, .agg p.row] F L nx nx (.bool false) [] [m] := by
 have m1 : ∀ k, (m = (⟨L + 1, k⟩ : Nm)) = False := zAF hm;have m2 : ∀ k, ((⟨L + 1, k⟩ : Nm) = m) = False := zAE hm;have s1 : (g.st != 1) = true := by simp; omega
 simp only [Gx.mrow, Gx.row, Pkx.row, zH, zD] at hF ⊢;refine bdy Tryz.f53 (hrd := (by simp; omega)) ?_;intro F3 hF1 hF2;have kq := (hF1 m (by simp)).trans hF;simp only [Tryz.f53, kq, m1, s1, go_sem];repeat refine sd2 ?_
 exact po0 (.bool false) trivial
theorem zNf {F : SF} {L nx : Nat} (m : Nm) (hm : m.l ≤ L) (g : Gx) (now : Int) (p : Pkx) (h1 : g.st = 1) (hn : 0 ≤ now ∧ now ≤ 1099511627776) (ho : g.own.ok = true ∧ g.own.ck = []) (hF : F m = some (.rows 123 22 true true [g.mrow now .nilS])) :
  Con Tryz.prog 53 [.ptr m 0 0, .agg p.row] F L nx nx (.bool true) [(m, .rows 123 22 true true [(zAL g 2 now).mrow now (zAr (zA2 (zAL g 2 now)))])] [m] := by
 have m1 : ∀ k, (m = (⟨L + 1, k⟩ : Nm)) = False := zAF hm;have m2 : ∀ k, ((⟨L + 1, k⟩ : Nm) = m) = False := zAE hm;have s1 : (g.st != 1) = false := by simp; omega
 have hb := fun (F : SF) (nx : Nat) (hF : F m = _) => zDe (F := F) (L := L + 1) (nx := nx) m (by omega) g now .nilS 2 hn hF
 have ha := fun (F : SF) (nx : Nat) (hF : F m = _) => zCS (F := F) (L := L + 1) (nx := nx) m (by omega) (zAL g 2 now) now ho hF
 obtain ⟨o, hoo⟩ : ∃ o, o = zAr (zA2 (zAL g 2 now)) := ⟨_, rfl⟩;rw [← hoo];simp only [← hoo] at ha;simp only [Gx.mrow, Gx.row, Pkx.row, zAL, zH, zD] at hF ha hb ⊢;refine bdy Tryz.f53 (hrd := (by simp; omega)) ?_;intro F3 hF1 hF2;have kq := (hF1 m (by simp)).trans hF;simp only [Tryz.f53, kq, m1, s1, go_sem];repeat refine sd2 ?_
 refine CallVC.same (hb _ _ (by simp [kq, m1])) ?_;simp only [m1, go_sem];repeat refine sd2 ?_
 refine CallVC.same (ha _ _ (by simp [m1])) ?_;simp only [m1, go_sem];repeat refine sd2 ?_
 exact po0 (.bool true) ⟨hm, by simp [Tx.look, BW, m1], trivial⟩ (by simp [UpdAll, keys, m2])
theorem zKY {F : SF} {L nx : Nat} (m : Nm) (hm : m.l ≤ L) (g : Gx) (now : Int) (p : Pkx) (h1 : g.st ≠ 4) (hF : F m = some (.rows 123 22 true true [g.mrow now .nilS])) :
  Con Tryz.prog 54 [.ptr m 0 0, .agg p.row] F L nx nx (.bool false) [] [m] := by
 have m1 : ∀ k, (m = (⟨L + 1, k⟩ : Nm)) = False := zAF hm;have m2 : ∀ k, ((⟨L + 1, k⟩ : Nm) = m) = False := zAE hm;have s1 : (g.st != 4) = true := by simp; omega
 simp only [Gx.mrow, Gx.row, Pkx.row, zH, zD] at hF ⊢;refine bdy Tryz.f54 (hrd := (by simp; omega)) ?_;intro F3 hF1 hF2;have kq := (hF1 m (by simp)).trans hF;simp only [Tryz.f54, kq, m1, s1, go_sem];repeat refine sd2 ?_
 exact po0 (.bool false) trivial
theorem zL6 {F : SF} {L nx : Nat} (m : Nm) (hm : m.l ≤ L) (g : Gx) (now : Int) (p : Pkx) (h1 : g.st = 4) (hn : 0 ≤ now ∧ now ≤ 1099511627776) (ho : g.own.ok = true ∧ g.own.ck = []) (hF : F m = some (.rows 123 22 true true [g.mrow now .nilS])) :
  Con Tryz.prog 54 [.ptr m 0 0, .agg p.row] F L nx nx (.bool true) [(m, .rows 123 22 true true [(zAL g 5 now).mrow now (zAr (zA2 (zAL g 5 now)))])] [m] := by
 have m1 : ∀ k, (m = (⟨L + 1, k⟩ : Nm)) = False := zAF hm;have m2 : ∀ k, ((⟨L + 1, k⟩ : Nm) = m) = False := zAE hm;have s1 : (g.st != 4) = false := by simp; omega
 have hb := fun (F : SF) (nx : Nat) (hF : F m = _) => zDe (F := F) (L := L + 1) (nx := nx) m (by omega) g now .nilS 5 hn hF
 have ha := fun (F : SF) (nx : Nat) (hF : F m = _) => zCS (F := F) (L := L + 1) (nx := nx) m (by omega) (zAL g 5 now) now ho hF
 obtain ⟨o, hoo⟩ : ∃ o, o = zAr (zA2 (zAL g 5 now)) := ⟨_, rfl⟩;rw [← hoo];simp only [← hoo] at ha;simp only [Gx.mrow, Gx.row, Pkx.row, zAL, zH, zD] at hF ha hb ⊢;refine bdy Tryz.f54 (hrd := (by simp; omega)) ?_;intro F3 hF1 hF2;have kq := (hF1 m (by simp)).trans hF;simp only [Tryz.f54, kq, m1, s1, go_sem];repeat refine sd2 ?_
 refine CallVC.same (hb _ _ (by simp [kq, m1])) ?_;simp only [m1, go_sem];repeat refine sd2 ?_
 refine CallVC.same (ha _ _ (by simp [m1])) ?_;simp only [m1, go_sem];repeat refine sd2 ?_
 exact po0 (.bool true) ⟨hm, by simp [Tx.look, BW, m1], trivial⟩ (by simp [UpdAll, keys, m2])
theorem zKZ {F : SF} {L nx : Nat} (m : Nm) (hm : m.l ≤ L) (g : Gx) (now : Int) (p : Pkx) (h1 : g.st = 1 ∨ g.st = 7) (hF : F m = some (.rows 123 22 true true [g.mrow now .nilS])) :
  Con Tryz.prog 55 [.ptr m 0 0, .agg p.row] F L nx nx (.bool false) [] [m] := by
 have m1 : ∀ k, (m = (⟨L + 1, k⟩ : Nm)) = False := zAF hm;have m2 : ∀ k, ((⟨L + 1, k⟩ : Nm) = m) = False := zAE hm;simp only [Gx.mrow, Gx.row, Pkx.row, zH, zD] at hF ⊢;rcases h1 with h1 | h1
 ·have s1 : (g.st == 1) = true := by simp; omega
  refine bdy Tryz.f55 (hrd := (by simp; omega)) ?_;intro F3 hF1 hF2;have kq := (hF1 m (by simp)).trans hF;simp only [Tryz.f55, kq, m1, s1, go_sem];repeat refine sd2 ?_
  exact po0 (.bool false) trivial
 ·have s1 : (g.st == 1) = false := by simp; omega
  have s7 : (g.st == 7) = true := by simp; omega
  refine bdy Tryz.f55 (hrd := (by simp; omega)) ?_;intro F3 hF1 hF2;have kq := (hF1 m (by simp)).trans hF;simp only [Tryz.f55, kq, m1, s1, s7, go_sem];repeat refine sd2 ?_
  exact po0 (.bool false) trivial
theorem zKa {F : SF} {L nx : Nat} (m : Nm) (hm : m.l ≤ L) (g : Gx) (now : Int) (p : Pkx) (h1 : g.st = 2) (hF : F m = some (.rows 123 22 true true [g.mrow now .nilS])) :
  Con Tryz.prog 55 [.ptr m 0 0, .agg p.row] F L nx nx (.bool true) [(m, .rows 123 22 true true [(zAj g 7).mrow now .nilS])] [m] := by
 have m1 : ∀ k, (m = (⟨L + 1, k⟩ : Nm)) = False := zAF hm;have m2 : ∀ k, ((⟨L + 1, k⟩ : Nm) = m) = False := zAE hm;have s1 : (g.st == 1) = false := by simp; omega
 have s7 : (g.st == 7) = false := by simp; omega
 have s2 : (g.st == 2) = true := by simp; omega
 have hr := fun (F : SF) (nx : Nat) (hF : F m = _) => zB3 (F := F) (L := L + 1) (nx := nx) m (by omega) g now .nilS 7 hF
 simp only [Gx.mrow, Gx.row, Pkx.row, zAj, zH, zD] at hF hr ⊢;refine bdy Tryz.f55 (hrd := (by simp; omega)) ?_;intro F3 hF1 hF2;have kq := (hF1 m (by simp)).trans hF;simp only [Tryz.f55, kq, m1, s1, s7, s2, go_sem];repeat refine sd2 ?_
 refine CallVC.same (hr _ _ (by simp [kq, m1])) ?_;simp only [m1, go_sem];repeat refine sd2 ?_
 exact po0 (.bool true) ⟨hm, by simp [Tx.look, BW, m1], trivial⟩ (by simp [UpdAll, keys, m2])
theorem zL7 {F : SF} {L nx : Nat} (m : Nm) (hm : m.l ≤ L) (g : Gx) (now : Int) (p : Pkx) (h1 : g.st ≠ 1 ∧ g.st ≠ 2 ∧ g.st ≠ 7) (hF : F m = some (.rows 123 22 true true [g.mrow now .nilS])) :
  Con Tryz.prog 55 [.ptr m 0 0, .agg p.row] F L nx nx (.bool true) [(m, .rows 123 22 true true [(zAj g 7).mrow now (zAr (zBR g 6))])] [m] := by
 have m1 : ∀ k, (m = (⟨L + 1, k⟩ : Nm)) = False := zAF hm;have m2 : ∀ k, ((⟨L + 1, k⟩ : Nm) = m) = False := zAE hm;have s1 : (g.st == 1) = false := by simp; omega
 have s7 : (g.st == 7) = false := by simp; omega
 have s2 : (g.st == 2) = false := by simp; omega
 have ht := fun (F : SF) (nx : Nat) (hF : F m = _) => zCY (F := F) (L := L + 1) (nx := nx) m (by omega) g now 6 hF
 have hr := fun (F : SF) (nx : Nat) (hF : F m = _) => zB3 (F := F) (L := L + 1) (nx := nx) m (by omega) g now (zAr (zBR g 6)) 7 hF
 obtain ⟨o, hoo⟩ : ∃ o, o = zAr (zBR g 6) := ⟨_, rfl⟩;rw [← hoo];simp only [← hoo] at ht hr;simp only [Gx.mrow, Gx.row, Pkx.row, zAj, zH, zD] at hF ht hr ⊢;refine bdy Tryz.f55 (hrd := (by simp; omega)) ?_;intro F3 hF1 hF2;have kq := (hF1 m (by simp)).trans hF;simp only [Tryz.f55, kq, m1, s1, s7, s2, go_sem];repeat refine sd2 ?_
 refine CallVC.same (ht _ _ (by simp [kq, m1])) ?_;simp only [m1, go_sem];repeat refine sd2 ?_
 refine CallVC.same (hr _ _ (by simp [m1])) ?_;simp only [m1, go_sem];repeat refine sd2 ?_
 exact po0 (.bool true) ⟨hm, by simp [Tx.look, BW, m1], trivial⟩ (by simp [UpdAll, keys, m2])
theorem zL8 {F : SF} {L nx : Nat} (m : Nm) (hm : m.l ≤ L) (g : Gx) (now : Int) (p : Pkx) (h1 : g.due < 0 ∨ now < g.due) (hF : F m = some (.rows 123 22 true true [g.mrow now .nilS])) :
  Con Tryz.prog 56 [.ptr m 0 0, .agg p.row] F L nx nx (.bool true) [(m, .rows 123 22 true true [g.mrow now .nilS])] [m] := by
 have m1 : ∀ k, (m = (⟨L + 1, k⟩ : Nm)) = False := zAF hm;have m2 : ∀ k, ((⟨L + 1, k⟩ : Nm) = m) = False := zAE hm;simp only [Gx.mrow, Gx.row, Pkx.row, zH, zD] at hF ⊢;by_cases h2 : g.due < 0
 ·have d1 : decide (g.due < 0) = true := dT (by omega);refine bdy Tryz.f56 (hrd := (by simp; omega)) ?_;intro F3 hF1 hF2;have kq := (hF1 m (by simp)).trans hF;simp only [Tryz.f56, kq, m1, d1, go_sem];repeat refine sd2 ?_
  refine ⟨zAH (fun _ => 0) (by simp only [zDN, List.map]; kernel_rfl), ?_⟩;exact po0 (.bool true) ⟨hm, by simp [Tx.look, BW, m1, kq], trivial⟩ (by simp [UpdAll, keys, m2])
 ·have d1 : decide (g.due < 0) = false := dF (by omega);have d2 : decide (g.due > now) = true := dT (by omega);have d2' : decide (now < g.due) = true := dT (by omega);refine bdy Tryz.f56 (hrd := (by simp; omega)) ?_;intro F3 hF1 hF2;have kq := (hF1 m (by simp)).trans hF;simp only [Tryz.f56, kq, m1, d1, d2, go_sem];repeat refine sd2 ?_
  refine ⟨zAH (fun _ => 0) (by simp only [zDN, List.map]; kernel_rfl), ?_⟩;exact po0 (.bool true) ⟨hm, by simp [Tx.look, BW, m1, kq], trivial⟩ (by simp [UpdAll, keys, m2])
theorem zL9 {F : SF} {L nx : Nat} (m : Nm) (hm : m.l ≤ L) (g : Gx) (now : Int) (p : Pkx) (h1 : 0 ≤ g.due ∧ g.due ≤ now) (h2 : g.tr = 8) (hF : F m = some (.rows 123 22 true true [g.mrow now .nilS])) :
  Con Tryz.prog 56 [.ptr m 0 0, .agg p.row] F L nx nx (.bool true) [(m, .rows 123 22 true true [(zAj g 7).mrow now .nilS])] [m] := by
 have m1 : ∀ k, (m = (⟨L + 1, k⟩ : Nm)) = False := zAF hm;have m2 : ∀ k, ((⟨L + 1, k⟩ : Nm) = m) = False := zAE hm;have d1 : decide (g.due < 0) = false := dF (by omega);have d2 : decide (g.due > now) = false := dF (by omega);have d2' : decide (now < g.due) = false := dF (by omega);have s8 : (g.tr == 8) = true := by simp; omega
 have hr := fun (F : SF) (nx : Nat) (hF : F m = _) => zB3 (F := F) (L := L + 1) (nx := nx) m (by omega) g now .nilS 7 hF
 simp only [Gx.mrow, Gx.row, Pkx.row, zAj, zH, zD] at hF hr ⊢;refine bdy Tryz.f56 (hrd := (by simp; omega)) ?_;intro F3 hF1 hF2;have kq := (hF1 m (by simp)).trans hF;simp only [Tryz.f56, kq, m1, d1, d2, s8, go_sem];repeat refine sd2 ?_
 refine ⟨zAH (fun _ => 0) (by simp only [zDN, List.map]; kernel_rfl), ?_⟩;refine CallVC.same (hr _ _ (by simp [kq, m1])) ?_;simp only [m1, go_sem];repeat refine sd2 ?_
 exact po0 (.bool true) ⟨hm, by simp [Tx.look, BW, m1], trivial⟩ (by simp [UpdAll, keys, m2])
theorem zO5 {n : Nat} (h8 : n < 9) : min (IntKind.i64.wrap (400 * 2 ^ min n 64)) 6400 = wtS (n : Int) := by
 have h : ∀ n : Nat, n < 9 → min (IntKind.i64.wrap (400 * 2 ^ min n 64)) 6400 = wtS (n : Int) := by decide
 exact h n h8
theorem zMA (n : Int) : 0 ≤ wtS n ∧ wtS n ≤ 6400 := by
 unfold wtS;have : (0 : Int) < 2 ^ n.toNat := Int.pow_pos (by decide);omega
theorem zNg {F : SF} {L nx : Nat} (m : Nm) (hm : m.l ≤ L) (g : Gx) (now : Int) (p : Pkx) (h1 : 0 ≤ g.due ∧ g.due ≤ now) (h2 : 1 ≤ g.tr ∧ g.tr < 8) (hn : now ≤ 1099511627776) (ho : g.own.ok = true ∧ g.own.ck = []) (hF : F m = some (.rows 123 22 true true [g.mrow now .nilS])) :
  Con Tryz.prog 56 [.ptr m 0 0, .agg p.row] F L nx nx (.bool true) [(m, .rows 123 22 true true [({ g with due := now + wtS g.tr, tr := g.tr + 1 } : Gx).mrow now (zAr (zA2 g))])] [m] := by
 have m1 : ∀ k, (m = (⟨L + 1, k⟩ : Nm)) = False := zAF hm;have m2 : ∀ k, ((⟨L + 1, k⟩ : Nm) = m) = False := zAE hm;have d1 : decide (g.due < 0) = false := dF (by omega);have d2 : decide (g.due > now) = false := dF (by omega);have d2' : decide (now < g.due) = false := dF (by omega);have s8 : (g.tr == 8) = false := by simp; omega
 have ha := fun (F : SF) (nx : Nat) (hF : F m = _) => zCS (F := F) (L := L + 1) (nx := nx) m (by omega) g now ho hF
 obtain ⟨o, hoo⟩ : ∃ o, o = zAr (zA2 g) := ⟨_, rfl⟩;rw [← hoo];simp only [← hoo] at ha;obtain ⟨n, hn9⟩ : ∃ n : Nat, g.tr = n := ⟨g.tr.toNat, by omega⟩;rw [hn9] at h2 s8;simp only [Gx.mrow, Gx.row, Pkx.row, zH, zD] at hF ha ⊢;simp only [hn9] at hF ha ⊢;refine bdy Tryz.f56 (hrd := (by simp; omega)) ?_;intro F3 hF1 hF2;have kq := (hF1 m (by simp)).trans hF;simp only [Tryz.f56, kq, m1, d1, d2, s8, go_sem];repeat refine sd2 ?_
 refine ⟨zAH (fun _ => 0) (by simp only [zDN, List.map]; kernel_rfl), ?_⟩;refine CallVC.same (ha _ _ (by simp [kq, m1])) ?_;simp only [kq, m1, go_sem];repeat refine sd2 ?_
 have hw := zO5 (n := n) (by omega);have hwl := zMA (n : Int);rw [hw];refine ⟨⟨by omega, by omega⟩, zAH (fun _ => 0) (by simp only [zDN, List.map]; kernel_rfl), ⟨by omega, by omega⟩, ?_⟩;exact po0 (.bool true) ⟨hm, by simp [Tx.look, BW, m1], trivial⟩ (by simp [UpdAll, keys, m2])
end Go.Proofs.YtifhjhbfhdcahaaGreat
end
