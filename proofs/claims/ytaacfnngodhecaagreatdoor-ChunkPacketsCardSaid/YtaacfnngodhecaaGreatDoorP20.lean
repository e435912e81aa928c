/- Lemmas for the walk: WK58, WD23, WK59, WR35, WK62, WD24, WD25, WD28, WD29, WK63, WK64. -/
import Derived.Test.YtaacfnngodhecaaGreatDoorP19
import Derived.Test.YtaacfnngodhecaaGreatDoorP18
import Derived.Test.YtaacfnngodhecaaGreatDoorP15
import Derived.Test.YtaacfnngodhecaaGreatDoorP13
set_option linter.all false
section
namespace Go.Proofs.YtaacfnngodhecaaGreatDoor
open Go.Tx
set_option maxRecDepth 100000
set_option maxHeartbeats 16000000
theorem rUp_ok {F : SF} {L nx : Nat} (n : Nat) (hn : n ≤ 1000000000) : Con Tryz.prog 59 [.int .i64 n, .int .i64 4] F L nx nx (.int .i64 (((n + 3) / 4 * 4 : Nat) : Int)) [] [] := by
 refine bdy Tryz.f59 ?_
 intro F3 hF1 hF2
 simp only [Tryz.f59, cx, go_sem, meths]
 refine loopK.intro _ _ (I := fun i : Nat => ⟨[some (.int .i64 ((n + i : Nat) : Int)), some (.int .i64 4)] ++ oz 10, [], 10000 * (i + 1)⟩) (pre := fun i => n + i ≤ (n + 3) / 4 * 4) (μ := fun i => (n + 3) / 4 * 4 - (n + i)) 0 (by omega) ?_ ?_
 ·refine Sub.of (hfz hF2) (by simp only [Nat.add_zero, go_sem, subT, and_self]) ?_ (by simp [subK]) (by simp)
  simp [subH]
 intro i hi
 have tm : ((n + i : Nat) : Int).tmod 4 = (((n + i) % 4 : Nat) : Int) := by
  rw [Int.tmod_eq_emod_of_nonneg (by omega)]; rfl
 by_cases h : (n + i) % 4 = 0
 ·have g1 : ((((n + i) % 4 : Nat) : Int) != 0) = false := by rw [h]; rfl
  have e : (n + 3) / 4 * 4 = n + i := by omega
  simp only [tm, g1, Nat.add_assoc, go_sem]
  repeat refine sd2 ?_
  rw [e]
  exact PostF.rs (v0 := .int .i64 ((n + i : Nat) : Int)) (.inr rfl)
 ·have g1 : ((((n + i) % 4 : Nat) : Int) != 0) = true := by simp; omega
  have e : ((n + i : Nat) : Int) + 1 = ((n + (i + 1) : Nat) : Int) := by omega
  simp only [tm, g1, Nat.add_assoc, go_sem]
  repeat refine sd2 ?_
  refine ⟨i + 1, by omega, by omega, ?_⟩
  refine Sub.of (hfz hF2) (by simp only [e, go_sem, subT, and_self]) ?_ (by simp [subK]) (by simp only []; omega)
  simp [subH]
theorem serB8 {n : Int} (h : serB 8 n = true) : 0 ≤ n ∧ n ≤ 255 := by
 unfold serB at h; simp at h; omega
theorem serB8' {n : Int} (h : 0 ≤ n) (h' : n ≤ 255) : serB 8 n = true := by
 unfold serB; simp; omega
theorem rRight_ok {F : SF} {L nx : Nat} (p : Pkx) (hlen : p.cs.length ≤ maxLen) (hb : ∀ c ∈ p.cs, c.bd.length ≤ maxLen) : Con Tryz.prog 12 [.agg p.row] F L nx nx (.bool p.ok) [] [] := by
 unfold maxLen at hlen hb
 refine bdy Tryz.f12 ?_
 intro F3 hF1 hF2
 simp only [Tryz.f12, cx, Pkx.row, Nat.add_zero, go_sem, meths]
 refine CallVC.same (xShort_ok p.fr) ?_
 unfold Pkx.ok Pkx.hd
 cases h1 : serB 16 p.fr with
 | false =>
  simp only [Bool.not_false, Bool.false_and, go_sem]
  exact .bool (.inr rfl) rfl rfl (by simp [UpdAll])
 | true =>
 simp only [Bool.not_true, Bool.true_and, go_sem]
 refine CallVC.same (xShort_ok p.tt) ?_
 cases h2 : serB 16 p.tt with
 | false =>
  simp only [Bool.not_false, Bool.false_and, go_sem]
  exact .bool (.inr rfl) rfl rfl (by simp [UpdAll])
 | true =>
 simp only [Bool.not_true, Bool.true_and, go_sem]
 refine CallVC.same (xWide_ok p.tg) ?_
 cases h3 : serB 32 p.tg with
 | false =>
  simp only [Bool.not_false, Bool.false_and, go_sem]
  exact .bool (.inr rfl) rfl rfl (by simp [UpdAll])
 | true =>
 by_cases h4 : p.cs.length < 1
 ·have g4 : decide ((p.cs.length : Int) < 1) = true := dT (by omega)
  have g4' : decide (1 ≤ p.cs.length) = false := dF (by omega)
  simp only [g4, g4', Bool.not_false, Bool.not_true, Bool.false_and, Bool.true_and, List.length_map, go_sem]
  exact .bool (.inr rfl) rfl rfl (by simp [UpdAll])
 have g4 : decide ((p.cs.length : Int) < 1) = false := dF (by omega)
 have g4' : decide (1 ≤ p.cs.length) = true := dT (by omega)
 by_cases h5 : 40 < p.cs.length
 ·have g5 : decide ((40 : Int) < (p.cs.length : Int)) = true := dT (by omega)
  have g5' : decide (p.cs.length ≤ 40) = false := dF (by omega)
  simp only [g4, g4', g5, g5', Bool.not_false, Bool.not_true, Bool.false_and, Bool.true_and, List.length_map, go_sem]
  exact .bool (.inr rfl) rfl rfl (by simp [UpdAll])
 have g5 : decide ((40 : Int) < (p.cs.length : Int)) = false := dF (by omega)
 have g5' : decide (p.cs.length ≤ 40) = true := dT (by omega)
 simp only [g4, g4', g5, g5', Bool.not_false, Bool.not_true, Bool.false_and, Bool.true_and, List.length_map, go_sem]
 refine loopK.intro _ _ (I := fun i : Nat => ⟨[none, some (.ptr ⟨L + 1, 0⟩ 0 0), none, some (.int .i64 ((12 + szs (p.cs.take i) : Nat) : Int)), some (.int .i64 i)] ++ oz 74, [(⟨L + 1, 0⟩, .rows 24 4 true true [[.int .i64 p.fr, .int .i64 p.tt, .int .i64 p.tg, .fs 3 (p.cs.map Ckx.row)]])], 10000 * (i + 1)⟩)
  (pre := fun i => i ≤ p.cs.length ∧ szs (p.cs.take i) ≤ 1204 * i ∧ (p.cs.take i).all Ckx.ok = true) (μ := fun i => p.cs.length - i) 0 ⟨by omega, by simp [szs], by simp⟩ ?_ ?_
 ·refine Sub.of (hfz hF2) (by simp only [List.take_zero, szs, List.map_nil, List.sum_nil, Nat.add_zero, go_sem, subT, and_self, Int.natCast_zero]; try trivial) ?_ (by simp [subK, keys]) (by simp)
  simp [subH, Tx.look]
 rintro i ⟨hi, hz, hal⟩
 by_cases hlt : i < p.cs.length
 ·have q1 : decide ((i : Int) < (p.cs.length : Int)) = true := dT (by omega)
  have r0 := rowCk hlt
  obtain ⟨c, hc⟩ : ∃ c, c = p.cs[i] := ⟨_, rfl⟩
  have hcl := hb c (by rw [hc]; exact List.getElem_mem _)
  have htk : p.cs.take (i + 1) = p.cs.take i ++ [c] := by rw [hc]; simp
  rw [← hc] at r0
  have mem : c ∈ p.cs := by rw [hc]; exact List.getElem_mem _
  cases hok : c.ok with
  | true =>
   have hok' := hok
   unfold Ckx.ok at hok
   simp only [Bool.and_eq_true, decide_eq_true_eq] at hok
   obtain ⟨⟨k1, k2⟩, k3⟩ := hok
   have k1' := serB8 k1
   have k2' := serB8 k2
   have d1 : decide (c.kd < 0) = false := dF (by omega)
   have d2 : decide (255 < c.kd) = false := dF (by omega)
   have d3 : decide (c.fl < 0) = false := dF (by omega)
   have d4 : decide (255 < c.fl) = false := dF (by omega)
   have d5 : decide ((1200 : Int) < (c.bd.length : Int)) = false := dF (by omega)
   have z1 : szs (p.cs.take (i + 1)) = szs (p.cs.take i) + (4 + (c.bd.length + 3) / 4 * 4) := by rw [htk]; simp [szs, Ckx.sz]
   have z2 : (c.bd.length + 3) / 4 * 4 ≤ 1200 := by omega
   simp only [q1, r0, d1, d2, d3, d4, d5, Ckx.row, List.length_map, Int.toNat_natCast, kS2, Nat.add_assoc, Nat.add_zero, go_sem]
   repeat refine sd2 ?_
   refine CallVC.same (rUp_ok c.bd.length (by omega)) ?_
   simp only [Nat.add_assoc, go_sem]
   repeat refine sd2 ?_
   refine ⟨i + 1, ⟨by omega, by omega, by rw [htk, List.all_append, hal]; simp [hok']⟩, by omega, ?_⟩
   have e : ((12 + szs (p.cs.take i) : Nat) : Int) + 4 + (((c.bd.length + 3) / 4 * 4 : Nat) : Int) = ((12 + szs (p.cs.take (i + 1)) : Nat) : Int) := by omega
   refine Sub.of (hfz hF2) (by simp only [e, go_sem, subT, and_self, Int.natCast_succ]) ?_ (by simp [subK, keys]) (by simp only []; omega)
   simp [subH, Tx.look]
  | false =>
   have hall : p.cs.all Ckx.ok = false := by
    rw [List.all_eq_false]; exact ⟨c, mem, by simp [hok]⟩
   have hcase : c.kd < 0 ∨ (¬ c.kd < 0 ∧ 255 < c.kd) ∨ (¬ c.kd < 0 ∧ ¬ 255 < c.kd ∧ c.fl < 0) ∨ (¬ c.kd < 0 ∧ ¬ 255 < c.kd ∧ ¬ c.fl < 0 ∧ 255 < c.fl) ∨ (¬ c.kd < 0 ∧ ¬ 255 < c.kd ∧ ¬ c.fl < 0 ∧ ¬ 255 < c.fl ∧ 1200 < c.bd.length) := by
    unfold Ckx.ok at hok
    by_cases a1 : c.kd < 0
    ·exact .inl a1
    by_cases a2 : 255 < c.kd
    ·exact .inr (.inl ⟨a1, a2⟩)
    by_cases a3 : c.fl < 0
    ·exact .inr (.inr (.inl ⟨a1, a2, a3⟩))
    by_cases a4 : 255 < c.fl
    ·exact .inr (.inr (.inr (.inl ⟨a1, a2, a3, a4⟩)))
    ·refine .inr (.inr (.inr (.inr ⟨a1, a2, a3, a4, ?_⟩)))
     rw [serB8' (by omega) (by omega), serB8' (by omega) (by omega)] at hok
     simpa using hok
   rw [hall]
   rcases hcase with a1 | ⟨a1, a2⟩ | ⟨a1, a2, a3⟩ | ⟨a1, a2, a3, a4⟩ | ⟨a1, a2, a3, a4, a5⟩
   ·have d1 : decide (c.kd < 0) = true := dT (by omega)
    simp only [q1, r0, d1, Ckx.row, List.length_map, Int.toNat_natCast, Bool.and_false, Bool.false_and, kS2, Nat.add_assoc, Nat.add_zero, go_sem]
    repeat refine sd2 ?_
    exact .bool (.inr rfl) rfl rfl (by simp [UpdAll])
   ·have d1 : decide (c.kd < 0) = false := dF (by omega)
    have d2 : decide (255 < c.kd) = true := dT (by omega)
    simp only [q1, r0, d1, d2, Ckx.row, List.length_map, Int.toNat_natCast, Bool.and_false, Bool.false_and, kS2, Nat.add_assoc, Nat.add_zero, go_sem]
    repeat refine sd2 ?_
    exact .bool (.inr rfl) rfl rfl (by simp [UpdAll])
   ·have d1 : decide (c.kd < 0) = false := dF (by omega)
    have d2 : decide (255 < c.kd) = false := dF (by omega)
    have d3 : decide (c.fl < 0) = true := dT (by omega)
    simp only [q1, r0, d1, d2, d3, Ckx.row, List.length_map, Int.toNat_natCast, Bool.and_false, Bool.false_and, kS2, Nat.add_assoc, Nat.add_zero, go_sem]
    repeat refine sd2 ?_
    exact .bool (.inr rfl) rfl rfl (by simp [UpdAll])
   ·have d1 : decide (c.kd < 0) = false := dF (by omega)
    have d2 : decide (255 < c.kd) = false := dF (by omega)
    have d3 : decide (c.fl < 0) = false := dF (by omega)
    have d4 : decide (255 < c.fl) = true := dT (by omega)
    simp only [q1, r0, d1, d2, d3, d4, Ckx.row, List.length_map, Int.toNat_natCast, Bool.and_false, Bool.false_and, kS2, Nat.add_assoc, Nat.add_zero, go_sem]
    repeat refine sd2 ?_
    exact .bool (.inr rfl) rfl rfl (by simp [UpdAll])
   ·have d1 : decide (c.kd < 0) = false := dF (by omega)
    have d2 : decide (255 < c.kd) = false := dF (by omega)
    have d3 : decide (c.fl < 0) = false := dF (by omega)
    have d4 : decide (255 < c.fl) = false := dF (by omega)
    have d5 : decide ((1200 : Int) < (c.bd.length : Int)) = true := dT (by omega)
    simp only [q1, r0, d1, d2, d3, d4, d5, Ckx.row, List.length_map, Int.toNat_natCast, Bool.and_false, Bool.false_and, kS2, Nat.add_assoc, Nat.add_zero, go_sem]
    repeat refine sd2 ?_
    exact .bool (.inr rfl) rfl rfl (by simp [UpdAll])
 ·have q1 : decide ((i : Int) < (p.cs.length : Int)) = false := dF (by omega)
  have hin : p.cs.take i = p.cs := List.take_of_length_le (by omega)
  rw [hin] at hal ⊢
  have q2 : decide (((12 + szs p.cs : Nat) : Int) ≤ 1200) = decide (12 + szs p.cs ≤ 1200) := by
   by_cases h : 12 + szs p.cs ≤ 1200
   ·rw [dT (by omega), dT h]
   ·rw [dF (by omega), dF h]
  simp only [q1, q2, hal, Bool.true_and, List.length_map, Nat.add_assoc, go_sem]
  exact .bool (.inr rfl) rfl rfl (by simp [UpdAll])
theorem dat_ok_len {d : Dat} (h : d.ok = true) : d.pl.length ≤ 1100 := by
 unfold Dat.ok at h
 simp only [Bool.and_eq_true, decide_eq_true_eq] at h
 omega
theorem ini_ok_len {d : Ini} (h : d.ok = true) : d.ck.length ≤ 200 := by
 unfold Ini.ok at h
 simp only [Bool.and_eq_true, decide_eq_true_eq] at h
 omega
theorem rst_len {k n la r : Int} {xs : List Int} (h : resetV k n la r xs = true) : (resetB k n la r xs).length ≤ 100 := by
 obtain ⟨_, _, _, _, h4⟩ := rstB h
 have hx : xs.length ≤ 30 := by rcases h4 with ⟨_, _, h4⟩ | ⟨_, _, _, h4⟩ <;> simp_all
 rw [resetB_len]
 split <;> omega
theorem Pcx.chk_other (p : Pcx) : (p.pl.take 60).length ≤ 1112 ∧ ((0 : Int) ≤ ((p.a % 2 : Nat) : Int) ∧ ((p.a % 2 : Nat) : Int) ≤ 255) ∧ ((0 : Int) ≤ ((kds.getD (p.w / 8 % 8) 0 : Nat) : Int) ∧ ((kds.getD (p.w / 8 % 8) 0 : Nat) : Int) ≤ 255) := by
 refine ⟨by rw [List.length_take]; omega, by omega, ?_⟩
 have hx : p.w / 8 % 8 < 8 := Nat.mod_lt _ (by omega)
 obtain ⟨x, hx9⟩ : ∃ x, x = p.w / 8 % 8 := ⟨_, rfl⟩
 rw [← hx9] at hx ⊢
 rcases (show x = 0 ∨ x = 1 ∨ x = 2 ∨ x = 3 ∨ x = 4 ∨ x = 5 ∨ x = 6 ∨ x = 7 by omega) with rfl | rfl | rfl | rfl | rfl | rfl | rfl | rfl <;> decide
theorem Pcx.chk_small {p : Pcx} (hp : p.Ok) : p.chk.bd.length ≤ 1112 ∧ (0 ≤ p.chk.fl ∧ p.chk.fl ≤ 255) ∧ (0 ≤ p.chk.kd ∧ p.chk.kd ≤ 255) := by
 have h1 := dat_ok_len hp.dat
 have h3 := ini_ok_len (hp.ini p.m8)
 have h2 := sackB hp.sck
 have h4 := fwdB hp.fwd
 have h5 := rst_len hp.rst
 have f1 := flD_ran p.dat.la p.dat.fi p.dat.lo
 obtain ⟨m, hm⟩ : ∃ m, m = p.w % 8 := ⟨_, rfl⟩
 have hm8 : m < 8 := by rw [hm]; exact Nat.mod_lt _ (by omega)
 unfold Pcx.chk
 rw [← hm]
 have s1 : ∀ (k : Int) (b : List UInt8), b.length ≤ 1112 → 0 ≤ k ∧ k ≤ 255 → b.length ≤ 1112 ∧ ((0 : Int) ≤ 0 ∧ (0 : Int) ≤ 255) ∧ (0 ≤ k ∧ k ≤ 255) := fun k b h h' => ⟨h, by omega, h'⟩
 have s2 : (dataB p.dat).length ≤ 1112 := by rw [dataB_len]; omega
 rcases (show m = 6 ∨ m = 7 ∨ m = 0 ∨ m = 1 ∨ m = 2 ∨ m = 3 ∨ m = 4 ∨ m = 5 by omega) with rfl | rfl | rfl | rfl | rfl | rfl | rfl | rfl
 ·exact Pcx.chk_other p
 ·exact Pcx.chk_other p
 ·exact ⟨s2, ⟨f1.1, by have := f1.2; show flD _ _ _ 3 ≤ 255; omega⟩, by show (0 : Int) ≤ 0 ∧ (0 : Int) ≤ 255; omega⟩
 ·exact ⟨s2, ⟨f1.1, by have := f1.2; show flD _ _ _ 3 ≤ 255; omega⟩, by show (0 : Int) ≤ 0 ∧ (0 : Int) ≤ 255; omega⟩
 ·exact s1 3 (sackO p.a p.b ((p.gp p.n).map kN) ((p.db (p.c % 6)).map fun x : Nat => (x : Int))) (by rw [sackO_len]; omega) (by omega)
 ·exact s1 (iniK (p.ini p.m8).ck) (p.ini p.m8).oct (by rw [ini_oct_len]; omega) (by unfold iniK; split <;> omega)
 ·exact s1 192 (fwdT p.a (p.sk p.n)) (by rw [fwdT_len]; simp only [List.length_map] at h4; omega) (by omega)
 ·exact s1 130 (resetB p.rst.kind p.rst.num p.rst.last p.rst.res p.rst.xs) (by omega) (by omega)
structure Dfx where
 fr : Nat
 tt : Nat
 tg : Nat
 ps : List Pcx
def Dfx.row (d : Dfx) : List PV := [.int .u16 d.fr, .int .u16 d.tt, .int .u32 d.tg, .fs 7 (d.ps.map Pcx.row)]
structure Dfx.Ok (d : Dfx) : Prop where
 fr : d.fr < 65536
 tt : d.tt < 65536
 tg : d.tg < 4294967296
 l : d.ps.length ≤ maxLen
 p : ∀ p ∈ d.ps, p.Ok
def Dfx.pk (d : Dfx) (cs : List Ckx) : Pkx := ⟨d.fr, d.tt, d.tg, cs⟩
def Dfx.ch (d : Dfx) (i : Nat) : Ckx := ((d.ps.map Pcx.chk).getD i ⟨11, 0, []⟩)
def Dfx.cs (d : Dfx) : Nat → List Ckx
 | 0 => []
 | i + 1 => if (d.pk (d.cs i ++ [d.ch i])).ok then d.cs i ++ [d.ch i] else d.cs i
def Dfx.n (d : Dfx) : Nat := min d.ps.length 6
def Dfx.all (d : Dfx) : List Ckx := if d.cs d.n = [] then [⟨11, 0, []⟩] else d.cs d.n
theorem Dfx.cs_len (d : Dfx) : ∀ i, (d.cs i).length ≤ i
 | 0 => Nat.le_refl _
 | i + 1 => by
  have := d.cs_len i
  unfold Dfx.cs
  split
  ·rw [List.length_append]; simp only [List.length_cons, List.length_nil]; omega
  ·omega
theorem rowPcx {ps : List Pcx} {i : Nat} (h : i < ps.length) : (ps.map Pcx.row).getD i [] = (ps[i]).row := by simp [List.getD_eq_getElem?_getD, h]
theorem Dfx.ch_at {d : Dfx} {i : Nat} (h : i < d.ps.length) : d.ch i = (d.ps[i]).chk := by simp [Dfx.ch, List.getD_eq_getElem?_getD, h]
theorem Dfx.cs_small {d : Dfx} (hd : d.Ok) : ∀ i, i ≤ d.ps.length → ∀ c ∈ d.cs i, c.bd.length ≤ 1112
 | 0, _, c, hc => by simp [Dfx.cs] at hc
 | i + 1, hi, c, hc => by
  unfold Dfx.cs at hc
  have ih := Dfx.cs_small hd i (by omega)
  split at hc
  ·rcases List.mem_append.1 hc with h | h
   ·exact ih c h
   ·simp only [List.mem_cons, List.not_mem_nil, or_false] at h
    rw [h, Dfx.ch_at (by omega)]
    exact (Pcx.chk_small (hd.p _ (List.getElem_mem _))).1
  ·exact ih c hc
theorem dPacket_ok {F : SF} {L nx : Nat} (d : Dfx) (hd : d.Ok) : Con Tryz.prog 11 [.agg d.row] F L nx nx (.agg (d.pk d.all).row) [] [] := by
 have hdd := hd
 obtain ⟨hf, ht, hg, hl, hp⟩ := hd
 unfold maxLen at hl
 refine bdy Tryz.f11 ?_
 intro F3 hF1 hF2
 simp only [Tryz.f11, cx, Dfx.row, Nat.add_zero, go_sem, meths]
 repeat refine sd2 ?_
 refine loopK.intro _ _ (I := fun z : Nat × Nat => ⟨[none, some (.ptr ⟨L + 1, 0⟩ 0 0), some (.ptr ⟨L + 1, 32⟩ 0 0), some (.ptr ⟨L + 1, 384⟩ 0 0), some (.int .i64 z.1)] ++ oz 48,
  [(⟨L + 1, 0⟩, .rows 29 4 true true [[.int .u16 d.fr, .int .u16 d.tt, .int .u32 d.tg, .fs 7 (d.ps.map Pcx.row)]]), (⟨L + 1, 32⟩, .rows 24 4 true true [[.int .i64 0, .int .i64 0, .int .i64 0, .nilS]]), (⟨L + 1, 384⟩, .rows 24 4 true false [[.int .i64 d.fr, .int .i64 d.tt, .int .i64 d.tg, .sl ⟨L + 1, z.2⟩ 0 (d.cs z.1).length]]), (⟨L + 1, z.2⟩, .rows 34 3 true true ((d.cs z.1).map Ckx.row))], 10000 * (z.1 + 1)⟩)
  (pre := fun z => z.1 ≤ d.n ∧ 480 ≤ z.2 ∧ z.2 < 10000 * (z.1 + 1)) (μ := fun z => d.n - z.1) (0, 480) ⟨by simp, by simp, by simp⟩ ?_ ?_
 ·refine Sub.trans (Sub.nilCell (n := ⟨L + 1, 384⟩) (e := 24) (e2 := 34) (wd := 4) (wd2 := 3) (o := true) (p := true) (row := [.int .i64 d.fr, .int .i64 d.tt, .int .i64 d.tg, .nilS]) (row1 := [.int .i64 d.fr, .int .i64 d.tt, .int .i64 d.tg, .sl ⟨L + 1, 480⟩ 0 0]) (by omega) (by simp [Tx.look]) (by simp) rfl ?_) ?_
  ·intro k
   rcases k with _ | _ | _ | _ | k
   ·exact .inl rfl
   ·exact .inl rfl
   ·exact .inl rfl
   ·exact .inr ⟨rfl, rfl⟩
   ·exact .inl rfl
  ·refine Sub.of (hfz hF2) (by simp only [go_sem, subT, and_self, Int.natCast_zero]; try trivial) ?_ ?_ ?_
   ·simp [subH, Tx.look, updH, setH, Dfx.cs]
   ·simp [subK, keys, updH, setH]
   ·simp
 rintro ⟨i, q⟩ ⟨hi, hq0, hq⟩
 simp only at hi hq0 hq ⊢
 have hcl := d.cs_len i
 have hn6 : d.n ≤ 6 := by unfold Dfx.n; omega
 have hnl : d.n ≤ d.ps.length := by unfold Dfx.n; omega
 have hsm := d.cs_small hdd i (by omega)
 obtain ⟨cs, hcs⟩ : ∃ cs, cs = d.cs i := ⟨_, rfl⟩
 have hsucc : d.cs (i + 1) = if (d.pk (d.cs i ++ [d.ch i])).ok then d.cs i ++ [d.ch i] else d.cs i := rfl
 rw [← hcs] at hcl hsm hsucc ⊢
 have hcm : (cs.map Ckx.row).length = cs.length := List.length_map _
 have q_0 : (q = 0) = False := by apply eq_false; omega
 have n0_q : (0 = q) = False := by apply eq_false; omega
 have q_32 : (q = 32) = False := by apply eq_false; omega
 have n32_q : (32 = q) = False := by apply eq_false; omega
 have q_384 : (q = 384) = False := by apply eq_false; omega
 have n384_q : (384 = q) = False := by apply eq_false; omega
 obtain ⟨q_n1, q_n2, q_n3, q_n4, q_n5⟩ := nqL L (i := i) (p := q) (by omega)
 by_cases hlt : i < d.n
 ·have f1 : decide ((i : Int) < (d.ps.length : Int)) = true := dT (by omega)
  have f2 : decide ((i : Int) < 6) = true := dT (by omega)
  have r0 := rowPcx (ps := d.ps) (i := i) (by omega)
  have hch := d.ch_at (i := i) (by omega)
  have hpi := hp (d.ps[i]'(by omega)) (List.getElem_mem _)
  obtain ⟨p, hpp⟩ : ∃ p, p = d.ps[i]'(by omega) := ⟨_, rfl⟩
  rw [← hpp] at r0 hch hpi
  have hps := Pcx.chk_small hpi
  have cC := fun F L nx => pChunk_ok (F := F) (L := L) (nx := nx) p hpi
  rw [← hch] at hps cC
  obtain ⟨c, hc⟩ : ∃ c, c = d.ch i := ⟨_, rfl⟩
  rw [← hc] at hps cC hsucc
  simp only [Ckx.row] at cC
  have prl : p.row.length = 7 := rfl
  have prn : nfl p.row = true := rfl
  have nb9 : (10000 * (i + 1) + 512 == 10000 * (i + 1) + 704) = false := by simp
  have htk : List.take cs.length (cs.map Ckx.row) = cs.map Ckx.row := List.take_of_length_le (by simp)
  have hR := fun F L nx => rRight_ok (F := F) (L := L) (nx := nx) (d.pk (cs ++ [c])) (by show (cs ++ [c]).length ≤ maxLen; rw [List.length_append]; simp only [List.length_cons, List.length_nil]; unfold maxLen; omega) (by
   intro x hx
   have : x.bd.length ≤ 1112 := by
    rcases List.mem_append.1 hx with h | h
    ·exact hsm x h
    ·simp only [List.mem_cons, List.not_mem_nil, or_false] at h
     rw [h]; exact hps.1
   unfold maxLen; omega)
  simp only [f1, f2, r0, htk, hcm, List.length_map, q_0, n0_q, q_32, q_384, n384_q, q_n1, q_n2, kS2, kS2', kS3, Nat.add_assoc, go_sem]
  repeat refine sd2 ?_
  refine CallVC.same (cC _ _ _) ?_
  simp only [htk, hcm, nb9, q_n1, knm_beq, kS2, kS3, Nat.add_assoc, go_sem]
  repeat refine sd2 ?_
  refine ⟨okDyn_num (fun x => if x.i = q then 1 else if x.i = 384 then 2 else x.i % 10000 + 100) (by simp only [numF, List.map, n0_q, q_384, n384_q, q_n1, Nat.reduceEqDiff, if_true, if_false, Nat.mul_add_mod, Nat.reduceMod]; kernel_rfl), ?_⟩
  repeat refine sd2 ?_
  have hwk : wkN (.agg [.int .i64 d.fr, .int .i64 d.tt, .int .i64 d.tg, .sl ⟨L + 1, 10000 * (i + 1) + 736⟩ 0 (cs.length + 1)]) (.agg (d.pk (cs ++ [c])).row) = [⟨L + 1, 10000 * (i + 1) + 736⟩] := by simp [Dfx.pk, Pkx.row, wkN, wkNL]
  refine CallVC.pure (args2 := [.agg (d.pk (cs ++ [c])).row]) (by simp [Dfx.pk, Pkx.row, Ckx.row, Wk, WkL, List.take_of_length_le, q_n1]) (hR _ _ _) rfl ?_
  cases hok : (d.pk (cs ++ [c])).ok with
  | true =>
   rw [hok, if_pos rfl] at hsucc
   have hl1 : (cs ++ [c]).length = cs.length + 1 := by simp
   simp only [hwk, wkNL, n384_q, q_n1, kS2, kS2', kS3, Nat.add_assoc, go_sem]
   repeat refine sd2 ?_
   refine ⟨(i + 1, 10000 * (i + 1) + 736), ⟨by simp only []; omega, by simp only []; omega, by simp only []; omega⟩, by simp only []; omega, ?_⟩
   refine Sub.o hF2 ?_
   simp [subH, Tx.look, hsucc, hl1, Ckx.row, q_n1, nB, kS2]
  | false =>
   rw [hok, if_neg (by simp)] at hsucc
   simp only [hwk, wkNL, Nat.add_assoc, go_sem]
   repeat refine sd2 ?_
   refine ⟨(i + 1, q), ⟨by simp only []; omega, by simp only []; omega, by simp only []; omega⟩, by simp only []; omega, ?_⟩
   refine Sub.o hF2 ?_
   simp [subH, Tx.look, hsucc, q_0, q_32, q_384]
 ·have hin : i = d.n := by omega
  have hcase : (decide ((i : Int) < (d.ps.length : Int)) = true ∧ decide ((i : Int) < 6) = false) ∨ decide ((i : Int) < (d.ps.length : Int)) = false := by
   by_cases h : i < d.ps.length
   ·exact .inl ⟨dT (by omega), dF (by unfold Dfx.n at hin; omega)⟩
   ·exact .inr (dF (by omega))
  have hall : d.all = if cs = [] then [⟨11, 0, []⟩] else cs := by unfold Dfx.all; rw [← hin, ← hcs]
  rcases hcase with ⟨f1, f2⟩ | f1
  ·rw [hall]
   cases cs with
   | nil =>
    have f3 : (((0 : Nat) : Int) == 0) = true := rfl
    simp only [f1, f2, f3, if_true, List.length_map, n0_q, n32_q, n384_q, q_n1, kS2, kS2', Nat.add_assoc, go_sem]
    repeat refine sd2 ?_
    exact PostF.of (p := True) (v0 := .agg [.int .i64 d.fr, .int .i64 d.tt, .int .i64 d.tg, .sl ⟨L + 1, 10000 * (i + 1) + 448⟩ 0 1]) (.inr rfl) (by simp only [resVal, resVals, resVal1, one, n32_q, go_sem]) trivial (by simp [Dfx.pk, Pkx.row, Ckx.row, Wk, WkL, Tx.look, List.take_of_length_le, q_n1]) (by simp [Dfx.pk, Pkx.row, wkN, wkNL]) (by simp [Dfx.pk, Pkx.row, Tx.nf, nfl]) trivial (by simp [UpdAll, keys])
   | cons a l =>
    have f3 : (((l.length + 1 : Nat) : Int) == 0) = false := by simp; omega
    have f4 : (a :: l).length = l.length + 1 := rfl
    simp only [f1, f2, f3, List.length_map, n0_q, n32_q, n384_q, Nat.add_assoc, go_sem]
    repeat refine sd2 ?_
    exact PostF.of (p := True) (v0 := .agg [.int .i64 d.fr, .int .i64 d.tt, .int .i64 d.tg, .sl ⟨L + 1, q⟩ 0 (l.length + 1)]) (.inr rfl) (by simp only [resVal, resVals, resVal1, one, n32_q, go_sem]) trivial (by simp [Dfx.pk, Pkx.row, Ckx.row, Wk, WkL, Tx.look, List.take_of_length_le, q_0, q_32, q_384]) (by simp [Dfx.pk, Pkx.row, wkN, wkNL]) (by simp [Dfx.pk, Pkx.row, Tx.nf, nfl]) trivial (by simp [UpdAll, keys])
  ·rw [hall]
   cases cs with
   | nil =>
    have f3 : (((0 : Nat) : Int) == 0) = true := rfl
    simp only [f1, f3, if_true, List.length_map, n0_q, n32_q, n384_q, q_n1, kS2, kS2', Nat.add_assoc, go_sem]
    repeat refine sd2 ?_
    exact PostF.of (p := True) (v0 := .agg [.int .i64 d.fr, .int .i64 d.tt, .int .i64 d.tg, .sl ⟨L + 1, 10000 * (i + 1) + 384⟩ 0 1]) (.inr rfl) (by simp only [resVal, resVals, resVal1, one, n32_q, go_sem]) trivial (by simp [Dfx.pk, Pkx.row, Ckx.row, Wk, WkL, Tx.look, List.take_of_length_le, q_n1]) (by simp [Dfx.pk, Pkx.row, wkN, wkNL]) (by simp [Dfx.pk, Pkx.row, Tx.nf, nfl]) trivial (by simp [UpdAll, keys])
   | cons a l =>
    have f3 : (((l.length + 1 : Nat) : Int) == 0) = false := by simp; omega
    have f4 : (a :: l).length = l.length + 1 := rfl
    simp only [f1, f3, List.length_map, n0_q, n32_q, n384_q, Nat.add_assoc, go_sem]
    repeat refine sd2 ?_
    exact PostF.of (p := True) (v0 := .agg [.int .i64 d.fr, .int .i64 d.tt, .int .i64 d.tg, .sl ⟨L + 1, q⟩ 0 (l.length + 1)]) (.inr rfl) (by simp only [resVal, resVals, resVal1, one, n32_q, go_sem]) trivial (by simp [Dfx.pk, Pkx.row, Ckx.row, Wk, WkL, Tx.look, List.take_of_length_le, q_0, q_32, q_384]) (by simp [Dfx.pk, Pkx.row, wkN, wkNL]) (by simp [Dfx.pk, Pkx.row, Tx.nf, nfl]) trivial (by simp [UpdAll, keys])
end Go.Proofs.YtaacfnngodhecaaGreatDoor
end
section
namespace Go.Proofs.YtaacfnngodhecaaGreatDoor
open Go.ChangeShapes Go.WideShapes Go.ChangeAt Go.RowKit Go.Tx
set_option maxRecDepth 100000
theorem undU16_32 : Tryz.prog.underlying 25 = some (.int .u16) := by kernel_rfl
theorem undDraft32 : ∃ fs, Tryz.prog.underlying 29 = some (.struct fs) := undS (by kernel_rfl)
theorem shpDraft32 {n : Nat} {xs : List PV} (h : Shp tys (n + 6) 29 xs) : ∃ d : Dfx, xs = d.row ∧ d.Ok := by
 have h := Shp.struct g29 h
 simp only [List.foldr] at h
 obtain ⟨_, _, rfl, h1, _, _, rfl, h2, _, _, rfl, h3, _, _, rfl, h4, rfl⟩ := h
 obtain ⟨_, rfl, w1⟩ := Shp.int g25 h1
 obtain ⟨_, rfl, w2⟩ := Shp.int g25 h2
 obtain ⟨_, rfl, w3⟩ := Shp.int g26 h3
 obtain ⟨a1, rfl, b1⟩ := wf16 w1
 obtain ⟨a2, rfl, b2⟩ := wf16 w2
 obtain ⟨a3, rfl, b3⟩ := wf32 w3
 obtain ⟨wd, rs, rfl, l4, e4, s4⟩ := Shp.slice g27 h4
 rw [g65] at e4
 simp only [Option.map_some, Option.some.injEq] at e4
 subst e4
 obtain ⟨l, rfl, hl⟩ := rowsOf (f := Pcx.row) (ok := Pcx.Ok) (fun xs hx => shpPiece hx) rs s4
 exact ⟨⟨a1, a2, a3, l⟩, rfl, b1, b2, b3, by simpa using l4, hl⟩
end Go.Proofs.YtaacfnngodhecaaGreatDoor
end
section
namespace Go.Proofs.YtaacfnngodhecaaGreatDoor
open Go.Tx
set_option maxRecDepth 100000
set_option maxHeartbeats 16000000
theorem rZeros_ok {F : SF} {L nx : Nat} (n : Nat) (hn : n ≤ 1000000) : Con Tryz.prog 63 [.int .i64 n] F L nx nx (.str (List.replicate n 0)) [] [] := by
 refine bdy Tryz.f63 ?_
 intro F3 hF1 hF2
 simp only [Tryz.f63, cx, go_sem, meths]
 repeat refine sd2 ?_
 have htk : List.take n (List.replicate n [PV.int .u8 0]) = (List.replicate n (0 : UInt8)).map rowB := by
  rw [List.take_of_length_le (by simp), List.map_replicate]; rfl
 rw [htk, rowB_bytes]
 refine ⟨⟨by simp, fun row hrow => ?_⟩, ?_⟩
 ·obtain ⟨b, _, rfl⟩ := List.mem_map.1 hrow
  exact ⟨_, rfl⟩
 exact PostF.rs (v0 := .str (List.replicate n 0)) (.inr rfl)
theorem rPad_ok {F : SF} {L nx : Nat} (s : List UInt8) (hs : s.length ≤ 100000) : Con Tryz.prog 61 [.str s, .int .i64 4] F L nx nx (.str (padS s)) [] [] := by
 have hu := fun F L nx => rUp_ok (F := F) (L := L) (nx := nx) s.length (by omega)
 have e : (((s.length + 3) / 4 * 4 : Nat) : Int) - (s.length : Int) = (((4 - s.length % 4) % 4 : Nat) : Int) := by omega
 have hz := fun F L nx => rZeros_ok (F := F) (L := L) (nx := nx) ((4 - s.length % 4) % 4) (by omega)
 have lz : (List.replicate ((4 - s.length % 4) % 4) (0 : UInt8)).length = (4 - s.length % 4) % 4 := by simp
 refine bdy Tryz.f61 ?_
 intro F3 hF1 hF2
 simp only [Tryz.f61, cx, go_sem, meths]
 repeat refine sd2 ?_
 refine CallVC.same (hu _ _ _) ?_
 simp only [e, go_sem]
 repeat refine sd2 ?_
 refine CallVC.same (hz _ _ _) ?_
 simp only [lz, go_sem]
 repeat refine sd2 ?_
 show PostF _ _ _ _ (.str (s ++ List.replicate ((4 - s.length % 4) % 4) 0)) _ _ _
 exact PostF.rs (v0 := .str (s ++ List.replicate ((4 - s.length % 4) % 4) 0)) (.inr rfl)
theorem le4_len (v : Nat) : (le4 v).length = 4 := rfl
theorem sumT_sum {t : List UInt8} (h : 12 ≤ t.length) : sumT (sumS t) = sumT t := by
 have h8 : (t.take 8).length = 8 := by rw [List.length_take]; omega
 obtain ⟨c4, hc, l4⟩ : ∃ c4, c4 = le4 (crcN (sumT t)) ∧ c4.length = 4 := ⟨_, rfl, rfl⟩
 unfold sumS
 rw [← hc]
 unfold sumT
 rw [List.append_assoc (t.take 8) c4, take_at h8.symm, drop_at2 (A := t.take 8) (q := 4) (by omega), drop_at l4.symm]
theorem sumS_sum {t : List UInt8} (h : 12 ≤ t.length) : sumS (sumS t) = sumS t := by
 have h8 : (t.take 8).length = 8 := by rw [List.length_take]; omega
 have hT := sumT_sum h
 unfold sumS at hT ⊢
 rw [hT]
 rw [List.append_assoc (t.take 8), take_at h8.symm, drop_at2 (A := t.take 8) (q := 4) (by omega), drop_at (by rw [le4_len]), List.append_assoc]
theorem serB8n {n : Int} (h : serB 8 n = true) : n = ((n.toNat : Nat) : Int) ∧ n.toNat < 256 := by
 have := serB8 h; omega
theorem ck_read {X R : List UInt8} {c : Ckx} (hc : c.ok = true) :
  lnAt (X ++ (ckB c ++ R)) X.length = 4 + c.bd.length ∧ ckGood (X ++ (ckB c ++ R)) X.length = true ∧ ckNx X.length (4 + c.bd.length) = X.length + (ckB c).length ∧ ckOf (X ++ (ckB c ++ R)) X.length (4 + c.bd.length) = c := by
 unfold Ckx.ok at hc
 simp only [Bool.and_eq_true, decide_eq_true_eq] at hc
 obtain ⟨⟨h1, h2⟩, h3⟩ := hc
 obtain ⟨k1, k2⟩ := serB8n h1
 obtain ⟨f1, f2⟩ := serB8n h2
 have lz : ∀ n, (zer n).length = n := fun n => by simp [zer]
 have e : ∀ R : List UInt8, X ++ (ckB c ++ R) = X ++ (putB 1 c.kd.toNat ++ (putB 1 c.fl.toNat ++ (putB 2 (4 + c.bd.length) ++ (c.bd ++ (zer ((4 - c.bd.length % 4) % 4) ++ R))))) := fun R => by
  simp only [ckB, padS, List.append_assoc]
 have hl : lnAt (X ++ (ckB c ++ R)) X.length = 4 + c.bd.length := by
  rw [e]
  unfold lnAt
  rw [← List.append_assoc, ← List.append_assoc]
  exact num_at (by simp only [List.length_append, putB_len]) (by omega)
 have hlen : (ckB c).length = 4 + c.bd.length + (4 - c.bd.length % 4) % 4 := by
  simp only [ckB, padS, List.length_append, putB_len, lz]; omega
 have hm : (4 - (4 + c.bd.length) % 4) % 4 = (4 - c.bd.length % 4) % 4 := by omega
 refine ⟨hl, ?_, ?_, ?_⟩
 ·unfold ckGood
  rw [hl, hm]
  simp only [Bool.and_eq_true, decide_eq_true_eq, List.length_append, hlen]
  refine ⟨by omega, by omega, by omega, ?_⟩
  rw [e]
  rw [show X ++ (putB 1 c.kd.toNat ++ (putB 1 c.fl.toNat ++ (putB 2 (4 + c.bd.length) ++ (c.bd ++ (zer ((4 - c.bd.length % 4) % 4) ++ R))))) = (X ++ (putB 1 c.kd.toNat ++ (putB 1 c.fl.toNat ++ (putB 2 (4 + c.bd.length) ++ c.bd)))) ++ (zer ((4 - c.bd.length % 4) % 4) ++ R) by simp only [List.append_assoc]]
  rw [drop_at (by simp only [List.length_append, putB_len]; omega), take_at (by rw [lz])]
  simp [zer, List.all_replicate]
 ·unfold ckNx
  rw [hlen, hm]; omega
 ·unfold ckOf
  have a1 : getB (((X ++ (ckB c ++ R)).drop X.length).take 1) = c.kd.toNat := by
   rw [e]; exact num_at rfl (by omega)
  have a2 : getB (((X ++ (ckB c ++ R)).drop (X.length + 1)).take 1) = c.fl.toNat := by
   rw [e, ← List.append_assoc]; exact num_at (by simp only [List.length_append, putB_len]) (by omega)
  have a3 : ((X ++ (ckB c ++ R)).drop (X.length + 4)).take (4 + c.bd.length - 4) = c.bd := by
   rw [e]
   rw [show X ++ (putB 1 c.kd.toNat ++ (putB 1 c.fl.toNat ++ (putB 2 (4 + c.bd.length) ++ (c.bd ++ (zer ((4 - c.bd.length % 4) % 4) ++ R))))) = (X ++ (putB 1 c.kd.toNat ++ (putB 1 c.fl.toNat ++ putB 2 (4 + c.bd.length)))) ++ (c.bd ++ (zer ((4 - c.bd.length % 4) % 4) ++ R)) by simp only [List.append_assoc]]
   rw [drop_at (by simp only [List.length_append, putB_len]), take_at (by omega)]
  rw [a1, a2, a3, ← k1, ← f1]
theorem cks_enc : ∀ (cs : List Ckx) (X : List UInt8) (f : Nat), cs.all Ckx.ok = true → cs.length < f → cksF (X ++ cs.flatMap ckB) f X.length = some cs
 | [], X, f + 1, _, _ => by simp [cksF]
 | c :: l, X, f + 1, h, hf => by
  simp only [List.all_cons, Bool.and_eq_true] at h
  rw [List.flatMap_cons]
  obtain ⟨r1, r2, r3, r4⟩ := ck_read (X := X) (R := l.flatMap ckB) h.1
  have ih := cks_enc l (X ++ ckB c) f h.2 (by simp at hf; omega)
  rw [List.append_assoc, List.length_append] at ih
  unfold cksF
  rw [if_neg (by simp only [List.length_append, ckB_len, Ckx.sz]; omega), if_pos r2, r1, r3, ih, r4]
  rfl
theorem szs_mem : ∀ {cs : List Ckx}, 4 * cs.length ≤ szs cs
 | [] => by simp [szs]
 | c :: l => by
  have := szs_mem (cs := l)
  simp only [szs, List.map_cons, List.sum_cons, List.length_cons, Ckx.sz] at this ⊢
  omega
theorem decG_of {s : List UInt8} {cs : List Ckx} (h : cksF s 2000 12 = some cs) (h2 : ((pkG s cs).ok && sumS s == s) = true) : decG s = some (pkG s cs) := by
 unfold decG
 rw [h, Option.bind_some, if_pos h2]
theorem cks_enc12 {X : List UInt8} {cs : List Ckx} (h : cs.all Ckx.ok = true) (hl : cs.length < 2000) (hX : X.length = 12) : cksF (X ++ cs.flatMap ckB) 2000 12 = some cs := by
 have := cks_enc cs X 2000 h hl
 rwa [hX] at this
theorem dec_enc {p : Pkx} (h : p.ok = true) : decG (encS p) = some p := by
 have hok := h
 unfold Pkx.ok Pkx.hd at h
 simp only [Bool.and_eq_true, decide_eq_true_eq] at h
 obtain ⟨⟨⟨⟨⟨⟨h1, h2⟩, h3⟩, h4⟩, h5⟩, h6⟩, h7⟩ := h
 obtain ⟨a, ea, ba⟩ := serB_ex h1
 obtain ⟨b, eb, bb⟩ := serB_ex h2
 obtain ⟨g, eg, bg⟩ := serB_ex h3
 have ba' : a < 256 ^ 2 := ba
 have bb' : b < 256 ^ 2 := bb
 have bg' : g < 256 ^ 4 := bg
 have hlen : 12 ≤ (pkB p).length := by rw [pkB_len]; omega
 have hpk : pkB p = (putB 2 a ++ (putB 2 b ++ putB 4 g)) ++ (putB 4 0 ++ p.cs.flatMap ckB) := by
  unfold pkB
  rw [ea, eb, eg]
  simp only [Int.toNat_natCast, List.append_assoc]
 have hA : (putB 2 a ++ (putB 2 b ++ putB 4 g)).length = 8 := by simp only [List.length_append, putB_len]
 obtain ⟨c4, hc4, l4⟩ : ∃ c4, c4 = le4 (crcN (sumT (pkB p))) ∧ c4.length = 4 := ⟨_, rfl, rfl⟩
 have hs : encS p = ((putB 2 a ++ (putB 2 b ++ putB 4 g)) ++ c4) ++ p.cs.flatMap ckB := by
  unfold encS sumS
  rw [← hc4]
  rw [hpk, take_at hA.symm, drop_at2 (A := putB 2 a ++ (putB 2 b ++ putB 4 g)) (q := 4) (by omega), drop_at (by rw [putB_len])]
 have hX : ((putB 2 a ++ (putB 2 b ++ putB 4 g)) ++ c4).length = 12 := by rw [List.length_append, hA, l4]
 have hcs : cksF (encS p) 2000 12 = some p.cs := by
  rw [hs]
  exact cks_enc12 h6 (by omega) hX
 have hsum : sumS (encS p) = encS p := sumS_sum hlen
 have hG : pkG (encS p) p.cs = p := by
  unfold pkG
  have s0 : encS p = [] ++ (putB 2 a ++ (putB 2 b ++ (putB 4 g ++ (c4 ++ p.cs.flatMap ckB)))) := by rw [hs]; simp only [List.append_assoc, List.nil_append]
  have n1 : getB ((encS p).take 2) = a := by
   have := num_at (A := []) (R := putB 2 b ++ (putB 4 g ++ (c4 ++ p.cs.flatMap ckB))) (p := 0) (n := 2) rfl ba'
   rw [← s0] at this
   simpa using this
  have n2 : getB (((encS p).drop 2).take 2) = b := by
   have := num_at (A := putB 2 a) (R := putB 4 g ++ (c4 ++ p.cs.flatMap ckB)) (p := 2) (n := 2) (putB_len 2 a).symm bb'
   rw [List.nil_append] at s0
   rw [← s0] at this
   exact this
  have n3 : getB (((encS p).drop 4).take 4) = g := by
   have := num_at (A := putB 2 a ++ putB 2 b) (R := c4 ++ p.cs.flatMap ckB) (p := 4) (n := 4) (by simp only [List.length_append, putB_len]) bg'
   rw [List.nil_append, ← List.append_assoc] at s0
   rw [← s0] at this
   exact this
  rw [n1, n2, n3, ← ea, ← eb, ← eg]
 rw [decG_of hcs (by rw [hG, hok, hsum]; simp), hG]
theorem enc_len {p : Pkx} (h : p.ok = true) : (encS p).length = 12 + szs p.cs ∧ 16 ≤ (encS p).length ∧ (encS p).length ≤ 1200 := by
 unfold Pkx.ok Pkx.hd at h
 simp only [Bool.and_eq_true, decide_eq_true_eq] at h
 obtain ⟨⟨⟨⟨_, h4⟩, h5⟩, h6⟩, h7⟩ := h
 have := szs_mem (cs := p.cs)
 have hl : 12 ≤ (pkB p).length := by rw [pkB_len]; omega
 have h8 : ((pkB p).take 8).length = 8 := by rw [List.length_take]; omega
 have : (encS p).length = 12 + szs p.cs := by
  unfold encS sumS
  rw [List.length_append, List.length_append, h8, le4_len, List.length_drop, pkB_len]; omega
 omega
theorem stpN_xor (x y : Nat) : stpN (x ^^^ y) = stpN x ^^^ stpN y := by
 have hd : (x ^^^ y) / 2 = x / 2 ^^^ y / 2 := Nat.xor_div_two
 have hm := @Nat.xor_mod_two_eq_one x y
 unfold stpN
 rw [hd]
 by_cases h1 : x % 2 = 1
 ·by_cases h2 : y % 2 = 1
  ·rw [if_pos h1, if_pos h2, if_neg (by rw [hm]; simp [h1, h2])]
   rw [Nat.xor_assoc, Nat.xor_comm cstN, Nat.xor_assoc, Nat.xor_self, Nat.xor_zero]
  ·rw [if_pos h1, if_neg h2, if_pos (by rw [hm]; simp [h1, h2])]
   rw [Nat.xor_assoc, Nat.xor_assoc, Nat.xor_comm cstN]
 ·by_cases h2 : y % 2 = 1
  ·rw [if_neg h1, if_pos h2, if_pos (by rw [hm]; simp [h1, h2])]
   rw [Nat.xor_assoc]
  ·rw [if_neg h1, if_neg h2, if_neg (by rw [hm]; simp [h1, h2])]
theorem itN_xor (x y : Nat) : ∀ j, itN (x ^^^ y) j = itN x j ^^^ itN y j
 | 0 => rfl
 | j + 1 => by rw [itN, itN_xor x y j, stpN_xor]; rfl
theorem itN_add (x : Nat) (i : Nat) : ∀ j, itN (itN x i) j = itN x (i + j)
 | 0 => rfl
 | j + 1 => by rw [itN, itN_add x i j]; rfl
theorem stpN_even (k : Nat) : stpN (2 * k) = k := by
 unfold stpN
 rw [if_neg (by omega)]; omega
theorem itN_even (k : Nat) : itN (256 * k) 8 = k := by
 have e : 256 * k = 2 * (2 * (2 * (2 * (2 * (2 * (2 * (2 * k))))))) := by omega
 rw [e]
 simp only [itN, stpN_even]
theorem split256 (x : Nat) : x = (256 * (x / 256)) ^^^ (x % 256) := by
 apply Nat.eq_of_testBit_eq
 intro i
 rw [show (256 : Nat) = 2 ^ 8 from rfl, Nat.testBit_xor, Nat.testBit_two_pow_mul, Nat.testBit_mod_two_pow, Nat.testBit_div_two_pow]
 by_cases h : i < 8
 ·have h9 : ¬ 8 ≤ i := by omega
  simp [h, h9]
 ·have h8 : 8 ≤ i := by omega
  simp [h, h8, Nat.sub_add_cancel h8]
theorem crcS_it (x c : Nat) : crcS x c = itN (x ^^^ c) 8 := by
 have h : x ^^^ c = (256 * (x / 256)) ^^^ ((x % 256) ^^^ c) := by
  rw [← Nat.xor_assoc, ← split256]
 rw [h, itN_xor, itN_even]
 rfl
def nb : List Bool → Nat
 | [] => 0
 | b :: l => b.toNat + 2 * nb l
theorem nb_bit : ∀ (l : List Bool) (k : Nat), (nb l).testBit k = l.getD k false
 | [], k => by simp [nb]
 | b :: l, 0 => by
  rw [nb, Nat.testBit_zero]
  cases b <;> simp
 | b :: l, k + 1 => by
  rw [nb, Nat.testBit_succ]
  have e : (b.toNat + 2 * nb l) / 2 = nb l := by cases b <;> simp <;> omega
  rw [e, nb_bit l k]
  simp
theorem nb_append : ∀ (a l : List Bool), nb (a ++ l) = nb a + 2 ^ a.length * nb l
 | [], l => by simp [nb]
 | b :: a, l => by
  rw [List.cons_append, nb, nb, nb_append a l, List.length_cons, Nat.pow_succ, Nat.mul_add, ← Nat.mul_assoc, Nat.mul_comm 2 (2 ^ a.length)]
  omega
def bitsO (c : UInt8) : List Bool := (List.range 8).map fun k => c.toNat.testBit k
def bitsS (s : List UInt8) : List Bool := s.flatMap bitsO
theorem nb_bitsO (c : UInt8) : nb (bitsO c) = c.toNat := by
 apply Nat.eq_of_testBit_eq
 intro i
 rw [nb_bit]
 by_cases h : i < 8
 ·simp [bitsO, List.getD_eq_getElem?_getD, h]
 ·have := c.toNat_lt
  rw [Nat.testBit_lt_two_pow (Nat.lt_of_lt_of_le this (Nat.pow_le_pow_right (n := 2) (by omega) (show 8 ≤ i by omega)))]
  simp [bitsO, List.getD_eq_getElem?_getD, h]
theorem bitsO_len (c : UInt8) : (bitsO c).length = 8 := by simp [bitsO]
theorem bitsS_len : ∀ s : List UInt8, (bitsS s).length = 8 * s.length
 | [] => rfl
 | c :: l => by
  have := bitsS_len l
  unfold bitsS at this ⊢
  rw [List.flatMap_cons, List.length_append, bitsO_len, this, List.length_cons]; omega
theorem crcF_it : ∀ (s : List UInt8) (x : Nat), crcF x s = itN (x ^^^ nb (bitsS s)) (8 * s.length)
 | [], x => by simp [crcF, bitsS, nb, itN]
 | c :: l, x => by
  have ih := crcF_it l (crcS x c.toNat)
  show crcF (crcS x c.toNat) l = _
  rw [ih, crcS_it]
  have e : nb (bitsS (c :: l)) = c.toNat ^^^ 256 * nb (bitsS l) := by
   show nb (bitsO c ++ bitsS l) = _
   rw [nb_append, nb_bitsO, bitsO_len]
   have h := split256 (c.toNat + 2 ^ 8 * nb (bitsS l))
   have hc := c.toNat_lt
   rw [show (c.toNat + 2 ^ 8 * nb (bitsS l)) / 256 = nb (bitsS l) by omega, show (c.toNat + 2 ^ 8 * nb (bitsS l)) % 256 = c.toNat by omega, Nat.xor_comm] at h
   exact h
  rw [e, ← Nat.xor_assoc, show 8 * (c :: l).length = 8 + 8 * l.length by rw [List.length_cons]; omega, ← itN_add, itN_xor (x ^^^ c.toNat), itN_even]
theorem crcF_rest (s : List UInt8) : crcF 4294967295 s = itN (nb (bitsS s) ^^^ 4294967295) (8 * s.length) := by
 rw [crcF_it, Nat.xor_comm]
def inn (w : List Bool) (i : Nat) : Nat → List Bool
 | 0 => w
 | k + 1 => (inn w i k).set (i + 1 + k) ((inn w i k).getD (i + 1 + k) false != cstN.testBit k)
theorem inn_len (w : List Bool) (i : Nat) : ∀ k, (inn w i k).length = w.length
 | 0 => rfl
 | k + 1 => by rw [inn, List.length_set, inn_len w i k]
theorem getD_set (w : List Bool) (a j : Nat) (v : Bool) : (w.set a v).getD j false = if a = j ∧ j < w.length then v else w.getD j false := by
 simp only [List.getD_eq_getElem?_getD, List.getElem?_set]
 by_cases h : a = j
 ·subst h
  by_cases h2 : a < w.length
  ·simp [h2]
  ·simp [h2]
 ·simp [h]
theorem inn_get (w : List Bool) (i : Nat) (hi : i + 32 < w.length) : ∀ k, k ≤ 32 → ∀ j, (inn w i k).getD j false = if i + 1 ≤ j ∧ j < i + 1 + k then (w.getD j false != cstN.testBit (j - (i + 1))) else w.getD j false
 | 0, _, j => by rw [if_neg (by omega)]; rfl
 | k + 1, hk, j => by
  rw [inn, getD_set, inn_len, inn_get w i hi k (by omega), inn_get w i hi k (by omega)]
  by_cases h : i + 1 + k = j
  ·subst h
   rw [if_pos (by omega), if_neg (by omega), if_pos (by omega), show i + 1 + k - (i + 1) = k by omega]
  ·rw [if_neg (by omega)]
   by_cases h2 : i + 1 ≤ j ∧ j < i + 1 + k
   ·rw [if_pos h2, if_pos (by omega)]
   ·rw [if_neg h2, if_neg (by omega)]
theorem cst_bits : ∀ k, 32 ≤ k → cstN.testBit k = false := fun k h =>
 Nat.testBit_lt_two_pow (Nat.lt_of_lt_of_le cstN_lt (Nat.pow_le_pow_right (by omega) h))
theorem nb_drop_get (w : List Bool) (i k : Nat) : (nb (w.drop i)).testBit k = w.getD (i + k) false := by
 rw [nb_bit]
 simp [List.getD_eq_getElem?_getD, List.getElem?_drop]
theorem inn_nb (w : List Bool) (i : Nat) (hi : i + 32 < w.length) : nb ((inn w i 32).drop (i + 1)) = nb (w.drop (i + 1)) ^^^ cstN := by
 apply Nat.eq_of_testBit_eq
 intro k
 rw [Nat.testBit_xor, nb_drop_get, nb_drop_get, inn_get w i hi 32 (by omega)]
 by_cases h : k < 32
 ·rw [if_pos (by omega), show i + 1 + k - (i + 1) = k by omega]
 ·rw [if_neg (by omega), cst_bits k (by omega), Bool.xor_false]
theorem nb_step (w : List Bool) (i : Nat) (hi : i < w.length) : nb (w.drop i) = (w.getD i false).toNat + 2 * nb (w.drop (i + 1)) := by
 rw [List.drop_eq_getElem_cons hi, nb]
 simp [List.getD_eq_getElem?_getD, hi]
def dvS (w : List Bool) (i : Nat) : List Bool := if w.getD i false then inn w i 32 else w
theorem dvS_len (w : List Bool) (i : Nat) : (dvS w i).length = w.length := by
 unfold dvS; split
 ·exact inn_len w i 32
 ·rfl
theorem dvS_nb (w : List Bool) (i : Nat) (hi : i + 32 < w.length) : nb ((dvS w i).drop (i + 1)) = stpN (nb (w.drop i)) := by
 rw [nb_step w i (by omega)]
 unfold dvS stpN
 cases h : w.getD i false with
 | true =>
  rw [if_pos rfl, inn_nb w i hi, if_pos (by simp), show (true.toNat + 2 * nb (w.drop (i + 1))) / 2 = nb (w.drop (i + 1)) by simp; omega]
 | false =>
  rw [if_neg (by simp), if_neg (by simp), show (false.toNat + 2 * nb (w.drop (i + 1))) / 2 = nb (w.drop (i + 1)) by simp]
def dvN (w : List Bool) : Nat → List Bool
 | 0 => w
 | i + 1 => dvS (dvN w i) i
theorem dvN_len (w : List Bool) : ∀ i, (dvN w i).length = w.length
 | 0 => rfl
 | i + 1 => by rw [dvN, dvS_len, dvN_len w i]
theorem dvN_nb (w : List Bool) : ∀ i, i + 32 ≤ w.length → nb ((dvN w i).drop i) = itN (nb w) i
 | 0, _ => by simp [dvN, itN]
 | i + 1, h => by
  rw [dvN, dvS_nb _ _ (by rw [dvN_len]; omega), dvN_nb w i (by omega)]
  rfl
def eBl (b : Bool) : List PV := [.bool b]
theorem nflB : ∀ l : List Bool, nfl (l.map PV.bool) = true
 | [] => rfl
 | b :: l => by simp [nfl, Tx.nf, nflB l]
theorem nb_lt : ∀ l : List Bool, nb l < 2 ^ l.length
 | [] => by simp [nb]
 | b :: l => by
  have := nb_lt l
  rw [nb, List.length_cons, Nat.pow_succ]
  cases b <;> simp <;> omega
theorem rNumb_ok {F : SF} {L nx : Nat} (l : List Bool) (hl : l.length = 32) : Con Tryz.prog 136 [.agg (l.map PV.bool)] F L nx nx (.int .i64 (nb l)) [] [] := by
 refine bdy Tryz.f136 ?_
 intro F3 hF1 hF2
 simp only [Tryz.f136, cx, List.length_map, hl, go_sem, meths]
 repeat refine sd2 ?_
 refine loopK.intro _ _ (I := fun j : Nat => ⟨[none, some (.ptr ⟨L + 1, 0⟩ 0 0), none, some (.int .i64 (nb (l.drop (32 - j)))), some (.int .i64 (31 - (j : Int)))] ++ oz 12, [(⟨L + 1, 0⟩, .rows 221 32 true true [l.map PV.bool])], 10000 * (j + 1)⟩) (pre := fun j => j ≤ 32) (μ := fun j => 32 - j) 0 (by omega) ?_ ?_
 ·have hnf : nfl (l.map PV.bool) = true := nflB l
  have h0 : nb (l.drop 32) = 0 := by rw [List.drop_of_length_le (by omega)]; rfl
  refine Sub.of (hfz hF2) (by simp only [h0, Nat.sub_zero, go_sem, subT, and_self, Int.natCast_zero, Int.sub_zero]) ?_ (by simp [subK, keys]) (by simp)
  simp [subH, Tx.look, hnf]
 intro j hj
 have hb := nb_lt (l.drop (32 - j))
 have hdl : (l.drop (32 - j)).length = j := by rw [List.length_drop]; omega
 rw [hdl] at hb
 by_cases hlt : j < 32
 rotate_left
 ·obtain rfl : j = 32 := by omega
  have g1 : decide ((31 : Int) - ((32 : Nat) : Int) ≥ 0) = false := rfl
  simp only [g1, Nat.sub_self, List.drop_zero, go_sem]
  exact PostF.same (p := True) (.inr rfl) (by simp only [resVal, resVals, resVal1, one, go_sem]) trivial (by simp [Tx.nf]) (by simp [UpdAll])
 have g1 : decide ((31 : Int) - (j : Int) ≥ 0) = true := dT (by omega)
 have kt : (31 - (j : Int)).toNat * 1 = 31 - j := by omega
 have hg : (l.map PV.bool).getD (31 - j) (.tup []) = .bool (l.getD (31 - j) false) := by simp [List.getD_eq_getElem?_getD, show 31 - j < l.length by omega]
 have hp : (2 : Nat) ^ j ≤ 2 ^ 31 := Nat.pow_le_pow_right (by omega) (by omega)
 have hst := nb_step l (31 - j) (by omega)
 rw [show 31 - j + 1 = 32 - j by omega] at hst
 have hd9 : 32 - (j + 1) = 31 - j := by omega
 cases hv : l.getD (31 - j) false with
 | true =>
  rw [hv] at hg hst
  have e : 2 * ((nb (l.drop (32 - j)) : Nat) : Int) + 1 = ((nb (l.drop (32 - (j + 1))) : Nat) : Int) := by rw [hd9, hst]; simp; omega
  have e2 : (31 : Int) - (j : Int) - 1 = 31 - ((j + 1 : Nat) : Int) := by omega
  simp only [g1, kt, hg, Nat.add_assoc, go_sem]
  repeat refine sd2 ?_
  refine ⟨j + 1, by omega, by omega, ?_⟩
  refine Sub.of (hfz hF2) (by simp only [e, e2, go_sem, subT, and_self]) ?_ (by simp [subK, keys]) (by simp only []; omega)
  simp [subH, Tx.look]
 | false =>
  rw [hv] at hg hst
  have e : 2 * ((nb (l.drop (32 - j)) : Nat) : Int) = ((nb (l.drop (32 - (j + 1))) : Nat) : Int) := by rw [hd9, hst]; simp
  have e2 : (31 : Int) - (j : Int) - 1 = 31 - ((j + 1 : Nat) : Int) := by omega
  simp only [g1, kt, hg, Nat.add_assoc, go_sem]
  repeat refine sd2 ?_
  refine ⟨j + 1, by omega, by omega, ?_⟩
  refine Sub.of (hfz hF2) (by simp only [e, e2, go_sem, subT, and_self]) ?_ (by simp [subK, keys]) (by simp only []; omega)
  simp [subH, Tx.look]
def bitsN (n i : Nat) : List Bool := (List.range i).map fun k => n.testBit k
theorem bitsN_succ (n i : Nat) : bitsN n (i + 1) = bitsN n i ++ [n.testBit i] := by simp [bitsN, List.range_succ]
theorem bitsN_len (n i : Nat) : (bitsN n i).length = i := by simp [bitsN]
theorem rCoef_ok {F : SF} {L nx : Nat} (n : Nat) (hn : n < 2 ^ 62) : Con Tryz.prog 135 [.int .i64 n] F L nx nx (.fs 1 ((bitsN n 32).map eBl)) [] [] := by
 refine bdy Tryz.f135 ?_
 intro F3 hF1 hF2
 simp only [Tryz.f135, cx, go_sem, meths]
 repeat refine sd2 ?_
 refine loopK.intro _ _ (I := fun z : Nat × Nat => ⟨[some (.int .i64 ((n / 2 ^ z.1 : Nat) : Int)), none, none, some (.sl ⟨L + 1, z.2⟩ 0 z.1), some (.int .i64 z.1)] ++ oz 13, [(⟨L + 1, z.2⟩, .rows 4 1 true true ((bitsN n z.1).map eBl))], 10000 * (z.1 + 1)⟩)
  (pre := fun z => z.1 ≤ 32 ∧ z.2 < 10000 * (z.1 + 1)) (μ := fun z => 32 - z.1) (0, 96) ⟨by simp, by simp⟩ ?_ ?_
 ·refine Sub.trans (Sub.nilName 3 4 (wd := 1) (by omega) rfl) ?_
  refine Sub.of (hfz hF2) (by simp only [Nat.pow_zero, Nat.div_one, go_sem, subT, and_self, Int.natCast_zero]) ?_ ?_ ?_
  ·simp [subH, Tx.look, updH, setH, bitsN]
  ·simp [subK, keys, updH, setH]
  ·simp
 rintro ⟨i, q⟩ ⟨hi, hq⟩
 simp only at hi hq ⊢
 have hln := bitsN_len n i
 have hln' : ((bitsN n i).map eBl).length = i := by rw [List.length_map, hln]
 obtain ⟨q_n1, q_n2, q_n3, q_n4, q_n5⟩ := nqL L (i := i) (p := q) (by omega)
 have hle : n / 2 ^ i ≤ n := Nat.div_le_self _ _
 by_cases hlt : i < 32
 ·have g1 : decide ((i : Int) < 32) = true := dT (by omega)
  have tm : ((n / 2 ^ i : Nat) : Int).tmod 2 = ((n / 2 ^ i % 2 : Nat) : Int) := by
   rw [Int.tmod_eq_emod_of_nonneg (Int.natCast_nonneg _)]; rfl
  have td : ((n / 2 ^ i : Nat) : Int).tdiv 2 = ((n / 2 ^ (i + 1) : Nat) : Int) := by
   rw [Int.tdiv_eq_ediv_of_nonneg (Int.natCast_nonneg _), Nat.pow_succ, ← Nat.div_div_eq_div_mul]; rfl
  have tb : ((((n / 2 ^ i % 2 : Nat) : Int)) == 1) = n.testBit i := by
   rw [Nat.testBit_eq_decide_div_mod_eq]
   by_cases h : n / 2 ^ i % 2 = 1
   ·rw [h]; simp
   ·rw [show n / 2 ^ i % 2 = 0 by omega]; simp
  have e3 := bitsN_succ n i
  simp only [g1, tm, td, tb, q_n1, q_n2, q_n5, kS3, Nat.add_assoc, go_sem]
  repeat refine sd2 ?_
  have hle2 : n / 2 ^ (i + 1) ≤ n := Nat.div_le_self _ _
  refine ⟨⟨by omega, by have := Int.natCast_nonneg (n / 2 ^ (i + 1)); unfold Sx.inI64; omega⟩, ?_⟩
  repeat refine sd2 ?_
  refine ⟨(i + 1, 10000 * (i + 1) + 224), ⟨by simp only []; omega, by simp only []; omega⟩, by simp only []; omega, ?_⟩
  refine Sub.o hF2 ?_
  simp [subH, Tx.look, e3, eBl, q_n1]
 ·have g1 : decide ((i : Int) < 32) = false := dF (by omega)
  obtain rfl : i = 32 := by omega
  simp only [g1, go_sem]
  repeat refine sd2 ?_
  exact PostF.rs (v0 := .sl ⟨L + 1, q⟩ 0 32) (.inr rfl) (hw := by simp [Wk, Tx.look, hln, List.take_of_length_le])
theorem bitsS_take {s : List UInt8} {o : Nat} (h : o < s.length) : bitsS (s.take (o + 1)) = bitsS (s.take o) ++ bitsO (s.getD o 0) := by
 rw [List.take_add_one, bitsS, List.flatMap_append, List.getD_eq_getElem?_getD, List.getElem?_eq_getElem h]
 simp [bitsS]
theorem bit_val (c : UInt8) (k : Nat) (hk : k < 8) : (Sx.ibits .and .u8 ((c.toNat : Int).fdiv (2 ^ min ((k : Int)).toNat 8)) 1 == 1) = c.toNat.testBit k := by
 have hc := c.toNat_lt
 have e : ((c.toNat : Int)).fdiv (2 ^ min ((k : Int)).toNat 8) = ((c.toNat / 2 ^ k : Nat) : Int) := by
  rw [Int.toNat_natCast, Nat.min_eq_left (by omega), Int.fdiv_eq_ediv_of_nonneg _ (Int.le_of_lt (Int.pow_pos (by decide)))]
  simp
 rw [e, Nat.testBit_eq_decide_div_mod_eq]
 obtain ⟨v, hv⟩ : ∃ v, v = c.toNat / 2 ^ k := ⟨_, rfl⟩
 have hvl : v < 256 := by rw [hv]; exact Nat.lt_of_le_of_lt (Nat.div_le_self _ _) hc
 rw [← hv]
 have e2 : Sx.ibits .and .u8 ((v : Nat) : Int) 1 = ((v % 2 : Nat) : Int) := by
  show IntKind.u8.wrap ((BitVec.ofInt 8 ((v : Nat) : Int) &&& BitVec.ofInt 8 ((1 : Nat) : Int)).toNat : Int) = _
  rw [BitVec.ofInt_natCast, BitVec.ofInt_natCast, BitVec.toNat_and, BitVec.toNat_ofNat, BitVec.toNat_ofNat, Nat.mod_eq_of_lt (by omega), Nat.mod_eq_of_lt (by omega), Nat.and_one_is_mod]
  rw [IntKind.wrap_u8]; omega
 rw [e2]
 by_cases h : v % 2 = 1
 ·rw [h]; simp
 ·rw [show v % 2 = 0 by omega]; simp
theorem rBits_ok {F : SF} {L nx : Nat} (s : List UInt8) (hs : s.length ≤ 100000) : Con Tryz.prog 134 [.str s] F L nx (nx + 1) (.sl ⟨L, nx⟩ 0 (8 * s.length)) [(⟨L, nx⟩, .rows 4 1 true true ((bitsS s).map eBl))] [] := by
 refine bdyN Tryz.f134 ?_
 intro F3 hF1 hF2
 simp only [Tryz.f134, cx, go_sem, meths]
 repeat refine sd2 ?_
 refine loopK.intro _ _ (I := fun z : Nat × Nat => ⟨[some (.str s), none, none, some (.sl ⟨L + 1, z.2⟩ 0 (8 * z.1)), some (.int .i64 z.1)] ++ oz 23, [(⟨L + 1, z.2⟩, .rows 4 1 true true ((bitsS (s.take z.1)).map eBl))], 10000 * (10 * z.1 + 1)⟩)
  (pre := fun z => z.1 ≤ s.length ∧ z.2 < 10000 * (10 * z.1 + 1)) (μ := fun z => s.length - z.1) (0, 96) ⟨by simp, by simp⟩ ?_ ?_
 ·refine Sub.trans (Sub.nilName 3 4 (wd := 1) (by omega) rfl) ?_
  refine Sub.of (hfz hF2) (by simp only [Nat.mul_zero, go_sem, subT, and_self, Int.natCast_zero]) ?_ ?_ ?_
  ·simp [subH, Tx.look, updH, setH, bitsS]
  ·simp [subK, keys, updH, setH]
  ·simp
 rintro ⟨o, q⟩ ⟨ho, hq⟩
 simp only at ho hq ⊢
 have hln : (bitsS (s.take o)).length = 8 * o := by rw [bitsS_len, List.length_take]; omega
 by_cases hlt : o < s.length
 ·have g1 : decide ((o : Int) < (s.length : Int)) = true := dT (by omega)
  simp only [g1, Nat.add_assoc, go_sem]
  repeat refine sd2 ?_
  obtain ⟨c, hc⟩ : ∃ c, c = s.getD o 0 := ⟨_, rfl⟩
  have hO := bitsO_len c
  have htk := bitsS_take hlt
  rw [← hc] at htk
  refine loopK.intro _ _ (I := fun z : Nat × Nat => ⟨[some (.str s), none, none, some (.sl ⟨L + 1, z.2⟩ 0 (8 * o + z.1)), some (.int .i64 o), some (.int .i64 z.1)] ++ oz 22, [(⟨L + 1, z.2⟩, .rows 4 1 true true ((bitsS (s.take o) ++ (bitsO c).take z.1).map eBl))], 10000 * ((10 * o + z.1 + 1) + 1)⟩)
   (pre := fun z => z.1 ≤ 8 ∧ z.2 < 10000 * ((10 * o + z.1 + 1) + 1)) (μ := fun z => 8 - z.1) (0, q) ⟨by simp, by simp only []; omega⟩ ?_ ?_
  ·refine Sub.of (hfz hF2) (by simp only [go_sem, subT, and_self, Int.natCast_zero, Nat.add_zero]) ?_ (by simp [subK, keys]) (by simp only []; omega)
   simp [subH, Tx.look]
  rintro ⟨k, q⟩ ⟨hk, hq⟩
  simp only at hk hq ⊢
  obtain ⟨i, hie⟩ : ∃ i, i = 10 * o + k + 1 := ⟨_, rfl⟩
  rw [← hie] at hq ⊢
  obtain ⟨l, hl⟩ : ∃ l, l = bitsS (s.take o) ++ (bitsO c).take k := ⟨_, rfl⟩
  have hll : l.length = 8 * o + k := by rw [hl, List.length_append, hln, List.length_take]; omega
  have hll' : (l.map eBl).length = 8 * o + k := by rw [List.length_map, hll]
  rw [← hl]
  obtain ⟨q_n1, q_n2, q_n3, q_n4, q_n5⟩ := nqL L (i := i) (p := q) (by omega)
  by_cases hkl : k < 8
  ·have g1 : decide ((k : Int) < 8) = true := dT (by omega)
   have wu : IntKind.u64.wrap ((k : Nat) : Int) = (k : Int) := by
    simp [IntKind.wrap, IntKind.signed, IntKind.bits]; omega
   have hbv := bit_val c k hkl
   rw [Int.toNat_natCast] at hbv
   have et : (bitsO c).take (k + 1) = (bitsO c).take k ++ [c.toNat.testBit k] := by
    rw [List.take_add_one]
    simp [bitsO, hkl]
   have e3 : (l ++ [c.toNat.testBit k]) = bitsS (s.take o) ++ (bitsO c).take (k + 1) := by rw [et, hl, List.append_assoc]
   have e4 : l.map eBl ++ [[.bool (c.toNat.testBit k)]] = (bitsS (s.take o) ++ (bitsO c).take (k + 1)).map eBl := by rw [← e3, List.map_append]; rfl
   simp only [g1, wu, ← hc, hbv, q_n1, q_n2, q_n5, kS3, Nat.add_assoc, go_sem]
   repeat refine sd2 ?_
   refine ⟨(k + 1, 10000 * (i + 1) + 384), ⟨by simp only []; omega, by simp only []; omega⟩, by simp only []; omega, ?_⟩
   refine Sub.o hF2 ?_
   simp only [subH, Tx.look, nm_eq, if_true, if_false, e4, and_true, q_n1, kS3, Nat.reduceEqDiff]
  ·have g1 : decide ((k : Int) < 8) = false := dF (by omega)
   obtain rfl : k = 8 := by omega
   have et : l = bitsS (s.take (o + 1)) := by rw [hl, htk, List.take_of_length_le (l := bitsO c) (by omega)]
   simp only [g1, Nat.add_assoc, go_sem]
   repeat refine sd2 ?_
   refine ⟨(o + 1, q), ⟨by simp only []; omega, by simp only []; omega⟩, by simp only []; omega, ?_⟩
   rw [et]
   refine Sub.of (hfz hF2) (by simp only [go_sem, subT, and_self, Int.natCast_succ, Nat.mul_succ]) ?_ (by simp [subK, keys]) (by simp only []; omega)
   simp [subH, Tx.look]
 ·have g1 : decide ((o : Int) < (s.length : Int)) = false := dF (by omega)
  obtain rfl : o = s.length := by omega
  rw [List.take_length] at hln ⊢
  simp only [g1, Nat.add_assoc, go_sem]
  repeat refine sd2 ?_
  exact .now (.sl1 (g := q) (.inr rfl) rfl ⟨trivial, trivial⟩ (by simp [Tx.look]) ⟨.inl rfl, trivial⟩)
end Go.Proofs.YtaacfnngodhecaaGreatDoor
end
