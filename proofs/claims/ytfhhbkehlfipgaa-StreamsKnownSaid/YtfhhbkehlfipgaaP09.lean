/- Lemmas for the walk: YC1, YC2, YC3, YC4, YC5, YC6, YC7, YC8, YC0, YC10, YC12, YC13, YC14. -/
import Derived.Test.YtfhhbkehlfipgaaTxTab
import Derived.Test.YtfhhbkehlfipgaaP08
set_option linter.all false
section
namespace Go.Proofs.Ytfhhbkehlfipgaa
open Go.Tx
set_option maxRecDepth 100000
set_option maxHeartbeats 1000000
theorem behind_ok {F : SF} {L nx : Nat} (x b : Int) (hx : 0 ≤ x) (hx2 : x ≤ 4294967295) (h0 : 0 ≤ b) (h1 : b ≤ 32) : Con Try.prog 44 [.int .i64 x, .int .i64 b] F L nx nx (.int .i64 ((x + 1) % 2 ^ b.toNat)) [] [] := by
 refine bdy Try.f44 ?_
 intro F3 hF1 hF2
 have e := shl1 h0 (by omega)
 have e2 := and_mask (x + 1) b.toNat (by omega)
 have e3 := pow_le h0 h1
 simp only [Try.f44, cx, e, e2, go_sem, meths]
 exact ⟨⟨by omega, by omega⟩, h0, ⟨by omega, by omega⟩, .int (.inr rfl) rfl rfl trivial⟩
def lead (x y b : Int) : Int := if (x - y) % 2 ^ b.toNat / 2 ^ (b - 1).toNat = 1 then (x - y) % 2 ^ b.toNat - 2 ^ b.toNat else (x - y) % 2 ^ b.toNat
theorem ahead_ok {F : SF} {L nx : Nat} (x y b : Int) (h0 : 1 ≤ b) (h1 : b ≤ 32) (hx : 0 ≤ x) (hx2 : x < 2 ^ b.toNat) (hy : 0 ≤ y) (hy2 : y < 2 ^ b.toNat) : Con Try.prog 85 [.int .i64 x, .int .i64 y, .int .i64 b] F L nx nx (.tup [.int .i64 (lead x y b), .int .i64 0]) [] [] := by
 refine bdy Try.f85 ?_
 intro F3 hF1 hF2
 have e := shl1 (b := b) (by omega) (by omega)
 have e2 := and_mask (x - y) b.toNat (by omega)
 have e3 := pow_le (b := b) (by omega) h1
 have e4 := shr_eq ((x - y) % 2 ^ b.toNat) (b := b - 1) (by omega) (by omega)
 have m0 := Int.emod_nonneg (x - y) (show (2 : Int) ^ b.toNat ≠ 0 by omega)
 have m1 := Int.emod_lt_of_pos (x - y) (show (0 : Int) < 2 ^ b.toNat by omega)
 have f1 := dF (show ¬ (b < 1) by omega)
 have f2 := dF (show ¬ (32 < b) by omega)
 have f3 := dF (show ¬ (x < 0) by omega)
 have f4 := dF (show ¬ (y < 0) by omega)
 have f5 := neF (shr0 (b := b) (by omega) (by omega) hx hx2)
 have f6 := neF (shr0 (b := b) (by omega) (by omega) hy hy2)
 by_cases hl : (x - y) % 2 ^ b.toNat / 2 ^ (b - 1).toNat = 1
 all_goals
  have g := hl
  first | (have g := eqT hl) | (have g := eqF hl)
  simp only [Try.f85, cx, e, e2, e4, f1, f2, f3, f4, f5, f6, g, go_sem, meths]
  have i1 : Go.Sx.inI64 (x - y) := ⟨by omega, by omega⟩
  have i2 : Go.Sx.inI64 ((2 : Int) ^ b.toNat - 1) := ⟨by omega, by omega⟩
  have i3 : Go.Sx.inI64 (b - 1) := ⟨by omega, by omega⟩
  have i4 : Go.Sx.inI64 ((x - y) % 2 ^ b.toNat - 2 ^ b.toNat) := ⟨by omega, by omega⟩
  have i5 : 0 ≤ b := by omega
  have i6 : 0 ≤ b - 1 := by omega
  simp only [i1, i2, i3, i4, i5, i6, true_and]
  exact .of (.inr rfl) rfl ⟨trivial, trivial, trivial⟩ (by simp only [lead, hl, go_sem, one, Wk, WkL, and_self]) (by intro n hn; cases hn) rfl trivial trivial
theorem lead_ok {F : SF} {L nx : Nat} (x y b : Int) (h0 : 1 ≤ b) (h1 : b ≤ 32) (hx : 0 ≤ x) (hx2 : x < 2 ^ b.toNat) (hy : 0 ≤ y) (hy2 : y < 2 ^ b.toNat) : Con Try.prog 48 [.int .i64 x, .int .i64 y, .int .i64 b] F L nx nx (.int .i64 (lead x y b)) [] [] := by
 refine bdy Try.f48 ?_
 intro F3 hF1 hF2
 simp only [Try.f48, cx, go_sem, meths]
 refine CallVC.pure (args2 := [_, _, _]) ⟨rfl, rfl, rfl, trivial⟩ (ahead_ok x y b h0 h1 hx hx2 hy hy2) rfl ?_
 simp only [go_sem]
 exact .int (.inr rfl) rfl rfl trivial
theorem indexFunc_ok {F : SF} {L nx : Nat} (xs : List Int) (g : FuncId) (fl cl : List PV) (p : Int → Bool) (rd : List Nm) (hrd : ∀ n ∈ rd, n.l ≤ L) (hlen : xs.length ≤ 1000000) (hcl : ∀ x ∈ xs, ∀ L' nx', L ≤ L' → Con Try.prog g (fl ++ [.int .i64 x] ++ cl) F L' nx' nx' (.bool (p x)) [] rd) :
  Con Try.prog 94 [.fs 1 (xs.map eI), .fn (.func g) fl cl] F L nx nx (.int .i64 (idxI p xs)) [] rd := by
 refine bdy Try.f94 (hrd := hrd) ?_
 intro F3 hF1 hF2
 simp only [Try.f94, cx, go_sem, meths]
 refine loopK.intro _ _ (I := fun i : Nat => ⟨[some (.fs 1 (xs.map eI)), some (.fn (.func g) fl cl), none, none, none, none, none, some (.int .i64 xs.length), some (.int .i64 i), none, none, none, none, none, none, none, none, none, none], [], 1000 * (i + 1)⟩) (pre := fun i => i ≤ xs.length ∧ ∀ (j : Nat) (hj : j < xs.length), j < i → p xs[j] = false) (μ := fun i => xs.length - i) 0 ⟨by omega, by intro j _ h; omega⟩ ?_ ?_
 ·refine Sub.of (hfz hF2) ?_ trivial trivial (by simp)
  simp only [go_sem, subT, and_self, List.length_map, Int.natCast_zero]
 ·rintro i ⟨hi, hp⟩
  by_cases hlt : i < xs.length
  ·have g1 : decide ((i : Int) < (xs.length : Int)) = true := dT (by omega)
   have hx : xs.getD i 0 = xs[i] := by simp [hlt, List.getD_eq_getElem?_getD]
   simp only [g1, getD_eI xs hlt, eI, hx, go_sem]
   refine ⟨⟨by omega, by simp; omega⟩, by simp; exact hlt, CallVC.same ((hcl xs[i] (List.getElem_mem hlt) _ _ (by omega)).agree hF1) ?_⟩
   have i1 : Go.Sx.inI64 ((i : Int) + 1) := ⟨by omega, by omega⟩
   cases hpi : p xs[i]
   ·simp only [go_sem]
    refine ⟨i1, i + 1, ⟨by omega, fun j hj hji => ?_⟩, by omega, Sub.of (hfz hF2) ?_ trivial trivial (by simp; omega)⟩
    ·by_cases he : j = i
     ·subst he; exact hpi
     ·exact hp j hj (by omega)
    ·simp only [go_sem, subT, and_self, Int.natCast_add, Int.cast_ofNat_Int]
   ·simp only [go_sem]
    exact .int (.inr rfl) rfl (idxI_stop hlt hp hpi).symm trivial
  ·have g1 : decide ((i : Int) < (xs.length : Int)) = false := dF (by omega)
   simp only [g1, go_sem]
   exact .int (.inr rfl) rfl (idxI_end (fun j hj => hp j hj (by omega))).symm trivial
theorem containsFunc_ok {F : SF} {L nx : Nat} (xs : List Int) (g : FuncId) (fl cl : List PV) (p : Int → Bool) (rd : List Nm) (hrd : ∀ n ∈ rd, n.l ≤ L) (hlen : xs.length ≤ 1000000) (hcl : ∀ x ∈ xs, ∀ L' nx', L ≤ L' → Con Try.prog g (fl ++ [.int .i64 x] ++ cl) F L' nx' nx' (.bool (p x)) [] rd) :
  Con Try.prog 66 [.fs 1 (xs.map eI), .fn (.func g) fl cl] F L nx nx (.bool (xs.any p)) [] rd := by
 refine bdy Try.f66 (hrd := hrd) ?_
 intro F3 hF1 hF2
 simp only [Try.f66, cx, go_sem, meths]
 refine CallVC.same ((indexFunc_ok xs g fl cl p rd (fun n hn => by have := hrd n hn; omega) hlen (fun x hx L' nx' hL => hcl x hx L' nx' (by omega))).agree hF1) ?_
 simp only [go_sem]
 exact .bool (.inr rfl) rfl (idxI_any p xs) trivial
def serB (b x : Int) : Bool := decide (0 ≤ x) && decide (x < 2 ^ b.toNat)
theorem serial1_ok {F : SF} {L nx : Nat} (x b : Int) (n : Nm) (e : TypeId) (o p : Bool) (hn : n.l ≤ L) (hF : F n = some (.rows e 1 o p [[.int .i64 b]])) (h0 : 0 ≤ b) (h1 : b ≤ 32) : Con Try.prog 81 [.int .i64 x, .ptr n 0 0] F L nx nx (.bool (!serB b x)) [] [n] := by
 refine bdy Try.f81 (hrd := (by simpa using hn)) ?_
 intro F3 hF1 hF2
 have hF := (hF1 n (by simp)).trans hF
 have e3 := pow_le h0 h1
 by_cases hx : x < 0
 ·have f1 := dT hx
  simp only [Try.f81, cx, f1, go_sem, meths]
  exact .bool (.inr rfl) rfl (by simp [serB]; omega) trivial
 ·have f1 := dF hx
  have f2 := shr_eq x h0 (by omega)
  by_cases hb : x < 2 ^ b.toNat
  ·have f3 := neF (shr0 h0 (by omega) (by omega) hb)
   simp only [Try.f81, cx, hF, f1, f3, go_sem, meths]
   exact ⟨h0, .bool (.inr rfl) rfl (by simp [serB]; omega) trivial⟩
  ·have f3 : (x.fdiv (2 ^ min b.toNat 64) != 0) = true := neT (by
    rw [f2]
    have := Int.le_ediv_of_mul_le (show (0 : Int) < 2 ^ b.toNat by omega) (show 1 * 2 ^ b.toNat ≤ x by omega)
    omega)
   simp only [Try.f81, cx, hF, f1, f3, go_sem, meths]
   exact ⟨h0, .bool (.inr rfl) rfl (by simp [serB]; omega) trivial⟩
theorem serial_ok {F : SF} {L nx : Nat} (b : Int) (xs : List Int) (h0 : 0 ≤ b) (h1 : b ≤ 32) (hlen : xs.length ≤ 1000000) : Con Try.prog 42 [.int .i64 b, .fs 1 (xs.map eI)] F L nx nx (.bool (xs.all (serB b))) [] [] := by
 refine bdy Try.f42 ?_
 intro F3 hF1 hF2
 simp only [Try.f42, cx, go_sem, meths]
 refine CallVC.same (containsFunc_ok xs 81 [] [.ptr ⟨L + 1, 0⟩ 0 0] (fun x => !serB b x) [⟨L + 1, 0⟩] (by simp) hlen (fun x hx L' nx' hL => serial1_ok x b ⟨L + 1, 0⟩ 3 true true hL (by simp) h0 h1)) ?_
 simp only [go_sem]
 exact .bool (.inr rfl) rfl (by rw [List.all_eq_not_any_not]) ⟨.inl rfl, trivial⟩
def okAt (xs : List Int) (n : Int) (i : Nat) : Bool := decide (0 ≤ xs.getD i 0) && decide (xs.getD i 0 < n) && (i == 0 || decide (xs.getD (i - 1) 0 < xs.getD i 0))
def listedB (xs : List Int) (n : Int) : Bool := (List.range xs.length).all (okAt xs n)
theorem listed_ok {F : SF} {L nx : Nat} (xs : List Int) (n : Int) (hlen : xs.length ≤ 1000000) : Con Try.prog 46 [.fs 1 (xs.map eI), .int .i64 n] F L nx nx (.bool (listedB xs n)) [] [] := by
 refine bdy Try.f46 ?_
 intro F3 hF1 hF2
 simp only [Try.f46, cx, go_sem, meths]
 refine loopK.intro _ _ (I := fun i : Nat => ⟨[some (.fs 1 (xs.map eI)), some (.int .i64 n), none, none, none, none, none, some (.fs 1 (xs.map eI)), some (.int .i64 xs.length), some (.int .i64 i), none, none, none, none, none, none, none, none, none, none, none, none, none, none, none, none, none, none, none, none, none, none, none, none, none], [], 1000 * (i + 1)⟩) (pre := fun i => i ≤ xs.length ∧ ∀ j, j < i → okAt xs n j = true) (μ := fun i => xs.length - i) 0 ⟨by omega, by intro j h; omega⟩ ?_ ?_
 ·exact Sub.of (hfz hF2) (by simp only [go_sem, subT, and_self, List.length_map, Int.natCast_zero]) trivial trivial (by simp)
 ·rintro i ⟨hi, hp⟩
  by_cases hlt : i < xs.length
  ·have g1 : decide ((i : Int) < (xs.length : Int)) = true := dT (by omega)
   have e1 : ((i : Int) - 1).toNat = i - 1 := by omega
   have i1 : Go.Sx.inI64 ((i : Int) + 1) := ⟨by omega, by omega⟩
   have i2 : Go.Sx.inI64 ((i : Int) - 1) := ⟨by omega, by omega⟩
   have r0 := getD_eI xs hlt
   have r1 := getD_eI xs (i := i - 1) (by omega)
   have hl := len_eI xs
   have no : okAt xs n i = false → listedB xs n = false := by
    intro h
    unfold listedB
    rw [List.all_eq_false]
    exact ⟨i, by simpa using hlt, by simp [h]⟩
   have yes : okAt xs n i = true → ∀ j, j < i + 1 → okAt xs n j = true := by
    intro h j hj
    by_cases he : j = i
    ·subst he; exact h
    ·exact hp j (by omega)
   by_cases c1 : xs.getD i 0 < 0
   ·have f1 := dT c1
    simp only [g1, r0, eI, f1, hl, go_sem]
    exact ⟨⟨by omega, by omega⟩, hlt, .bool (.inr rfl) rfl (no (by simp only [okAt]; rw [dF (by omega)]; rfl)).symm trivial⟩
   have f1 := dF c1
   by_cases c2 : n ≤ xs.getD i 0
   ·have f2 := dT c2
    simp only [g1, r0, eI, f1, f2, hl, go_sem]
    exact ⟨⟨by omega, by omega⟩, hlt, .bool (.inr rfl) rfl (no (by simp only [okAt]; rw [dF (show ¬ xs.getD i 0 < n by omega)]; simp)).symm trivial⟩
   have f2 := dF c2
   by_cases c3 : i = 0
   ·have f3 : decide ((0 : Int) < (i : Int)) = false := dF (by omega)
    simp only [g1, r0, eI, f1, f2, f3, hl, go_sem]
    exact ⟨⟨by omega, by omega⟩, hlt, i1, i + 1, ⟨by omega, yes (by simp [okAt, c3] at c1 c2 ⊢; omega)⟩, by omega, Sub.of (hfz hF2) (by simp only [go_sem, subT, and_self, Int.natCast_add, Int.cast_ofNat_Int]) trivial trivial (by simp; omega)⟩
   ·have f3 : decide ((0 : Int) < (i : Int)) = true := dT (by omega)
    by_cases c4 : xs.getD i 0 ≤ xs.getD (i - 1) 0
    ·have f4 := dT c4
     simp only [g1, r0, r1, e1, eI, f1, f2, f3, f4, hl, go_sem]
     refine ⟨⟨by omega, by omega⟩, hlt, i2, ⟨by omega, by omega⟩, by omega, .bool (.inr rfl) rfl (no ?_).symm trivial⟩
     simp only [okAt]
     rw [dF (show ¬ xs.getD (i - 1) 0 < xs.getD i 0 by omega)]
     simp [c3]
    ·have f4 := dF c4
     simp only [g1, r0, r1, e1, eI, f1, f2, f3, f4, hl, go_sem]
     refine ⟨⟨by omega, by omega⟩, hlt, i2, ⟨by omega, by omega⟩, by omega, i1, i + 1, ⟨by omega, yes ?_⟩, by omega, Sub.of (hfz hF2) (by simp only [go_sem, subT, and_self, Int.natCast_add, Int.cast_ofNat_Int]) trivial trivial (by simp; omega)⟩
     simp only [okAt]
     rw [dT (show xs.getD (i - 1) 0 < xs.getD i 0 by omega), dT (show 0 ≤ xs.getD i 0 by omega), dT (show xs.getD i 0 < n by omega)]
     simp
  ·have g1 : decide ((i : Int) < (xs.length : Int)) = false := dF (by omega)
   simp only [g1, go_sem]
   refine .bool (.inr rfl) rfl ?_ trivial
   symm
   unfold listedB
   rw [List.all_eq_true]
   intro j hj
   exact hp j (by have := List.mem_range.1 hj; omega)
theorem index_ok {F : SF} {L nx : Nat} (xs : List Int) (y : Int) (hlen : xs.length ≤ 1000000) : Con Try.prog 82 [.fs 1 (xs.map eI), .int .i64 y] F L nx nx (.int .i64 (idxI (fun x => y == x) xs)) [] [] := by
 refine bdy Try.f82 ?_
 intro F3 hF1 hF2
 simp only [Try.f82, cx, go_sem, meths]
 refine loopK.intro _ _ (I := fun i : Nat => ⟨[some (.fs 1 (xs.map eI)), some (.int .i64 y), none, none, none, none, none, some (.int .i64 xs.length), some (.int .i64 i), none, none, none, none, none, none, none, none, none, none], [], 1000 * (i + 1)⟩) (pre := fun i => i ≤ xs.length ∧ ∀ (j : Nat) (hj : j < xs.length), j < i → (y == xs[j]) = false) (μ := fun i => xs.length - i) 0 ⟨by omega, by intro j _ h; omega⟩ ?_ ?_
 ·exact Sub.of (hfz hF2) (by simp only [go_sem, subT, and_self, List.length_map, Int.natCast_zero]) trivial trivial (by simp)
 ·rintro i ⟨hi, hp⟩
  by_cases hlt : i < xs.length
  ·have g1 : decide ((i : Int) < (xs.length : Int)) = true := dT (by omega)
   have hx : xs.getD i 0 = xs[i] := by simp [hlt, List.getD_eq_getElem?_getD]
   have i1 : Go.Sx.inI64 ((i : Int) + 1) := ⟨by omega, by omega⟩
   have hl := len_eI xs
   cases hpi : (y == xs[i])
   ·simp only [g1, getD_eI xs hlt, eI, hx, hpi, hl, go_sem]
    refine ⟨⟨by omega, by omega⟩, hlt, i1, i + 1, ⟨by omega, fun j hj hji => ?_⟩, by omega, Sub.of (hfz hF2) (by simp only [go_sem, subT, and_self, Int.natCast_add, Int.cast_ofNat_Int]) trivial trivial (by simp; omega)⟩
    by_cases he : j = i
    ·subst he; exact hpi
    ·exact hp j hj (by omega)
   ·simp only [g1, getD_eI xs hlt, eI, hx, hpi, hl, go_sem]
    exact ⟨⟨by omega, by omega⟩, hlt, .int (.inr rfl) rfl (idxI_stop hlt hp hpi).symm trivial⟩
  ·have g1 : decide ((i : Int) < (xs.length : Int)) = false := dF (by omega)
   simp only [g1, go_sem]
   exact .int (.inr rfl) rfl (idxI_end (fun j hj => hp j hj (by omega))).symm trivial
theorem contains_ok {F : SF} {L nx : Nat} (xs : List Int) (y : Int) (hlen : xs.length ≤ 1000000) : Con Try.prog 43 [.fs 1 (xs.map eI), .int .i64 y] F L nx nx (.bool (xs.any fun x => y == x)) [] [] := by
 refine bdy Try.f43 ?_
 intro F3 hF1 hF2
 simp only [Try.f43, cx, go_sem, meths]
 refine CallVC.same (index_ok xs y hlen) ?_
 simp only [go_sem]
 exact .bool (.inr rfl) rfl (idxI_any _ xs) trivial
theorem cloneI_ok {F : SF} {L nx : Nat} (xs : List Int) (hlen : xs.length ≤ 1000000) :
  Con Try.prog 13 [.fs 1 (xs.map eI)] F L nx (nx + 1) (.sl ⟨L, nx⟩ 0 xs.length) [(⟨L, nx⟩, .rows 3 1 true true (xs.map eI))] [] := by
 refine bdyN Try.f13 ?_
 intro F3 hF1 hF2
 simp only [Try.f13, cx, go_sem, meths]
 refine nilK.intro fun b hb => ?_
 cases b with
 | true =>
  have hx := hb rfl
  simp only [List.length_map, List.length_eq_zero_iff] at hx
  subst hx
  simp only [go_sem]
  refine ⟨_, Sub.nilName 2 3 (wd := 1) (by omega) rfl, .sl1 (g := 96) (.inr rfl) rfl ⟨trivial, trivial⟩ ?_ ⟨.inl rfl, trivial⟩⟩
  simp [updH, setH, Tx.look]
 | false =>
  simp only [go_sem]
  rw [List.length_map]
  exact ⟨⟨by omega, by omega⟩, .now (.sl1 (g := 128) (.inr rfl) rfl ⟨trivial, trivial⟩ (by simp [Tx.look]) ⟨.inl rfl, .inl rfl, trivial⟩)⟩
noncomputable def cxy (L : Nat) (y : YRec) : Cx := ⟨Try.prog, tys, meths, false, L, none, [y]⟩
theorem cxyOk (L : Nat) (y : YRec) : (cxy L y).Ok := ⟨tysOk, fieldsOk, mixedOk, methsOk⟩
def pieceS (s : List UInt8) (i : Nat) : List UInt8 := (s.drop (1000 * i)).take 1000
theorem pieces1_ok {F : SF} {L nx k : Nat} {upd : List (Nm × SBlk)} {rd : List Nm} (s : List UInt8) (hlen : s.length ≤ 1000000) (n : Nm) (o p : Bool) (hF : F n = some (.rows 9 1 o p [[.str s]])) (hnrd : n ∈ rd) (hrd : ∀ m ∈ rd, m.l ≤ L) (y : YRec) (N : Nat) (hN : N = (s.length + 999) / 1000) (u : Nat → List (Nm × SBlk)) (rdY : Nat → List Nm)
  (hy : ∀ F3 : SF, (∀ m ∈ rd, F3 m = F m) → ∀ i, i < N → YCon Try.prog y [.int .i64 i, .str (pieceS s i)] (Tx.look F3 (HF u i)) (L + 1) (1000 * (i + 1) + 544) (1000 * (i + 1) + 545) (.bool true) (u i) (rdY i)) (hnu : ∀ i, i < N → n ∉ keys (u i))
  (hend : ∀ F3 : SF, (∀ m ∈ rd, F3 m = F m) → (∀ m : Nm, L < m.l → F3 m = none) → ∃ news : List Nat, news.length = k ∧ news.Nodup ∧ UpdN L nx news (Tx.look F3 (HF u N)) upd ∧ UpdAll L (keys upd) (HF u N)) :
  ICon Try.prog [y] 83 [.fn (.yield y.l) [] [], .ptr n 0 0] F L nx (nx + k) (.tup []) upd rd := by
 refine ICon.bodyN (cxyOk (L + 1) y) rfl (fn := Try.f83) (c := Try.f83.body.getD .skip) (by kernel_rfl) (by rfl) (by kernel_rfl) rfl hrd ?_
 intro F3 hF1 hF2
 have hl : n.l ≤ L := hrd n hnrd
 have hFn := (hF1 n hnrd).trans hF
 simp only [Try.f83, cxy, go_sem, meths]
 refine loopK.intro _ _ (I := fun i : Nat => ⟨[some (.fn (.yield y.l) [] []), some (.ptr n 0 0), none, some (.int .i64 i), none, none, none, none, none, none, none, none, none, none, none, none, none, none, none, none, none, none, none, none, none], HF u i, 1000 * (i + 1)⟩) (pre := fun i => i ≤ N) (μ := fun i => N - i) 0 (by omega) ?_ ?_
 ·exact Sub.slots (by simp only [go_sem, subT, and_self, Int.natCast_zero]) (by omega)
 ·intro i hi
  have hc : Tx.look F3 (HF u i) n = some (.rows 9 1 o p [[.str s]]) := (look_HF_not fun j hj => hnu j (by omega)).trans hFn
  have i1 : Go.Sx.inI64 ((i : Int) * 1000) := ⟨by omega, by omega⟩
  by_cases hlt : i < N
  ·have g1 : decide ((i : Int) * 1000 < (s.length : Int)) = true := dT (by omega)
   simp only [hc, g1, i1, go_sem]
   have e1 : ((i : Int) * 1000).toNat = 1000 * i := by omega
   have hs : List.take ((min (((i : Int) + 1) * 1000) (s.length : Int)).toNat - ((i : Int) * 1000).toNat) (List.drop ((i : Int) * 1000).toNat s) = pieceS s i := by
    rw [e1]
    unfold pieceS
    by_cases hb : 1000 * (i + 1) ≤ s.length
    ·congr 1; omega
    ·rw [List.take_of_length_le (by rw [List.length_drop]; omega), List.take_of_length_le (by rw [List.length_drop]; omega)]
   refine ⟨⟨by omega, by omega⟩, ⟨by omega, by omega⟩, ⟨by omega, by omega, by omega⟩, ?_⟩
   rw [hs, show 1000 * (i + 1) + 32 + 32 + 32 + 32 + 32 + 32 + 32 + 32 + 32 + 32 + 32 + 32 + 32 + 32 + 32 + 32 + 32 = 1000 * (i + 1) + 544 from by omega]
   refine YVC.one (hy F3 hF1 i hlt) ?_
   simp only [go_sem]
   refine ⟨⟨by omega, by omega⟩, i + 1, by omega, by omega, ?_⟩
   exact Sub.slots (by simp only [go_sem, subT, and_self, Int.natCast_add, Int.natCast_one]) (by omega)
  ·have hiN : i = N := by omega
   have g1 : decide ((i : Int) * 1000 < (s.length : Int)) = false := dF (by omega)
   simp only [hc, g1, i1, go_sem]
   subst hiN
   obtain ⟨news, q1, q2, q3, q4⟩ := hend F3 hF1 hF2
   exact .now ⟨.inl rfl, ⟨news, True, .tup [], .tup [], q1, q2, rfl, trivial, (wk_refl _ (.tup [])).1, (by intro m hm; rw [(wk_refl F3 (.tup [])).2] at hm; cases hm), trivial, rfl, q3⟩, q4⟩
theorem pieces_ok {F : SF} {L nx : Nat} (s : List UInt8) : Con Try.prog 45 [.str s] F L nx (nx + 1) (.fn (.func 83) [] [.ptr ⟨L, nx⟩ 0 0]) [(⟨L, nx⟩, .rows 9 1 true true [[.str s]])] [] := by
 refine bdyN Try.f45 ?_
 intro F3 hF1 hF2
 simp only [Try.f45, cx, go_sem, meths]
 have hk : kp L nx [0] ⟨L, nx⟩ = ⟨L + 1, 0⟩ := by simp [kp]
 refine .now (.val [0] (.inr rfl) (by simp) rfl ⟨trivial, trivial⟩ (by simp [one, nmA, nmAL, Dn]) (by simp [one, Tx.rn, Tx.rnL, sg]) ⟨Nat.le_refl _, ?_, trivial⟩ ⟨.inl rfl, trivial⟩)
 have hl : Tx.look F3 [(⟨L + 1, 0⟩, .rows 9 1 true true [[.str s]])] ⟨L + 1, 0⟩ = some (.rows 9 1 true true [[.str s]]) := by simp [Tx.look]
 rw [hk]
 simp only [hl]
 exact ⟨rfl, rfl, id, .inl ⟨rfl, rfl, rfl⟩⟩
theorem due0_ok {F : SF} {L nx : Nat} (n : Nm) (hn : n.l ≤ L) (o p : Bool) (out inn num seen asked : PV) (hF : F n = some (.rows 106 6 o p [[out, inn, .fs 8 [], num, seen, asked]])) :
  Con Try.prog 63 [.ptr n 0 0] F L nx nx (.tup [.agg [.int .i64 0, .int .i64 0, .bool false, .str []], .nilS]) [] [n] := by
 refine bdy Try.f63 (hrd := (by simpa using hn)) ?_
 intro F3 hF1 hF2
 have hF := (hF1 n (by simp)).trans hF
 have o1 := nm_out' hn
 have o2 := nm_out hn
 simp only [Try.f63, cx, hF, o2, Nat.add_zero, go_sem, meths]
 have g : decide ((0 : Int) < ((0 : Nat) : Int)) = false := rfl
 refine loopK.unit ?_
 simp only [g, hF, o2, Nat.add_zero, go_sem]
 refine loopK.unit ?_
 simp only [g, go_sem]
 refine .of (p := True) (v0 := .tup [.agg [.int .i64 0, .int .i64 0, .bool false, .str []], .nilS]) (.inr rfl) ?_ trivial ?_ ?_ rfl trivial ⟨.inl rfl, .inl rfl, trivial⟩
 ·simp only [resVal, resVals, resVal1, one, go_sem]
 ·exact (wk_refl _ _).1
 ·intro m hm; rw [(wk_refl F3 _).2] at hm; cases hm
theorem check0_ok {F : SF} {L nx : Nat} (out inn asked : List Int) (num seen : Int) (hsn : seen = -1 ∨ [seen].all (serB 32) = true) (ho : 1 ≤ out.length) (ho2 : out.length ≤ 16) (ho3 : out.all (serB 16) = true) (hi : 1 ≤ inn.length) (hi2 : inn.length ≤ 16) (hi3 : inn.all (serB 16) = true)
  (hn : [num].all (serB 32) = true) (ha : listedB asked out.length = true) (ha2 : asked.length ≤ 1000000) :
  Con Try.prog 31 [.agg [.fs 1 (out.map eI), .fs 1 (inn.map eI), .fs 8 [], .int .i64 num, .int .i64 seen, .fs 1 (asked.map eI)]] F L nx nx (.int .i64 0) [] [] := by
 refine bdy Try.f31 ?_
 intro F3 hF1 hF2
 simp only [Try.f31, cx, Nat.add_zero, go_sem, meths]
 refine loopK.intro _ _ (I := fun i : Nat => ⟨[none, some (.ptr ⟨L + 1, 0⟩ 0 0), some (.int .i64 0), none, none, none, none, none, none, none, none, none, none, none, some (.agg [.fs 1 (out.map eI), .fs 1 (inn.map eI)]), some (.int .i64 i), none, none, none, none, none, none, none, none, none, none, none, none, none, none, none, none, none, none, none, none, none, none, none, none, none, none, none, none, none, none, none, none, none, none, none, none, none, none, none, none, none, none, none, none, none, none, none, none, none, none, none, none, none, none, none, none, none, none, none, none, none, none, none, none, none, none, none, none, none, none, none, none, none, none, none, none, none, none, none, none, none, none, none, none, none, none, none, none, none, none, none, none, none, none, none, none, none, none, none, none, none, none, none, none], [(⟨L + 1, 0⟩, .rows 34 6 true true [[.fs 1 (out.map eI), .fs 1 (inn.map eI), .fs 8 [], .int .i64 num, .int .i64 seen, .fs 1 (asked.map eI)]])], 1000 * (i + 1)⟩) (pre := fun i => i ≤ 2) (μ := fun i => 2 - i) 0 (by omega) ?_ ?_
 ·exact Sub.of (hfz hF2) (by simp only [go_sem, subT, and_self, Int.natCast_zero]) (by simp [subH, Tx.look]) ⟨.inl rfl, trivial⟩ (by simp)
 ·intro i hi'
  have hc : i = 0 ∨ i = 1 ∨ i = 2 := by omega
  rcases hc with rfl | rfl | rfl
  ·have g1 : decide (((0 : Nat) : Int) < 2) = true := rfl
   have g2 : decide ((out.length : Int) < 1) = false := dF (by omega)
   have g3 : decide ((16 : Int) < (out.length : Int)) = false := dF (by omega)
   simp only [g1, g2, g3, List.length_map, go_sem]
   refine ⟨⟨by omega, by omega, by omega⟩, CallVC.same (serial_ok 16 out (by omega) (by omega) (by omega)) ?_⟩
   simp only [ho3, go_sem]
   refine ⟨⟨by omega, by omega⟩, 1, by omega, by omega, ?_⟩
   exact Sub.of (hfz hF2) (by simp only [go_sem, subT]; try trivial) (by simp [subH, Tx.look]) ⟨.inl rfl, trivial⟩ (by simp)
  ·have g1 : decide (((1 : Nat) : Int) < 2) = true := rfl
   have g2 : decide ((inn.length : Int) < 1) = false := dF (by omega)
   have g3 : decide ((16 : Int) < (inn.length : Int)) = false := dF (by omega)
   simp only [g1, g2, g3, List.length_map, go_sem]
   refine ⟨⟨by omega, by omega, by omega⟩, CallVC.same (serial_ok 16 inn (by omega) (by omega) (by omega)) ?_⟩
   simp only [hi3, go_sem]
   refine ⟨⟨by omega, by omega⟩, 2, by omega, by omega, ?_⟩
   exact Sub.of (hfz hF2) (by simp only [go_sem, subT]; try trivial) (by simp [subH, Tx.look]) ⟨.inl rfl, trivial⟩ (by simp)
  ·have g1 : decide (((2 : Nat) : Int) < 2) = false := rfl
   have g2 : decide ((80 : Int) < ((0 : Nat) : Int)) = false := rfl
   simp only [g1, g2, go_sem]
   refine CallVC.pure (args2 := [_, .fs 1 ([num].map eI)]) ⟨rfl, ?_, trivial⟩ (serial_ok 32 [num] (by omega) (by omega) (by simp)) rfl ?_
   ·simp [Wk, eI]
   rcases hsn with hsn | hsn
   ·have fsn : (seen != -1) = false := neF hsn
    simp only [hn, fsn, wkNL, wkN, Nat.add_zero, go_sem]
    rw [List.length_map]
    refine CallVC.same (listed_ok asked out.length (by omega)) ?_
    simp only [ha, go_sem]
    have g3 : decide ((0 : Int) < ((0 : Nat) : Int)) = false := rfl
    refine loopK.unit ?_
    simp only [g3, go_sem]
    refine CallVC.same (due0_ok ⟨L + 1, 4120⟩ (Nat.le_refl _) true true (.fs 1 (out.map eI)) (.fs 1 (inn.map eI)) (.int .i64 num) (.int .i64 seen) (.fs 1 (asked.map eI)) (by simp only [nm_eq, go_sem])) ?_
    have g5 : decide ((0 : Int) < 0) = false := rfl
    simp only [g5, go_sem]
    exact .int (.inr rfl) rfl rfl (by simp [UpdAll])
   ·have fsn : (seen != -1) = true := neT (by simp [serB] at hsn; omega)
    simp only [hn, fsn, wkNL, wkN, go_sem]
    refine CallVC.pure (args2 := [_, .fs 1 ([seen].map eI)]) ⟨rfl, by simp [Wk, eI], trivial⟩ (serial_ok 32 [seen] (by omega) (by omega) (by simp)) rfl ?_
    simp only [hsn, wkNL, wkN, Nat.add_zero, go_sem]
    rw [List.length_map]
    refine CallVC.same (listed_ok asked out.length (by omega)) ?_
    simp only [ha, go_sem]
    have g3 : decide ((0 : Int) < ((0 : Nat) : Int)) = false := rfl
    refine loopK.unit ?_
    simp only [g3, go_sem]
    refine CallVC.same (due0_ok ⟨L + 1, 4248⟩ (Nat.le_refl _) true true (.fs 1 (out.map eI)) (.fs 1 (inn.map eI)) (.int .i64 num) (.int .i64 seen) (.fs 1 (asked.map eI)) (by simp only [nm_eq, go_sem])) ?_
    have g5 : decide ((0 : Int) < 0) = false := rfl
    simp only [g5, go_sem]
    exact .int (.inr rfl) rfl rfl (by simp [UpdAll])
theorem cloneD_ok {F : SF} {L nx : Nat} (rs : List (List PV)) (hlen : rs.length ≤ 1000000) :
  Con Try.prog 52 [.fs 8 rs] F L nx (nx + 1) (.sl ⟨L, nx⟩ 0 rs.length) [(⟨L, nx⟩, .rows 43 8 true true rs)] [] := by
 refine bdyN Try.f52 ?_
 intro F3 hF1 hF2
 simp only [Try.f52, cx, go_sem, meths]
 refine nilK.intro fun b hb => ?_
 cases b with
 | true =>
  have hx := hb rfl
  simp only [List.length_eq_zero_iff] at hx
  subst hx
  simp only [go_sem]
  refine ⟨_, Sub.nilName 2 43 (wd := 8) (by omega) rfl, .sl1 (g := 96) (.inr rfl) rfl ⟨trivial, trivial⟩ ?_ ⟨.inl rfl, trivial⟩⟩
  simp [updH, setH, Tx.look]
 | false =>
  simp only [go_sem]
  exact ⟨⟨by omega, by omega⟩, .now (.sl1 (g := 128) (.inr rfl) rfl ⟨trivial, trivial⟩ (by simp [Tx.look]) ⟨.inl rfl, .inl rfl, trivial⟩)⟩
theorem begin0_ok {F : SF} {L nx : Nat} (out inn asked : List Int) (num seen : Int) (hsn : seen = -1 ∨ [seen].all (serB 32) = true) (ho : 1 ≤ out.length) (ho2 : out.length ≤ 16) (ho3 : out.all (serB 16) = true) (hi : 1 ≤ inn.length) (hi2 : inn.length ≤ 16) (hi3 : inn.all (serB 16) = true)
    (hn : [num].all (serB 32) = true) (ha : listedB asked out.length = true) (ha2 : asked.length ≤ 1000000) :
    Con Try.prog 41 [.agg [.fs 1 (out.map eI), .fs 1 (inn.map eI), .fs 8 [], .int .i64 num, .int .i64 seen, .fs 1 (asked.map eI)]] F L nx (nx + 5) (.tup [.ptr ⟨L, nx⟩ 0 0, .int .i64 0])
      [(⟨L, nx⟩, .rows 106 6 true false [[.sl ⟨L, nx + 1⟩ 0 out.length, .sl ⟨L, nx + 2⟩ 0 inn.length, .sl ⟨L, nx + 3⟩ 0 0, .int .i64 num, .int .i64 seen, .sl ⟨L, nx + 4⟩ 0 asked.length]]),
       (⟨L, nx + 1⟩, .rows 3 1 true true (out.map eI)), (⟨L, nx + 2⟩, .rows 3 1 true true (inn.map eI)), (⟨L, nx + 3⟩, .rows 43 8 true true []), (⟨L, nx + 4⟩, .rows 3 1 true true (asked.map eI))] [] := by
  refine bdyN Try.f41 ?_
  intro F3 hF1 hF2
  simp only [Try.f41, cx, go_sem, meths]
  refine CallVC.same (check0_ok out inn asked num seen hsn ho ho2 ho3 hi hi2 hi3 hn ha ha2) ?_
  have g : ((0 : Int) != 0) = false := rfl
  simp only [g, Nat.add_zero, go_sem]
  refine ⟨by kernel_rfl, CallVC.same (cloneI_ok out (by omega)) ?_⟩
  simp only [go_sem]
  refine CallVC.same (cloneI_ok inn (by omega)) ?_
  simp only [go_sem]
  refine CallVC.same (cloneD_ok [] (by simp)) ?_
  simp only [go_sem]
  refine CallVC.same (cloneI_ok asked (by omega)) ?_
  simp only [Nat.add_zero, go_sem]
  refine ⟨okDyn_num (·.i) (by kernel_rfl), .now (.val [288, 544, 609, 674, 739] (.inr rfl) (by simp) rfl ⟨trivial, trivial, trivial⟩ (by simp [one, nmA, nmAL, Dn]) (by simp [one, Tx.rn, Tx.rnL, sg]) ⟨Nat.le_refl _, ?_, Nat.le_refl _, ?_, Nat.le_refl _, ?_, Nat.le_refl _, ?_, Nat.le_refl _, ?_, trivial⟩ ⟨.inl rfl, .inl rfl, .inl rfl, .inl rfl, .inl rfl, .inl rfl, trivial⟩)⟩
  · rw [kp_at0 (by simp)]
    refine .ren (by simp [Tx.look]; rfl) ?_ ?_
    · simp [rowsNm, nmA, nmAL, Dn]
    · simp [Tx.rn, Tx.rnL, sg, List.idxOf, List.findIdx, List.findIdx.go]
  all_goals
    rw [kp_at (by simp)]
    exact .pure (by simp [Tx.look])
theorem BN_dead {L nx : Nat} {news : List Nat} {G : SF} {ob : Option SBlk} : BN L nx news G ob .dead := by
 cases ob with
 | none => trivial
 | some b => cases b <;> trivial
theorem nB {i k : Nat} (h : k < 10000) : (10000 * (i + 1) = k) = False := by apply eq_false; omega
theorem PostF.same {T : Tys} {F : SF} {rl : List ResultVar} {L : Nat} {v : PV} {e : Exit} {st : St} {p : Prop} (he : e = .normal ∨ e = .ret) (h : resVal T (Tx.look F st.H) st.t rl = some (p, v)) (hp : p) (hf : Tx.nf v = true) (ha : UpdAll L [] st.H) : PostF T F rl L v [] e st :=
 .of he h hp (wk_refl _ v).1 (by intro n hn; rw [(wk_refl F v).2] at hn; cases hn) hf trivial ha
def zrs (n : Nat) : List Int := List.replicate n 0
theorem ints_ok {F : SF} {L nx : Nat} (xs ys : List Int) (hx : xs.length ≤ 1000000) (hy : ys.length ≤ 1000000) :
  Con Try.prog 14 [.fs 1 (xs.map eI), .fs 1 (ys.map eI)] F L nx nx (.bool (xs == ys)) [] [] := by
 refine bdy Try.f14 ?_
 intro F3 hF1 hF2
 simp only [Try.f14, cx, go_sem, meths]
 simp only [List.length_map]
 refine brB.mk (fun hne => ?_) (fun heq => ?_)
 ·refine .bool (.inr rfl) rfl ?_ trivial
  symm
  simp only [beq_eq_false_iff_ne]
  rintro rfl
  simp at hne
 ·have hl : xs.length = ys.length := by have := heq; simp at this; omega
  refine loopK.intro _ _ (I := fun i : Nat => ⟨[some (.fs 1 (xs.map eI)), some (.fs 1 (ys.map eI)), none, none, none, some (.int .i64 i), none, none, none, none, none, none, none, none, none, none, none, none, none, none, none, none, none, none, none, none], [], 1000 * (i + 1)⟩) (pre := fun i => i ≤ xs.length ∧ ∀ j, j < i → xs.getD j 0 = ys.getD j 0) (μ := fun i => xs.length - i) 0 ⟨by omega, by intro j h; omega⟩ ?_ ?_
  ·exact Sub.of (hfz hF2) (by simp only [go_sem, subT, and_self, Int.natCast_zero]) trivial trivial (by simp)
  ·rintro i ⟨hi, hp⟩
   by_cases hlt : i < xs.length
   ·have f1 : decide ((i : Int) < (xs.length : Int)) = true := dT (by omega)
    have r0 := getD_eI xs hlt
    have r1 := getD_eI ys (show i < ys.length by omega)
    have i1 : Go.Sx.inI64 ((i : Int) + 1) := ⟨by omega, by omega⟩
    simp only [f1, r0, r1, eI, List.length_map, go_sem]
    refine ⟨by kernel_rfl, ⟨by omega, by omega⟩, hlt, ⟨by omega, by omega⟩, by omega, okDyn_num (·.i) (by kernel_rfl), brB.mk (fun hne => ?_) (fun heq => ⟨i1, i + 1, ⟨by omega, fun j hj => ?_⟩, by omega, ?_⟩)⟩
    ·refine .bool (.inr rfl) rfl ?_ trivial
     symm
     simp only [beq_eq_false_iff_ne]
     rintro rfl
     simp at hne
    ·rcases Nat.lt_or_ge j i with h | h
     ·exact hp j h
     ·have : j = i := by omega
      subst this
      simpa using heq
    ·exact Sub.of (hfz hF2) (by simp only [go_sem, subT, and_self, Int.natCast_succ]) trivial trivial (by simp; omega)
   ·have f1 : decide ((i : Int) < (xs.length : Int)) = false := dF (by omega)
    simp only [f1, List.length_map, go_sem]
    refine .bool (.inr rfl) rfl ?_ trivial
    symm
    simp only [beq_iff_eq]
    apply List.ext_getElem hl
    intro k h1 h2
    have := hp k (by omega)
    simpa [List.getD_eq_getElem?_getD, h1, h2] using this
theorem set_eI (xs : List Int) (k : Nat) (v : Int) : (xs.map eI).set k [.int .i64 v] = (xs.set k v).map eI := by simp [List.map_set, eI]
theorem kp_out {L nx : Nat} {news : List Nat} {n : Nm} (h : n.l < L ∨ n.i < nx ∨ news = []) : kp L nx news n = n := by
 unfold kp
 rw [if_neg]
 rintro ⟨h1, h2, h3⟩
 rcases h with h | h | h
 ·omega
 ·omega
 ·subst h; simp at h3; omega
theorem kp_nil {L nx : Nat} {n : Nm} : kp L nx [] n = n := kp_out (.inr (.inr rfl))
theorem sg_out {L nx : Nat} {news : List Nat} {n : Nm} (h : n.l ≤ L) : sg L nx news n = n := by unfold sg; rw [if_neg (by omega)]
theorem noEscape_ok {F : SF} {L nx : Nat} (n : Nm) (r c : Nat) : Con Try.prog 102 [.ptr n r c] F L nx nx (.ptr n r c) [] [] := by
 refine ⟨Nat.le_refl _, fun F2 h2 E w args' hR hf hd hv => ?_⟩
 simp only [VRl] at hv
 obtain ⟨v, t, rfl, h1, rfl⟩ := hv
 have hr : (callFunc 102 [v].toArray).run Try.prog w = .ok (.value v) w := by rfl
 rw [hr]
 exact ⟨E, h1, StepR.refl hR, fun n a b => absurd a b⟩
theorem copyCheck0_ok {F : SF} {L nx : Nat} (n : Nm) (e : TypeId) (he : e = 181 ∨ e = 147) (p : Bool) (hn : n.l ≤ L) (hF : F n = some (.rows e 2 true p [[.nilP, .nilS]])) :
  Con Try.prog 100 [.ptr n 0 0] F L nx nx (.tup []) [(n, .rows e 2 true false [[.ptr n 0 0, .nilS]])] [n] := by
 show Con Try.prog 100 _ F L nx (nx + 0) _ _ _
 refine bdyN Try.f100 (hrd := (by simp [hn])) ?_
 intro F3 hF1 hF2
 have hFn := (hF1 n (by simp)).trans hF
 rcases he with rfl | rfl
 all_goals
  simp only [Try.f100, cx, hFn, Nat.add_zero, go_sem, meths]
  refine CallVC.same (noEscape_ok n 0 0) ?_
  simp only [hFn, Nat.add_zero, go_sem]
  refine .now (PostN.val [] (.inl rfl) List.nodup_nil (p := True) (v0 := .tup []) rfl trivial (by trivial) rfl ⟨hn, ?_, trivial⟩ (by simp [UpdAll, keys]))
  rw [kp_nil]
  exact .ren (by simp [Tx.look]; rfl) (by simp [rowsNm, nmA, nmAL, Dn, hn]) (by simp [Tx.rn, Tx.rnL, sg_out hn])
theorem copyCheck1_ok {F : SF} {L nx : Nat} (n : Nm) (e : TypeId) (he : e = 181 ∨ e = 147) (buf : PV) (hn : n.l ≤ L) (hF : F n = some (.rows e 2 true false [[.ptr n 0 0, buf]])) :
  Con Try.prog 100 [.ptr n 0 0] F L nx nx (.tup []) [] [n] := by
 show Con Try.prog 100 _ F L nx (nx + 0) _ _ _
 refine bdyN Try.f100 (hrd := (by simp [hn])) ?_
 intro F3 hF1 hF2
 have hFn := (hF1 n (by simp)).trans hF
 rcases he with rfl | rfl
 all_goals
  simp only [Try.f100, cx, hFn, Nat.add_zero, go_sem, meths]
  exact .now (PostN.val [] (.inl rfl) List.nodup_nil (p := True) (v0 := .tup []) rfl trivial (by trivial) rfl trivial (by simp [UpdAll]))
def bldF (F : SF) (n : Nm) (e : TypeId) (b : Option Nm) (t : List UInt8) : Prop :=
 match b with
 | none => t = [] ∧ ∃ p, F n = some (.rows e 2 true p [[.nilP, .nilS]])
 | some m => t ≠ [] ∧ F n = some (.rows e 2 true false [[.ptr n 0 0, .sl m 0 t.length]]) ∧ F m = some (.rows 5 1 true true (t.map rowB)) ∧ m ≠ n
def bldU (n : Nm) (e : TypeId) (m : Nm) (t : List UInt8) : List (Nm × SBlk) :=
 [(n, .rows e 2 true false [[.ptr n 0 0, .sl m 0 t.length]]), (m, .rows 5 1 true true (t.map rowB))]
theorem writeString0_ok {F : SF} {L nx : Nat} (n : Nm) (e : TypeId) (he : e = 181 ∨ e = 147) (hn : n.l < L ∨ (n.l = L ∧ n.i < nx)) (s : List UInt8) (hs : s ≠ []) (hsl : s.length ≤ 1000000) (hb : bldF F n e none []) :
  Con Try.prog 75 [.ptr n 0 0, .str s] F L nx (nx + 1) (.tup [.int .i64 s.length, .nilI]) (bldU n e ⟨L, nx⟩ s) [n] := by
 refine bdyN Try.f75 (hrd := (by simp; omega)) ?_
 intro F3 hF1 hF2
 obtain ⟨_, p, hbp⟩ := hb
 have hFn := (hF1 n (by simp)).trans hbp
 have n1 : ∀ k, (n = (⟨L + 1, k⟩ : Nm)) = False := nm_out (by omega)
 have n2 : ∀ k, ((⟨L + 1, k⟩ : Nm) = n) = False := nm_out' (by omega)
 simp only [Try.f75, cx, go_sem, meths]
 refine CallVC.same (copyCheck0_ok n e he p (by omega) (by simp [hFn])) ?_
 simp only [hFn, n1, n2, go_sem]
 have e1 : List.map (fun b : UInt8 => [PV.int .u8 b.toNat]) s = s.map rowB := rfl
 rw [e1, List.length_map]
 refine ⟨⟨by omega, by omega⟩, ?_⟩
 refine .now (PostN.val [288] (.inr rfl) (by simp) (p := True) (v0 := .tup [.int .i64 s.length, .nilI]) ?_ trivial ?_ ?_ ⟨by omega, ?_, Nat.le_refl _, ?_, trivial⟩ ?_)
 ·simp only [resVal, resVals, resVal1, one, go_sem]
 ·simp [nmA, nmAL]
 ·simp [Tx.rn, Tx.rnL]
 ·rw [kp_out (hn.imp id fun h => .inl h.2)]
  exact .ren (by simp [Tx.look]; rfl) (by simp [rowsNm, nmA, nmAL, Dn]; omega) (by simp [Tx.rn, Tx.rnL, sg_out (show n.l ≤ L by omega)]; simp [sg])
 ·rw [kp_at0 (by simp)]
  exact .pure (by simp [Tx.look, n2])
 ·simp [UpdAll, keys, bldU]
theorem writeString1_ok {F : SF} {L nx : Nat} (n : Nm) (e : TypeId) (he : e = 181 ∨ e = 147) (hn : n.l < L ∨ (n.l = L ∧ n.i < nx)) (m : Nm) (hm : m.l < L ∨ (m.l = L ∧ m.i < nx)) (t s : List UInt8) (hs : s ≠ []) (hsl : t.length + s.length ≤ 1000000) (hb : bldF F n e (some m) t) :
  Con Try.prog 75 [.ptr n 0 0, .str s] F L nx (nx + 1) (.tup [.int .i64 s.length, .nilI]) ((m, .dead) :: bldU n e ⟨L, nx⟩ (t ++ s)) [n, m] := by
 refine bdyN Try.f75 (hrd := (by simp; omega)) ?_
 intro F3 hF1 hF2
 obtain ⟨ht, hb1, hb2, hmn⟩ := hb
 have hFn := (hF1 n (by simp)).trans hb1
 have hFm := (hF1 m (by simp)).trans hb2
 have n1 : ∀ k, (n = (⟨L + 1, k⟩ : Nm)) = False := nm_out (by omega)
 have n2 : ∀ k, ((⟨L + 1, k⟩ : Nm) = n) = False := nm_out' (by omega)
 have n3 : ∀ k, (m = (⟨L + 1, k⟩ : Nm)) = False := nm_out (by omega)
 have n4 : ∀ k, ((⟨L + 1, k⟩ : Nm) = m) = False := nm_out' (by omega)
 have n5 : (m = n) = False := by simp [hmn]
 have n6 : (n = m) = False := by simp [Ne.symm hmn]
 simp only [Try.f75, cx, go_sem, meths]
 refine CallVC.same (copyCheck1_ok n e he _ (by omega) (by simp [hFn]; rfl)) ?_
 simp only [hFn, hFm, n1, n4, n6, go_sem]
 have e1 : List.map (fun b : UInt8 => [PV.int .u8 b.toNat]) s = s.map rowB := rfl
 rw [e1]
 simp only [List.length_map]
 refine ⟨⟨trivial, by omega, by omega⟩, ?_⟩
 refine .now (PostN.val [288] (.inr rfl) (by simp) (p := True) (v0 := .tup [.int .i64 s.length, .nilI]) ?_ trivial ?_ ?_ ⟨by omega, ?_, by omega, ?_, Nat.le_refl _, ?_, trivial⟩ ?_)
 ·simp only [resVal, resVals, resVal1, one, go_sem]
 ·simp [nmA, nmAL]
 ·simp [Tx.rn, Tx.rnL]
 ·exact BN_dead
 ·rw [kp_out (hn.imp id fun h => .inl h.2)]
  exact .ren (by simp [Tx.look, n1, n6]; rfl) (by simp [rowsNm, nmA, nmAL, Dn]; omega) (by simp [Tx.rn, Tx.rnL, sg_out (show n.l ≤ L by omega)]; simp [sg])
 ·rw [kp_at0 (by simp)]
  exact .pure (by simp [Tx.look, n4])
 ·simp [UpdAll, keys, bldU]
theorem rowB_bytes (t : List UInt8) : bytesP (t.map rowB) = t := by
 simp only [bytesP, List.map_map]
 conv => rhs; rw [← List.map_id t]
 apply List.map_congr_left
 intro x _
 simp [byteP, rowB]
theorem bString_ok {F : SF} {L nx : Nat} (n : Nm) (e : TypeId) (hn : n.l < L ∨ (n.l = L ∧ n.i < nx)) (m : Nm) (hm : m.l ≤ L) (t : List UInt8) (hsl : t.length ≤ 1000000) (hb : bldF F n e (some m) t) :
  Con Try.prog 77 [.ptr n 0 0] F L nx nx (.str t) [(m, .rows 5 1 false true (t.map rowB))] [n, m] := by
 refine bdy Try.f77 (hrd := (by simp; omega)) ?_
 intro F3 hF1 hF2
 obtain ⟨ht, hb1, hb2, hmn⟩ := hb
 have hFn := (hF1 n (by simp)).trans hb1
 have hFm := (hF1 m (by simp)).trans hb2
 have hl : 0 < t.length := List.length_pos_iff.2 ht
 have n5 : (m = n) = False := by simp [hmn]
 have n6 : (n = m) = False := by simp [Ne.symm hmn]
 have e2 : (t.map rowB).take t.length = t.map rowB := List.take_of_length_le (by simp)
 simp only [Try.f77, cx, hFn, hFm, e2, rowB_bytes, List.length_map, go_sem, meths]
 refine ⟨by kernel_rfl, ⟨by omega, by omega⟩, ⟨by omega, by omega⟩, okDyn_num (fun x => if x = m then 1 else 0) (by simp only [numF, List.map, n6, if_true, if_false]; kernel_rfl), ?_⟩
 exact PostF.of (p := True) (v0 := .str t) (.inr rfl) (by simp only [resVal, resVals, resVal1, one, go_sem]) trivial (by simp only [Wk]) (by simp [wkN]) rfl ⟨hm, by simp [BW, Tx.look], trivial⟩ (by simp [UpdAll, keys])
def putB (n v : Nat) : List UInt8 := (List.range n).map fun i => UInt8.ofNat (v / 256 ^ (n - 1 - i) % 256)
theorem putB_len (n v : Nat) : (putB n v).length = n := by simp [putB]
def putR (n v i : Nat) : List (List PV) := (List.range n).map fun j => [.int .u8 (if j < i then (v / 256 ^ (n - 1 - j) % 256 : Nat) else 0)]
theorem shrN (v k : Nat) {b : Int} (hb : b = 8 * k) (hk : k ≤ 7) : (v : Int).fdiv (2 ^ min b.toNat 64) = ((v / 256 ^ k : Nat) : Int) := by
 rw [shr_eq (v : Int) (by omega) (by omega)]
 have : b.toNat = 8 * k := by omega
 rw [this, Int.pow_mul]
 simp
theorem putR_set (n v i : Nat) (h : i < n) : (putR n v i).set i (PV.int .u8 (IntKind.u8.wrap ((v / 256 ^ (n - 1 - i) : Nat) : Int)) :: List.drop 1 ((putR n v i).getD i [])) = putR n v (i + 1) := by
 have hg : List.drop 1 ((putR n v i).getD i []) = [] := by simp [putR, List.getD_eq_getElem?_getD, h]
 rw [hg]
 apply List.ext_getElem?
 intro k
 rw [List.getElem?_set]
 by_cases hk : i = k
 ·subst hk
  simp only [if_true, putR, List.length_map, List.length_range, h, List.getElem?_map, List.getElem?_range h, Option.map_some]
  have : i < i + 1 := by omega
  simp only [this, if_true, IntKind.wrap_u8]
  congr 3
 ·rw [if_neg hk]
  simp only [putR, List.getElem?_map]
  cases hr : (List.range n)[k]? with
  | none => rfl
  | some j =>
   have : j = k := by
    obtain ⟨h1, h2⟩ := List.getElem?_eq_some_iff.1 hr
    simpa using h2.symm
   subst this
   have e : (j < i) = (j < i + 1) := by apply propext; omega
   simp only [Option.map_some, e]
theorem putR_str (n v : Nat) : bytesP (putR n v n) = putB n v := by
 simp only [bytesP, putR, putB, List.map_map]
 apply List.map_congr_left
 intro j hj
 simp only [List.mem_range] at hj
 simp only [Function.comp, hj, if_true, byteP, Int.toNat_natCast]
theorem put_ok {F : SF} {L nx : Nat} (n v : Nat) (h1 : 1 ≤ n) (h2 : n ≤ 7) (hv : v < 256 ^ n) :
  Con Try.prog 125 [.int .i64 n, .int .i64 v] F L nx nx (.tup [.str (putB n v), .int .i64 0]) [] [] := by
 refine bdy Try.f125 ?_
 intro F3 hF1 hF2
 have f1 : decide ((n : Int) < 1) = false := dF (by omega)
 have f2 : decide ((7 : Int) < (n : Int)) = false := dF (by omega)
 have f3 : decide ((v : Int) < 0) = false := dF (by omega)
 have f4 : ((v : Int).fdiv (2 ^ min ((8 : Int) * (n : Int)).toNat 64) != 0) = false := by
  rw [shrN v n rfl h2, Nat.div_eq_of_lt hv]; rfl
 simp only [Try.f125, cx, f1, f2, f3, f4, go_sem, meths]
 repeat refine sd1 ?_
 refine loopK.intro _ _ (I := fun i : Nat => ⟨[some (.int .i64 n), some (.int .i64 v), none, none, none, none, some (.sl ⟨L + 1, 640⟩ 0 n), none, none, none, none, none, none, none, none, none, none, none, none, none, none, none, none, none, none, none, none, none, some (.int .i64 n), some (.int .i64 i), none, none, none, none, none, none, none, none, none, none, none, none, none, none, none, none],
  [(⟨L + 1, 640⟩, .rows 5 1 true true (putR n v i))], 1000 * (i + 1)⟩) (pre := fun i => i ≤ n) (μ := fun i => n - i) 0 (by omega) ?_ ?_
 ·refine Sub.of (hfz hF2) (by simp only [go_sem, subT, and_self, Int.natCast_zero]) ?_ (by simp only [go_sem, subK, and_self, true_or, or_true, List.not_mem_nil, List.mem_cons]) (by simp)
  simp [subH, Tx.look, putR, List.map_const']
 ·intro i hi
  have lr : (putR n v i).length = n := by simp [putR]
  by_cases hlt : i < n
  ·have f5 : decide ((i : Int) < (n : Int)) = true := dT (by omega)
   have f6 : (v : Int).fdiv (2 ^ min ((8 : Int) * ((n : Int) - 1 - (i : Int))).toNat 64) = ((v / 256 ^ (n - 1 - i) : Nat) : Int) := shrN v (n - 1 - i) (by omega) (by omega)
   simp only [f5, f6, lr, putR_set _ _ _ hlt, go_sem]
   repeat refine sd1 ?_
   refine ⟨i + 1, by omega, by omega, ?_⟩
   refine Sub.of (hfz hF2) (by simp only [go_sem, subT, and_self, Int.natCast_succ]) ?_ (by simp only [go_sem, subK, and_self, true_or, or_true, List.not_mem_nil, List.mem_cons]) (by simp; omega)
   simp [subH, Tx.look]
  ·have f5 : decide ((i : Int) < (n : Int)) = false := dF (by omega)
   have e : i = n := by omega
   subst e
   have e2 : List.take i (putR i v i) = putR i v i := List.take_of_length_le (by omega)
   simp only [f5, lr, e2, putR_str, go_sem]
   refine ⟨⟨by omega, fun row hr => ?_⟩, ?_⟩
   ·simp only [putR, List.mem_map] at hr
    obtain ⟨j, _, rfl⟩ := hr
    exact ⟨_, rfl⟩
   ·exact PostF.same (p := True) (.inr rfl) (by simp only [resVal, resVals, resVal1, one, go_sem]) trivial (by simp [Tx.nf, nfl]) (by simp [UpdAll])
def eN (v : Nat) : List PV := [.int .i64 v]
def bldD : Option Nm → List (Nm × SBlk)
 | none => []
 | some m => [(m, .dead)]
def bldR (n : Nm) : Option Nm → List Nm
 | none => [n]
 | some m => [n, m]
def bldL (L nx : Nat) : Option Nm → Prop
 | none => True
 | some m => m.l < L ∨ (m.l = L ∧ m.i < nx)
theorem writeString_ok {F : SF} {L nx : Nat} (n : Nm) (e : TypeId) (he : e = 181 ∨ e = 147) (hn : n.l < L ∨ (n.l = L ∧ n.i < nx)) (b : Option Nm) (hm : bldL L nx b) (t s : List UInt8) (hs : s ≠ []) (hsl : t.length + s.length ≤ 1000000) (hb : bldF F n e b t) :
  Con Try.prog 75 [.ptr n 0 0, .str s] F L nx (nx + 1) (.tup [.int .i64 s.length, .nilI]) (bldD b ++ bldU n e ⟨L, nx⟩ (t ++ s)) (bldR n b) := by
 cases b with
 | none =>
  have := hb.1
  subst this
  exact writeString0_ok n e he hn s hs (by simpa using hsl) hb
 | some m => exact writeString1_ok n e he hn m hm t s hs hsl hb
theorem flat_len (k : Nat) : ∀ l : List Nat, (l.flatMap (putB k)).length = l.length * k
 | [] => by simp
 | x :: l => by simp only [List.flatMap_cons, List.length_append, putB_len, List.length_cons, flat_len k l, Nat.succ_mul]; omega
theorem bput_ok {F : SF} {L nx : Nat} (n : Nm) (hn : n.l < L ∨ (n.l = L ∧ n.i < nx)) (b : Option Nm) (hm : bldL L nx b) (t : List UInt8) (k : Nat) (hk1 : 1 ≤ k) (hk2 : k ≤ 7) (vs : List Nat) (hv : ∀ v ∈ vs, v < 256 ^ k) (hv0 : vs ≠ []) (hvl : t.length + vs.length * 7 ≤ 1000000) (hb : bldF F n 181 b t) :
  Con Try.prog 124 [.ptr n 0 0, .int .i64 k, .fs 1 (vs.map eN)] F L nx (nx + 1) (.tup []) (bldD b ++ bldU n 181 ⟨L, nx⟩ (t ++ vs.flatMap (putB k))) (bldR n b) := by
 refine bdyN Try.f124 (hrd := (by cases b <;> simp [bldR] <;> (try simp [bldL] at hm) <;> omega)) ?_
 intro F3 hF1 hF2
 simp only [Try.f124, cx, go_sem, meths]
 refine loopK.intro _ _ (I := fun i : Nat => ⟨[some (.ptr n 0 0), some (.int .i64 k), none, none, none, none, none, none, none, none, some (.fs 1 (vs.map eN)), some (.int .i64 vs.length), some (.int .i64 i), none, none, none, none, none, none, none, none, none, none, none, none, none, none, none],
  if i = 0 then [] else bldD b ++ bldU n 181 ⟨L + 1, 1000 * i + 480⟩ (t ++ (vs.take i).flatMap (putB k)), 1000 * (i + 1)⟩) (pre := fun i => i ≤ vs.length) (μ := fun i => vs.length - i) 0 (by omega) ?_ ?_
 ·exact Sub.of (hfz hF2) (by simp only [go_sem, subT, and_self, Int.natCast_zero, List.length_map]) (by simp [subH]) (by simp only [go_sem, subK]) (by simp)
 ·intro i hi
  by_cases hlt : i < vs.length
  ·have f1 : decide ((i : Int) < (vs.length : Int)) = true := dT (by omega)
   have r0 : (vs.map eN).getD i [] = [.int .i64 (vs.getD i 0 : Nat)] := by simp [hlt, List.getD_eq_getElem?_getD, eN]
   have hvi := hv (vs.getD i 0) (by rw [List.getD_eq_getElem?_getD, List.getElem?_eq_getElem hlt]; simp)
   have hpl : (putB k (vs.getD i 0)).length = k := putB_len _ _
   have hFb : bldF F3 n 181 b t := by
    cases b with
    | none => exact ⟨hb.1, hb.2.imp fun p h => (hF1 n (by simp [bldR])).trans h⟩
    | some m => exact ⟨hb.1, (hF1 n (by simp [bldR])).trans hb.2.1, (hF1 m (by simp [bldR])).trans hb.2.2.1, hb.2.2.2⟩
   have hmL : bldL (L + 1) 0 b := by
    cases b with
    | none => trivial
    | some m => simp only [bldL] at hm ⊢; omega
   have hne : putB k (vs.getD i 0) ≠ [] := by intro h; rw [h] at hpl; simp at hpl; omega
   have n1 : ∀ k, (n = (⟨L + 1, k⟩ : Nm)) = False := nm_out (by omega)
   have n2 : ∀ k, ((⟨L + 1, k⟩ : Nm) = n) = False := nm_out' (by omega)
   have htk : (vs.take i).flatMap (putB k) ++ putB k (vs.getD i 0) = (vs.take (i + 1)).flatMap (putB k) := by
    rw [List.take_add_one, List.flatMap_append, List.getD_eq_getElem?_getD, List.getElem?_eq_getElem hlt]; simp
   have hfl : ((vs.take i).flatMap (putB k)).length = i * k := by
    rw [flat_len, List.length_take, Nat.min_eq_left hi]
   have hik : i * k ≤ i * 7 := Nat.mul_le_mul_left _ hk2
   cases i with
   | zero =>
    simp only [f1, r0, List.length_map, Nat.add_zero, go_sem]
    repeat refine sd1 ?_
    refine CallVC.same (put_ok k (vs.getD 0 0) hk1 hk2 hvi) ?_
    simp only [Nat.add_zero, go_sem]
    refine CallVC.same (writeString_ok n 181 (.inl rfl) (by omega) b ?_ t (putB k (vs.getD 0 0)) hne (by omega) hFb) ?_
    ·cases b with
     | none => trivial
     | some m => exact .inl (by simp only [bldL] at hm; omega)
    simp only [go_sem]
    refine ⟨⟨by omega, by omega⟩, 1, by omega, by omega, ?_⟩
    rw [if_neg (by omega), ← htk]
    simp only [List.take_zero, List.flatMap_nil, List.nil_append]
    cases b with
    | none =>
     refine Sub.of (hfz hF2) (by simp only [go_sem, subT, and_self, Int.natCast_succ]) ?_ ?_ (by simp)
     ·simp [subH, Tx.look, bldD, bldU, updH, setH, n2]
     ·simp [subK, keys, bldD, bldU, updH, setH, n1, n2]
    | some m =>
     have hmn := hb.2.2.2
     have n3 : ∀ k, (m = (⟨L + 1, k⟩ : Nm)) = False := nm_out (by simp only [bldL] at hm; omega)
     have n4 : ∀ k, ((⟨L + 1, k⟩ : Nm) = m) = False := nm_out' (by simp only [bldL] at hm; omega)
     have n5 : (m = n) = False := by simp [hmn]
     have n6 : (n = m) = False := by simp [Ne.symm hmn]
     refine Sub.of (hfz hF2) (by simp only [go_sem, subT, and_self, Int.natCast_succ]) ?_ ?_ (by simp)
     ·simp [subH, Tx.look, bldD, bldU, updH, setH, n2, n4, n6]
     ·simp [subK, keys, bldD, bldU, updH, setH, n1, n2, n3, n4, n5, n6]
   | succ i =>
    simp only [f1, r0, List.length_map, go_sem]
    repeat refine sd1 ?_
    refine CallVC.same (put_ok k (vs.getD (i + 1) 0) hk1 hk2 hvi) ?_
    simp only [Nat.add_zero, go_sem]
    refine CallVC.same (writeString_ok n 181 (.inl rfl) (by omega) (some ⟨L + 1, 1000 * (i + 1) + 480⟩) ?_ (t ++ (vs.take (i + 1)).flatMap (putB k)) (putB k (vs.getD (i + 1) 0)) hne (by rw [List.length_append]; omega) ?_) ?_
    ·exact .inr ⟨rfl, by simp only []; omega⟩
    ·have hlen0 : t ++ (vs.take (i + 1)).flatMap (putB k) ≠ [] := by
      intro h
      have := congrArg List.length h
      rw [List.length_append, hfl] at this
      have : 1 * 1 ≤ (i + 1) * k := Nat.mul_le_mul (by omega) hk1
      simp at *; omega
     cases b with
     | none => exact ⟨hlen0, by simp [Tx.look, bldD, bldU], by simp [Tx.look, bldD, bldU, n2], by simp [n2]⟩
     | some m =>
      have hmn := hb.2.2.2
      have n3 : ∀ k, (m = (⟨L + 1, k⟩ : Nm)) = False := nm_out (by simp only [bldL] at hm; omega)
      have n4 : ∀ k, ((⟨L + 1, k⟩ : Nm) = m) = False := nm_out' (by simp only [bldL] at hm; omega)
      have n5 : (m = n) = False := by simp [hmn]
      have n6 : (n = m) = False := by simp [Ne.symm hmn]
      exact ⟨hlen0, by simp [Tx.look, bldD, bldU, n6], by simp [Tx.look, bldD, bldU, n2, n4], by simp [n2]⟩
    rw [show (1000 * (i + 1 + 1) + 32 + 32 + 32 + 32 + 32 + 32 + 32 + 32 + 32 + 32 + 32 + 32 + 32 + 32 + 32 : Nat) = 1000 * (i + 1 + 1) + 480 by omega]
    simp only [go_sem]
    refine ⟨⟨by omega, by omega⟩, i + 1 + 1, by omega, by omega, ?_⟩
    rw [if_neg (by omega), ← htk, ← List.append_assoc]
    have n7 : ((⟨L + 1, 1000 * (i + 1) + 480⟩ : Nm) = ⟨L + 1, 1000 * (i + 1 + 1) + 480⟩) = False := by simp; omega
    have n8 : ((⟨L + 1, 1000 * (i + 1 + 1) + 480⟩ : Nm) = ⟨L + 1, 1000 * (i + 1) + 480⟩) = False := by simp; omega
    cases b with
    | none =>
     refine Sub.of (hfz hF2) (by simp only [go_sem, subT, and_self, Int.natCast_succ]) ?_ ?_ (by simp only []; omega)
     ·simp only [subH, Tx.look, bldD, bldU, updH, setH, n1, n2, n8, List.cons_append, List.nil_append, if_true, if_false, and_self]
     ·simp [subK, keys, bldD, bldU, updH, setH, n1, n2, n7, n8]
    | some m =>
     have hmn := hb.2.2.2
     have n3 : ∀ k, (m = (⟨L + 1, k⟩ : Nm)) = False := nm_out (by simp only [bldL] at hm; omega)
     have n4 : ∀ k, ((⟨L + 1, k⟩ : Nm) = m) = False := nm_out' (by simp only [bldL] at hm; omega)
     have n5 : (m = n) = False := by simp [hmn]
     have n6 : (n = m) = False := by simp [Ne.symm hmn]
     refine Sub.of (hfz hF2) (by simp only [go_sem, subT, and_self, Int.natCast_succ]) ?_ ?_ (by simp only []; omega)
     ·simp only [subH, Tx.look, bldD, bldU, updH, setH, n1, n2, n3, n4, n5, n6, n8, List.cons_append, List.nil_append, if_true, if_false, and_self]
     ·simp [subK, keys, bldD, bldU, updH, setH, n1, n2, n3, n4, n5, n6, n7, n8]
  ·have f1 : decide ((i : Int) < (vs.length : Int)) = false := dF (by omega)
   have e : i = vs.length := by omega
   subst e
   have hi0 : vs.length ≠ 0 := by intro h; exact hv0 (List.eq_nil_of_length_eq_zero h)
   have n1 : ∀ k, (n = (⟨L + 1, k⟩ : Nm)) = False := nm_out (by omega)
   have n2 : ∀ k, ((⟨L + 1, k⟩ : Nm) = n) = False := nm_out' (by omega)
   simp only [f1, List.take_length, go_sem]
   rw [if_neg hi0]
   have hnd : [1000 * vs.length + 480].Nodup := by simp
   cases b with
   | none =>
    refine .now (PostN.val [1000 * vs.length + 480] (.inl rfl) hnd (p := True) (v0 := .tup []) rfl trivial (by trivial) rfl ⟨by omega, ?_, Nat.le_refl _, ?_, trivial⟩ (by simp [UpdAll, keys, bldD, bldU]))
    ·rw [kp_out (hn.imp id fun h => .inl h.2)]
     exact .ren (by simp [Tx.look, bldU, bldD]; rfl) (by simp [rowsNm, nmA, nmAL, Dn]; omega) (by simp [Tx.rn, Tx.rnL, sg_out (show n.l ≤ L by omega)]; simp [sg])
    ·rw [kp_at0 (by simp)]
     exact .pure (by simp [Tx.look, bldU, bldD, n2])
   | some m =>
    have hmn := hb.2.2.2
    have n3 : ∀ k, (m = (⟨L + 1, k⟩ : Nm)) = False := nm_out (by simp only [bldL] at hm; omega)
    have n4 : ∀ k, ((⟨L + 1, k⟩ : Nm) = m) = False := nm_out' (by simp only [bldL] at hm; omega)
    have n6 : (n = m) = False := by simp [Ne.symm hmn]
    refine .now (PostN.val [1000 * vs.length + 480] (.inl rfl) hnd (p := True) (v0 := .tup []) rfl trivial (by trivial) rfl ⟨by simp only [bldL] at hm; omega, BN_dead, by omega, ?_, Nat.le_refl _, ?_, trivial⟩ (by simp [UpdAll, keys, bldD, bldU]))
    ·rw [kp_out (hn.imp id fun h => .inl h.2)]
     exact .ren (by simp [Tx.look, bldU, bldD, n6]; rfl) (by simp [rowsNm, nmA, nmAL, Dn]; omega) (by simp [Tx.rn, Tx.rnL, sg_out (show n.l ≤ L by omega)]; simp [sg])
    ·rw [kp_at0 (by simp)]
     exact .pure (by simp [Tx.look, bldU, bldD, n2, n4])
theorem small_ok {F : SF} {L nx : Nat} (b : Int) (xs : List Int) (h0 : 0 ≤ b) (h1 : b ≤ 32) (hlen : xs.length ≤ 1000000) : Con Try.prog 123 [.int .i64 b, .fs 1 (xs.map eI)] F L nx nx (.bool (xs.all (serB b))) [] [] := by
 refine bdy Try.f123 ?_
 intro F3 hF1 hF2
 simp only [Try.f123, cx, go_sem, meths]
 refine loopK.intro _ _ (I := fun i : Nat => ⟨[some (.int .i64 b), none, none, none, none, none, none, some (.fs 1 (xs.map eI)), some (.int .i64 xs.length), some (.int .i64 i), none, none, none, none, none, none, none, none, none, none, none, none], [], 1000 * (i + 1)⟩) (pre := fun i => i ≤ xs.length ∧ ∀ j, j < i → serB b (xs.getD j 0) = true) (μ := fun i => xs.length - i) 0 ⟨by omega, by intro j h; omega⟩ ?_ ?_
 ·exact Sub.of (hfz hF2) (by simp only [go_sem, subT, and_self, List.length_map, Int.natCast_zero]) trivial trivial (by simp)
 ·rintro i ⟨hi, hp⟩
  have hpw : (1 : Int) ≤ 2 ^ b.toNat := (pow_le h0 h1).2
  by_cases hlt : i < xs.length
  ·have f1 : decide ((i : Int) < (xs.length : Int)) = true := dT (by omega)
   have r0 := getD_eI xs hlt
   have bad : serB b (xs.getD i 0) = false → xs.all (serB b) = false := by
    intro h
    rw [List.all_eq_false]
    exact ⟨xs.getD i 0, by rw [List.getD_eq_getElem?_getD, List.getElem?_eq_getElem hlt]; simp, by rw [h]; decide⟩
   rcases Int.lt_or_le (xs.getD i 0) 0 with hn | hn
   ·have f2 : decide (xs.getD i 0 < 0) = true := dT hn
    simp only [f1, f2, r0, eI, List.length_map, go_sem]
    repeat refine sd1 ?_
    exact .bool (.inr rfl) rfl (bad (by unfold serB; rw [dF (show ¬ 0 ≤ xs.getD i 0 by omega)]; rfl)).symm trivial
   ·have f2 : decide (xs.getD i 0 < 0) = false := dF (by omega)
    rcases Int.lt_or_le (xs.getD i 0) (2 ^ b.toNat) with hb | hb
    ·have f3 := neF (shr0 h0 (by omega) hn hb)
     simp only [f1, f2, f3, r0, eI, List.length_map, go_sem]
     repeat refine sd1 ?_
     refine ⟨i + 1, ⟨by omega, fun j hj => ?_⟩, by omega, ?_⟩
     ·rcases Nat.lt_or_ge j i with h | h
      ·exact hp j h
      ·have : j = i := by omega
       subst this
       unfold serB; rw [dT hn, dT hb]; rfl
     ·exact Sub.of (hfz hF2) (by simp only [go_sem, subT, and_self, Int.natCast_succ]) trivial trivial (by simp; omega)
    ·have f3 : ((xs.getD i 0).fdiv (2 ^ min b.toNat 64) != 0) = true := neT (by
      rw [shr_eq _ h0 (by omega)]
      have := Int.le_ediv_of_mul_le (show (0 : Int) < 2 ^ b.toNat by omega) (show 1 * 2 ^ b.toNat ≤ xs.getD i 0 by omega)
      omega)
     simp only [f1, f2, f3, r0, eI, List.length_map, go_sem]
     repeat refine sd1 ?_
     exact .bool (.inr rfl) rfl (bad (by unfold serB; rw [dF (show ¬ xs.getD i 0 < 2 ^ b.toNat by omega)]; simp)).symm trivial
  ·have f1 : decide ((i : Int) < (xs.length : Int)) = false := dF (by omega)
   simp only [f1, go_sem]
   refine .bool (.inr rfl) rfl ?_ trivial
   symm
   rw [List.all_eq_true]
   intro x hx
   obtain ⟨j, hj, rfl⟩ := List.getElem_of_mem hx
   have := hp j (by omega)
   simpa [List.getD_eq_getElem?_getD, hj] using this
def rstP (kind num last res : Int) (streams : PV) : PV := .agg [.int .i64 kind, .int .i64 num, .int .i64 last, .int .i64 res, streams]
def incB (xs : List Int) : Bool := (List.range xs.length).all fun i => serB 16 (xs.getD i 0) && (i == 0 || decide (xs.getD (i - 1) 0 < xs.getD i 0))
def resetV (kind num last res : Int) (xs : List Int) : Bool :=
 incB xs && serB 32 num && serB 32 last && serB 8 res && (if kind = 2 then last == 0 && xs.isEmpty else kind == 1 && res == 0 && decide (1 ≤ xs.length) && decide (xs.length ≤ 30))
theorem resetValid_ok {F : SF} {L nx : Nat} (kind num last res : Int) (xs : List Int) (hlen : xs.length ≤ 1000000) :
  Con Try.prog 121 [rstP kind num last res (.fs 1 (xs.map eI))] F L nx nx (.bool (resetV kind num last res xs)) [] [] := by
 refine bdy Try.f121 ?_
 intro F3 hF1 hF2
 simp only [Try.f121, cx, rstP, Nat.add_zero, go_sem, meths]
 refine loopK.intro _ _ (I := fun i : Nat => ⟨[none, some (.ptr ⟨L + 1, 0⟩ 0 0), none, none, none, none, none, some (.fs 1 (xs.map eI)), some (.int .i64 xs.length), some (.int .i64 i), none, none, none, none, none, none, none, none, none, none, none, none, none, none, none, none, none, none, none, none, none, none, none, none, none, none, none, none, none, none, none, none, none, none, none, none, none, none, none, none, none, none, none, none, none, none, none, none, none, none, none, none, none, none, none, none, none, none, none, none, none, none, none, none, none, none, none, none, none, none, none, none, none, none, none, none, none, none, none, none], [(⟨L + 1, 0⟩, .rows 160 5 true true [[.int .i64 kind, .int .i64 num, .int .i64 last, .int .i64 res, .fs 1 (xs.map eI)]])], 10000 * (i + 1)⟩) (pre := fun i => i ≤ xs.length ∧ ∀ j, j < i → (serB 16 (xs.getD j 0) && (j == 0 || decide (xs.getD (j - 1) 0 < xs.getD j 0))) = true) (μ := fun i => xs.length - i) 0 ⟨by omega, by intro j h; omega⟩ ?_ ?_
 ·exact Sub.of (hfz hF2) (by simp only [go_sem, subT, and_self, List.length_map, Int.natCast_zero]) (by simp [subH, Tx.look]) (by simp only [go_sem, subK, and_self, true_or, or_true, List.not_mem_nil, List.mem_cons]) (by simp)
 ·rintro i ⟨hi, hp⟩
  by_cases hlt : i < xs.length
  ·have f1 : decide ((i : Int) < (xs.length : Int)) = true := dT (by omega)
   have r0 := getD_eI xs hlt
   have r1 := getD_eI xs (i := i - 1) (by omega)
   have e1 : ((i : Int) - 1).toNat = i - 1 := by omega
   have no : (serB 16 (xs.getD i 0) && (i == 0 || decide (xs.getD (i - 1) 0 < xs.getD i 0))) = false → resetV kind num last res xs = false := by
    intro h
    unfold resetV
    have : incB xs = false := by
     unfold incB
     rw [List.all_eq_false]
     exact ⟨i, by simpa using hlt, by rw [h]; decide⟩
    rw [this]; rfl
   have yes : (serB 16 (xs.getD i 0) && (i == 0 || decide (xs.getD (i - 1) 0 < xs.getD i 0))) = true → ∀ j, j < i + 1 → (serB 16 (xs.getD j 0) && (j == 0 || decide (xs.getD (j - 1) 0 < xs.getD j 0))) = true := by
    intro h j hj
    by_cases he : j = i
    ·subst he; exact h
    ·exact hp j (by omega)
   have go : ∀ j, (1 ≤ j → True) → True := fun _ _ => trivial
   cases hs : serB 16 (xs.getD i 0) with
   | false =>
    simp only [f1, r0, eI, List.length_map, go_sem]
    repeat refine sd1 ?_
    refine CallVC.pure (args2 := [_, .fs 1 ([xs.getD i 0].map eI)]) ⟨rfl, by simp [Wk, eI, nB], trivial⟩ (small_ok 16 [xs.getD i 0] (by omega) (by omega) (by simp)) rfl ?_
    simp only [hs, go_sem]
    exact .bool (.inr rfl) rfl (no (by rw [hs]; rfl)).symm (by simp [UpdAll])
   | true =>
    rcases Nat.eq_zero_or_pos i with h0 | h0
    ·have f2 : decide ((0 : Int) < (i : Int)) = false := dF (by omega)
     simp only [f1, r0, eI, List.length_map, go_sem]
     repeat refine sd1 ?_
     refine CallVC.pure (args2 := [_, .fs 1 ([xs.getD i 0].map eI)]) ⟨rfl, by simp [Wk, eI, nB], trivial⟩ (small_ok 16 [xs.getD i 0] (by omega) (by omega) (by simp)) rfl ?_
     simp only [hs, f2, go_sem]
     repeat refine sd1 ?_
     refine ⟨i + 1, ⟨by omega, yes (by rw [hs, h0]; rfl)⟩, by omega, ?_⟩
     exact Sub.of (hfz hF2) (by simp only [go_sem, subT, and_self, Int.natCast_succ]) (by simp [subH, Tx.look]) (by simp only [go_sem, subK, and_self, true_or, or_true, List.not_mem_nil, List.mem_cons]) (by simp only []; omega)
    ·have f2 : decide ((0 : Int) < (i : Int)) = true := dT (by omega)
     have hq : (i == 0) = false := by simp; omega
     rcases Int.lt_or_le (xs.getD (i - 1) 0) (xs.getD i 0) with hc | hc
     ·have f3 : decide (xs.getD i 0 ≤ xs.getD (i - 1) 0) = false := dF (by omega)
      simp only [f1, r0, eI, List.length_map, go_sem]
      repeat refine sd1 ?_
      refine CallVC.pure (args2 := [_, .fs 1 ([xs.getD i 0].map eI)]) ⟨rfl, by simp [Wk, eI, nB], trivial⟩ (small_ok 16 [xs.getD i 0] (by omega) (by omega) (by simp)) rfl ?_
      simp only [hs, f2, f3, r1, e1, eI, List.length_map, Nat.add_zero, go_sem]
      repeat refine sd1 ?_
      refine ⟨i + 1, ⟨by omega, yes (by rw [hs, hq, dT hc]; rfl)⟩, by omega, ?_⟩
      exact Sub.of (hfz hF2) (by simp only [go_sem, subT, and_self, Int.natCast_succ]) (by simp [subH, Tx.look]) (by simp only [go_sem, subK, and_self, true_or, or_true, List.not_mem_nil, List.mem_cons]) (by simp only []; omega)
     ·have f3 : decide (xs.getD i 0 ≤ xs.getD (i - 1) 0) = true := dT hc
      simp only [f1, r0, eI, List.length_map, go_sem]
      repeat refine sd1 ?_
      refine CallVC.pure (args2 := [_, .fs 1 ([xs.getD i 0].map eI)]) ⟨rfl, by simp [Wk, eI, nB], trivial⟩ (small_ok 16 [xs.getD i 0] (by omega) (by omega) (by simp)) rfl ?_
      simp only [hs, f2, f3, r1, e1, eI, List.length_map, Nat.add_zero, go_sem]
      repeat refine sd1 ?_
      exact .bool (.inr rfl) rfl (no (by rw [hs, hq, dF (show ¬ xs.getD (i - 1) 0 < xs.getD i 0 by omega)]; rfl)).symm (by simp [UpdAll])
  ·have f1 : decide ((i : Int) < (xs.length : Int)) = false := dF (by omega)
   have hinc : incB xs = true := by
    unfold incB
    rw [List.all_eq_true]
    intro j hj
    exact hp j (by simp at hj; omega)
   have hl0 : ((xs.length : Int) == 0) = xs.isEmpty := by cases xs <;> simp; omega
   have hl1 : decide ((xs.length : Int) ≥ 1) = decide (1 ≤ xs.length) := by simp; omega
   have hl1' : decide ((1 : Int) ≤ (xs.length : Int)) = decide (1 ≤ xs.length) := by simp; omega
   have hl30 : decide ((xs.length : Int) ≤ 30) = decide (xs.length ≤ 30) := by simp; omega
   have hV : resetV kind num last res xs = ((serB 32 num && serB 32 last) && (serB 8 res && (if (kind == 2) = true then last == 0 && xs.isEmpty else kind == 1 && res == 0 && decide (1 ≤ xs.length) && decide (xs.length ≤ 30)))) := by
    unfold resetV
    rw [hinc]
    simp [Bool.and_assoc]
   rw [hV]
   simp only [f1, Nat.add_zero, go_sem]
   refine CallVC.pure (args2 := [_, .fs 1 ([num, last].map eI)]) ⟨rfl, by simp [Wk, eI, nB], trivial⟩ (small_ok 32 [num, last] (by omega) (by omega) (by simp)) rfl ?_
   cases h32 : (serB 32 num && serB 32 last) with
   | false =>
    simp only [h32, go_sem]
    exact .bool (.inr rfl) rfl rfl (by simp [UpdAll])
   | true =>
    simp only [h32, Nat.add_zero, go_sem]
    refine CallVC.pure (args2 := [_, .fs 1 ([res].map eI)]) ⟨rfl, by simp [Wk, eI, nB, Tx.look, Nat.add_assoc], trivial⟩ (small_ok 8 [res] (by omega) (by omega) (by simp)) rfl ?_
    cases h8 : serB 8 res with
    | false =>
     simp only [h8, go_sem]
     exact .bool (.inr rfl) rfl rfl (by simp [UpdAll])
    | true =>
     cases hk : (kind == 2) with
     | true =>
      cases hla : (last == 0) with
      | true =>
       simp only [h8, hk, hla, hl0, List.length_map, Nat.add_zero, go_sem]
       exact .bool (.inr rfl) rfl rfl (by simp [UpdAll])
      | false =>
       simp only [h8, hk, hla, Nat.add_zero, go_sem]
       exact .bool (.inr rfl) rfl rfl (by simp [UpdAll])
     | false =>
      cases hk1 : (kind == 1) with
      | false =>
       simp only [h8, hk, hk1, Nat.add_zero, go_sem]
       exact .bool (.inr rfl) rfl rfl (by simp [UpdAll])
      | true =>
       cases hr : (res == 0) with
       | false =>
        simp only [h8, hk, hk1, hr, Nat.add_zero, go_sem]
        exact .bool (.inr rfl) rfl rfl (by simp [UpdAll])
       | true =>
        cases ho : decide (1 ≤ xs.length) with
        | false =>
         simp only [h8, hk, hk1, hr, hl1, ho, List.length_map, Nat.add_zero, go_sem]
         exact .bool (.inr rfl) rfl rfl (by simp [UpdAll])
        | true =>
         simp only [h8, hk, hk1, hr, hl1, ho, hl30, List.length_map, Nat.add_zero, go_sem]
         exact .bool (.inr rfl) rfl rfl (by simp [UpdAll])
end Go.Proofs.Ytfhhbkehlfipgaa
end
