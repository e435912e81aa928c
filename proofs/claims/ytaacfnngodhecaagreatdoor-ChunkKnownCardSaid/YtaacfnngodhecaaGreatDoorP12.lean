/- Lemmas for the walk: WK3, WC13, WK4, WC14, WC15. -/
import Derived.Test.YtaacfnngodhecaaGreatDoorP11
set_option linter.all false
section
namespace Go.Proofs.YtaacfnngodhecaaGreatDoor
open Go.Tx
set_option maxRecDepth 100000
set_option maxHeartbeats 16000000
def getB (l : List UInt8) : Nat := l.foldl (fun v c => v * 256 + c.toNat) 0
theorem or_nat {a b : Nat} (ha : a < 2 ^ 63) (hb : b < 2 ^ 63) : Sx.ibits .or .i64 (a : Int) (b : Int) = ((a ||| b : Nat) : Int) := by
 show IntKind.i64.wrap ((BitVec.ofInt 64 (a : Int) ||| BitVec.ofInt 64 (b : Int)).toNat : Int) = _
 rw [BitVec.ofInt_natCast, BitVec.ofInt_natCast, BitVec.toNat_or, BitVec.toNat_ofNat, BitVec.toNat_ofNat, Nat.mod_eq_of_lt (by omega), Nat.mod_eq_of_lt (by omega)]
 have := Nat.or_lt_two_pow ha hb
 apply Sx.wrap_i64
 simp only [Sx.inI64]; omega
theorem getB_lt (l : List UInt8) : getB l < 256 ^ l.length := by
 have : ∀ (l : List UInt8) (a k : Nat), a < 256 ^ k → l.foldl (fun v c => v * 256 + c.toNat) a < 256 ^ (k + l.length) := by
  intro l
  induction l with
  | nil => intro a k h; simpa using h
  | cons c l ih =>
   intro a k h
   have hc := c.toNat_lt
   have := ih (a * 256 + c.toNat) (k + 1) (by rw [Nat.pow_succ]; omega)
   simpa [Nat.add_assoc, Nat.add_comm 1] using this
 simpa [getB] using this l 0 0 (by simp)
theorem getB_succ (s : List UInt8) {i : Nat} (h : i < s.length) : getB (s.take (i + 1)) = getB (s.take i) * 256 + (s.getD i 0).toNat := by
 rw [List.take_add_one, getB, List.foldl_append, List.getD_eq_getElem?_getD, List.getElem?_eq_getElem h]
 rfl
theorem shl8_or {a : Nat} (ha : a < 256 ^ 6) (c : UInt8) : Sx.ibits .or .i64 (IntKind.i64.wrap ((a : Int) * 2 ^ min 8 64)) (c.toNat : Int) = ((a * 256 + c.toNat : Nat) : Int) := by
 have hc := c.toNat_lt
 have e1 : IntKind.i64.wrap ((a : Int) * 2 ^ min 8 64) = ((a * 256 : Nat) : Int) := by
  rw [Sx.wrap_i64]
  ·simp
  ·simp only [Sx.inI64]; simp; omega
 rw [e1, or_nat (by omega) (by omega)]
 congr 1
 have := Nat.shiftLeft_add_eq_or_of_lt (i := 8) (b := c.toNat) (by omega) a
 rw [Nat.shiftLeft_eq] at this
 exact this.symm
def rdP (s : List UInt8) (p : Int) : PV := .agg [.str s, .int .i64 p]
theorem oRead_ok {F : SF} {L nx : Nat} (s : List UInt8) (p : Int) (h0 : 0 ≤ p) (hp : p ≤ s.length) : Con Tryz.prog 164 [rdP s p] F L nx nx (.tup [rdP s p, .int .i64 0]) [] [] := by
 refine bdy Tryz.f164 ?_
 intro F3 hF1 hF2
 have f1 : decide (p < 0) = false := dF (by omega)
 have f2 : decide (p > (s.length : Int)) = false := dF (by omega)
 simp only [Tryz.f164, cx, rdP, f1, f2, Nat.add_zero, go_sem, meths]
 exact PostF.rs (v0 := .tup [.agg [.str s, .int .i64 p], .int .i64 0]) (.inr rfl)
theorem oTake1_ok {F : SF} {L nx : Nat} (s : List UInt8) : Con Tryz.prog 144 [.str s] F L nx nx (.str s) [] [] := by
 refine bdy Tryz.f144 ?_
 intro F3 hF1 hF2
 simp only [Tryz.f144, cx, go_sem, meths]
 exact PostF.rs (v0 := .str s) (.inr rfl)
theorem must_ok {F : SF} {L nx : Nat} : Con Tryz.prog 75 [.bool true] F L nx nx (.tup []) [] [] := by
 refine bdy Tryz.f75 ?_
 intro F3 hF1 hF2
 simp only [Tryz.f75, cx, go_sem, meths]
 exact PostF.of (p := True) (v0 := .tup []) (.inl rfl) (by simp only [resVal, resVals, one, go_sem]) trivial (by simp [Wk, WkL]) (by simp [wkN, wkNL]) (by simp [Tx.nf, nfl]) trivial (by simp [UpdAll])
theorem must_die {F : SF} {L : Nat} : DCon Tryz.prog chM 75 [.bool false] F L [] [] := by
 refine DCon.body (cxOk (L + 1)) rfl rfl (fn := Tryz.f75) (c := Tryz.f75.body.getD .skip) (by kernel_rfl) (by rfl) (by kernel_rfl) rfl (by simp) ?_
 intro F3 hF1 hF2
 simp only [Tryz.f75, cx, go_sem, meths]
 apply panicK.intro (ty := 192)
 ·rfl
 ·rfl
 ·rfl
 ·exact .dead (ns := []) (by simp) (by simp [UpdAll])
theorem oUint1_ok {F : SF} {L nx : Nat} (s : List UInt8) (hs : s.length ≤ 7) : Con Tryz.prog 142 [.str s] F L nx nx (.int .i64 (getB s)) [] [] := by
 refine bdy Tryz.f142 ?_
 intro F3 hF1 hF2
 have e1 : List.map (fun b : UInt8 => [PV.int .u8 b.toNat]) s = s.map rowB := rfl
 simp only [Tryz.f142, cx, go_sem, meths]
 refine ⟨by omega, ?_⟩
 refine loopK.intro _ _ (I := fun i : Nat => ⟨[none, none, none, some (.int .i64 (getB (s.take i))), none, none, none, some (.sl ⟨L + 1, 96⟩ 0 s.length), some (.int .i64 s.length), some (.int .i64 i)] ++ oz 10, [(⟨L + 1, 96⟩, .rows 5 1 true true (s.map rowB))], 1000 * (i + 1)⟩) (pre := fun i => i ≤ s.length) (μ := fun i => s.length - i) 0 (by omega) ?_ ?_
 ·exact Sub.of (hfz hF2) (by simp [subT, getB]) (by simp [subH, Tx.look]) (by simp [subK, keys]) (by simp)
 ·intro i hi
  by_cases hlt : i < s.length
  ·have f1 : decide ((i : Int) < (s.length : Int)) = true := dT (by omega)
   have r0 : (s.map rowB).getD i [] = rowB (s.getD i 0) := by simp [hlt, List.getD_eq_getElem?_getD]
   simp only [f1, r0, rowB, List.length_map, go_sem]
   have hci := (s.getD i 0).toNat_lt
   have hg : getB (s.take i) < 256 ^ 6 := Nat.lt_of_lt_of_le (getB_lt _) (Nat.pow_le_pow_right (by omega) (by simp; omega))
   have e3 : Sx.ibits .or .i64 (IntKind.i64.wrap ((getB (s.take i) : Nat) * 2 ^ min 8 64)) ((s.getD i 0).toNat : Int) = ((getB (s.take (i + 1)) : Nat) : Int) := by
    rw [shl8_or hg, getB_succ s hlt]
   repeat refine sd1 ?_
   rw [e3]
   exact ⟨i + 1, by omega, by omega, Sub.of (hfz hF2) (by simp [subT]) (by simp [subH, Tx.look]) (by simp [subK, keys]) (by simp; omega)⟩
  ·have f1 : decide ((i : Int) < (s.length : Int)) = false := dF (by omega)
   have e2 : s.take i = s := List.take_of_length_le (by omega)
   simp only [f1, e2, go_sem]
   exact PostF.rs (v0 := .int .i64 (getB s)) (.inr rfl)
theorem oNextStr_ok {F : SF} {L nx : Nat} (s : List UInt8) (p n m : Int) (h0 : 0 ≤ p) (hn : 0 ≤ n) (hm : n ≤ m) (hp : p + n ≤ s.length) (hl : s.length ≤ 1000000) : Con Tryz.prog 143 [rdP s p, .int .i64 n, .int .i64 0, .int .i64 m, .fn (.func 144) [] []] F L nx nx (.tup [.str ((s.drop p.toNat).take n.toNat), rdP s (p + n), .int .i64 0]) [] [] := by
 refine bdy Tryz.f143 ?_
 intro F3 hF1 hF2
 have f1 : decide (n < 0) = false := dF (by omega)
 have f2 : decide (n > m) = false := dF (by omega)
 have f3 : decide ((s.length : Int) - p < n) = false := dF (by omega)
 have e1 : (p + n).toNat - p.toNat = n.toNat := by omega
 simp only [Tryz.f143, cx, rdP, go_sem, meths]
 refine CallVC.pure (args2 := [rdP s p]) (by simp [Wk, WkL, rdP]) (oRead_ok s p h0 (by omega)) (by simp [plainP, plainPL, rdP]) ?_
 simp only [f1, f2, f3, rdP, Nat.add_zero, go_sem]
 repeat refine sd1 ?_
 refine CallVC.sameP (oTake1_ok _) rfl ?_
 simp only [e1, Nat.add_zero, go_sem]
 repeat refine sd1 ?_
 exact PostF.rs (v0 := .tup [.str ((s.drop p.toNat).take n.toNat), .agg [.str s, .int .i64 (p + n)], .int .i64 0]) (.inr rfl)
theorem oNextStr_short {F : SF} {L nx : Nat} (s : List UInt8) (p n m : Int) (h0 : 0 ≤ p) (hps : p ≤ s.length) (hn : 0 ≤ n) (hm : n ≤ m) (hp : s.length < p + n) (hl : s.length ≤ 1000000) : Con Tryz.prog 143 [rdP s p, .int .i64 n, .int .i64 0, .int .i64 m, .fn (.func 144) [] []] F L nx nx (.tup [.str [], rdP [] 0, .int .i64 7]) [] [] := by
 refine bdy Tryz.f143 ?_
 intro F3 hF1 hF2
 have f1 : decide (n < 0) = false := dF (by omega)
 have f2 : decide (n > m) = false := dF (by omega)
 have f3 : decide ((s.length : Int) - p < n) = true := dT (by omega)
 simp only [Tryz.f143, cx, rdP, go_sem, meths]
 refine CallVC.pure (args2 := [rdP s p]) (by simp [Wk, WkL, rdP]) (oRead_ok s p h0 (by omega)) (by simp [plainP, plainPL, rdP]) ?_
 simp only [f1, f2, f3, rdP, Nat.add_zero, go_sem]
 repeat refine sd1 ?_
 exact PostF.rs (v0 := .tup [.str [], .agg [.str [], .int .i64 0], .int .i64 7]) (.inr rfl)
theorem oNextInt_ok {F : SF} {L nx : Nat} (s : List UInt8) (p n m : Int) (h0 : 0 ≤ p) (hn : 1 ≤ n) (hm : n ≤ m) (h7 : m ≤ 7) (hp : p + n ≤ s.length) (hl : s.length ≤ 1000000) : Con Tryz.prog 141 [rdP s p, .int .i64 n, .int .i64 1, .int .i64 m, .fn (.func 142) [] []] F L nx nx (.tup [.int .i64 (getB ((s.drop p.toNat).take n.toNat)), rdP s (p + n), .int .i64 0]) [] [] := by
 refine bdy Tryz.f141 ?_
 intro F3 hF1 hF2
 have f1 : decide (n < 1) = false := dF (by omega)
 have f2 : decide (n > m) = false := dF (by omega)
 have f3 : decide ((s.length : Int) - p < n) = false := dF (by omega)
 have e1 : (p + n).toNat - p.toNat = n.toNat := by omega
 simp only [Tryz.f141, cx, rdP, go_sem, meths]
 refine CallVC.pure (args2 := [rdP s p]) (by simp [Wk, WkL, rdP]) (oRead_ok s p h0 (by omega)) (by simp [plainP, plainPL, rdP]) ?_
 simp only [f1, f2, f3, rdP, Nat.add_zero, go_sem]
 repeat refine sd1 ?_
 refine CallVC.sameP (oUint1_ok _ (by simp; omega)) rfl ?_
 simp only [e1, Nat.add_zero, go_sem]
 repeat refine sd1 ?_
 exact PostF.rs (v0 := .tup [.int .i64 (getB ((s.drop p.toNat).take n.toNat)), .agg [.str s, .int .i64 (p + n)], .int .i64 0]) (.inr rfl)
theorem oNextInt_short {F : SF} {L nx : Nat} (s : List UInt8) (p n m : Int) (h0 : 0 ≤ p) (hps : p ≤ s.length) (hn : 1 ≤ n) (hm : n ≤ m) (hp : s.length < p + n) (hl : s.length ≤ 1000000) : Con Tryz.prog 141 [rdP s p, .int .i64 n, .int .i64 1, .int .i64 m, .fn (.func 142) [] []] F L nx nx (.tup [.int .i64 0, rdP [] 0, .int .i64 7]) [] [] := by
 refine bdy Tryz.f141 ?_
 intro F3 hF1 hF2
 have f1 : decide (n < 1) = false := dF (by omega)
 have f2 : decide (n > m) = false := dF (by omega)
 have f3 : decide ((s.length : Int) - p < n) = true := dT (by omega)
 simp only [Tryz.f141, cx, rdP, go_sem, meths]
 refine CallVC.pure (args2 := [rdP s p]) (by simp [Wk, WkL, rdP]) (oRead_ok s p h0 (by omega)) (by simp [plainP, plainPL, rdP]) ?_
 simp only [f1, f2, f3, rdP, Nat.add_zero, go_sem]
 repeat refine sd1 ?_
 exact PostF.rs (v0 := .tup [.int .i64 0, .agg [.str [], .int .i64 0], .int .i64 7]) (.inr rfl)
theorem oUint_ok {F : SF} {L nx : Nat} (s : List UInt8) (p n : Int) (h0 : 0 ≤ p) (hn : 1 ≤ n) (h7 : n ≤ 7) (hp : p + n ≤ s.length) (hl : s.length ≤ 1000000) : Con Tryz.prog 112 [rdP s p, .int .i64 n] F L nx nx (.tup [.int .i64 (getB ((s.drop p.toNat).take n.toNat)), rdP s (p + n), .int .i64 0]) [] [] := by
 refine bdy Tryz.f112 ?_
 intro F3 hF1 hF2
 simp only [Tryz.f112, cx, rdP, go_sem, meths]
 repeat refine sd1 ?_
 refine CallVC.sameP (oNextInt_ok s p n 7 h0 hn (by omega) (by omega) hp hl) (by simp [plainP, plainPL, rdP]) ?_
 simp only [rdP, go_sem]
 repeat refine sd1 ?_
 exact PostF.rs (v0 := .tup [.int .i64 (getB ((s.drop p.toNat).take n.toNat)), .agg [.str s, .int .i64 (p + n)], .int .i64 0]) (.inr rfl)
theorem oUint_short {F : SF} {L nx : Nat} (s : List UInt8) (p n : Int) (h0 : 0 ≤ p) (hps : p ≤ s.length) (hn : 1 ≤ n) (h7 : n ≤ 7) (hp : s.length < p + n) (hl : s.length ≤ 1000000) : Con Tryz.prog 112 [rdP s p, .int .i64 n] F L nx nx (.tup [.int .i64 0, rdP [] 0, .int .i64 7]) [] [] := by
 refine bdy Tryz.f112 ?_
 intro F3 hF1 hF2
 simp only [Tryz.f112, cx, rdP, go_sem, meths]
 repeat refine sd1 ?_
 refine CallVC.sameP (oNextInt_short s p n 7 h0 hps hn (by omega) hp hl) (by simp [plainP, plainPL, rdP]) ?_
 simp only [rdP, go_sem]
 repeat refine sd1 ?_
 exact PostF.rs (v0 := .tup [.int .i64 0, .agg [.str [], .int .i64 0], .int .i64 7]) (.inr rfl)
theorem oTake_ok {F : SF} {L nx : Nat} (s : List UInt8) (p n : Int) (h0 : 0 ≤ p) (hn : 0 ≤ n) (hp : p + n ≤ s.length) (hl : s.length ≤ 1000000) : Con Tryz.prog 113 [rdP s p, .int .i64 n] F L nx nx (.tup [.str ((s.drop p.toNat).take n.toNat), rdP s (p + n), .int .i64 0]) [] [] := by
 refine bdy Tryz.f113 ?_
 intro F3 hF1 hF2
 have fm : max n 0 = n := by omega
 simp only [Tryz.f113, cx, rdP, fm, go_sem, meths]
 repeat refine sd1 ?_
 refine CallVC.sameP (oNextStr_ok s p n n h0 hn (by omega) hp hl) (by simp [plainP, plainPL, rdP]) ?_
 simp only [rdP, go_sem]
 repeat refine sd1 ?_
 exact PostF.rs (v0 := .tup [.str ((s.drop p.toNat).take n.toNat), .agg [.str s, .int .i64 (p + n)], .int .i64 0]) (.inr rfl)
theorem oTake_short {F : SF} {L nx : Nat} (s : List UInt8) (p n : Int) (h0 : 0 ≤ p) (hps : p ≤ s.length) (hn : 0 ≤ n) (hp : s.length < p + n) (hl : s.length ≤ 1000000) : Con Tryz.prog 113 [rdP s p, .int .i64 n] F L nx nx (.tup [.str [], rdP [] 0, .int .i64 7]) [] [] := by
 refine bdy Tryz.f113 ?_
 intro F3 hF1 hF2
 have fm : max n 0 = n := by omega
 simp only [Tryz.f113, cx, rdP, fm, go_sem, meths]
 repeat refine sd1 ?_
 refine CallVC.sameP (oNextStr_short s p n n h0 hps hn (by omega) hp hl) (by simp [plainP, plainPL, rdP]) ?_
 simp only [rdP, go_sem]
 repeat refine sd1 ?_
 exact PostF.rs (v0 := .tup [.str [], .agg [.str [], .int .i64 0], .int .i64 7]) (.inr rfl)
theorem number_ok {F : SF} {L nx : Nat} (r : Nm) (hr : r.l ≤ L) (s : List UInt8) (p n : Nat) (k : Int) (hk : k = n) (h1 : 1 ≤ n) (h7 : n ≤ 7) (hp : p + n ≤ s.length) (hl : s.length ≤ 1000000) (hF : F r = some (rdB s p)) : Con Tryz.prog 72 [.ptr r 0 0, .int .i64 k] F L nx nx (.int .i64 (getB ((s.drop p).take n))) [(r, rdB s (p + n))] [r] := by
 subst hk
 refine bdy Tryz.f72 (hrd := (by simp; omega)) ?_
 intro F3 hF1 hF2
 have hF3 : F3 r = some (.rows 173 2 true true [[.str s, .int .i64 p]]) := (hF1 r (by simp)).trans hF
 have n1 : ∀ k, (r = (⟨L + 1, k⟩ : Nm)) = False := nm_out hr
 have n2 : ∀ k, ((⟨L + 1, k⟩ : Nm) = r) = False := nm_out' hr
 simp only [Tryz.f72, cx, hF3, Nat.add_zero, go_sem, meths]
 repeat refine sd1 ?_
 refine CallVC.sameP (oUint_ok s p n (by omega) (by omega) (by omega) (by omega) hl) (by simp [plainP, plainPL, rdP]) ?_
 simp only [rdP, go_sem]
 repeat refine sd1 ?_
 refine CallVC.sameP must_ok rfl ?_
 simp only [n1, hF3, Nat.add_zero, go_sem]
 repeat refine sd1 ?_
 exact PostF.of (p := True) (v0 := .int .i64 (getB ((s.drop p).take n))) (.inr rfl) (by simp only [resVal, resVals, resVal1, one, go_sem]) trivial (by simp [Wk]) (by simp [wkN]) (by simp [Tx.nf]) ⟨hr, by simp [BW, Tx.look, rdB, n1], trivial⟩ (by simp [UpdAll, keys])
theorem number_die {F : SF} {L : Nat} (r : Nm) (hr : r.l ≤ L) (s : List UInt8) (p n : Nat) (k : Int) (hk : k = n) (h1 : 1 ≤ n) (h7 : n ≤ 7) (hps : p ≤ s.length) (hp : s.length < p + n) (hl : s.length ≤ 1000000) (hF : F r = some (rdB s p)) : DCon Tryz.prog chM 72 [.ptr r 0 0, .int .i64 k] F L [(r, .dead)] [r] := by
 subst hk
 refine DCon.body (cxOk (L + 1)) rfl rfl (fn := Tryz.f72) (c := Tryz.f72.body.getD .skip) (by kernel_rfl) (by rfl) (by kernel_rfl) rfl  (by simp; omega) ?_
 intro F3 hF1 hF2
 have hF3 : F3 r = some (.rows 173 2 true true [[.str s, .int .i64 p]]) := (hF1 r (by simp)).trans hF
 have n1 : ∀ k, (r = (⟨L + 1, k⟩ : Nm)) = False := nm_out hr
 have n2 : ∀ k, ((⟨L + 1, k⟩ : Nm) = r) = False := nm_out' hr
 simp only [Tryz.f72, cx, hF3, Nat.add_zero, go_sem, meths]
 repeat refine sd1 ?_
 refine CallVD.live (CallVC.sameP (oUint_short s p n (by omega) (by omega) (by omega) (by omega) (by omega) hl) (by simp [plainP, plainPL, rdP]) ?_)
 simp only [rdP, go_sem]
 repeat refine sd1 ?_
 refine CallVD.same rfl must_die ?_
 exact .dead (ns := [r]) (by simpa using hr) (by simp [UpdAll, updH])
theorem rtake_ok {F : SF} {L nx : Nat} (r : Nm) (hr : r.l ≤ L) (s : List UInt8) (p n : Nat) (k : Int) (hk : k = n) (hp : p + n ≤ s.length) (hl : s.length ≤ 1000000) (hF : F r = some (rdB s p)) : Con Tryz.prog 73 [.ptr r 0 0, .int .i64 k] F L nx nx (.str ((s.drop p).take n)) [(r, rdB s (p + n))] [r] := by
 subst hk
 refine bdy Tryz.f73 (hrd := (by simp; omega)) ?_
 intro F3 hF1 hF2
 have hF3 : F3 r = some (.rows 173 2 true true [[.str s, .int .i64 p]]) := (hF1 r (by simp)).trans hF
 have n1 : ∀ k, (r = (⟨L + 1, k⟩ : Nm)) = False := nm_out hr
 have n2 : ∀ k, ((⟨L + 1, k⟩ : Nm) = r) = False := nm_out' hr
 simp only [Tryz.f73, cx, hF3, Nat.add_zero, go_sem, meths]
 repeat refine sd1 ?_
 refine CallVC.sameP (oTake_ok s p n (by omega) (by omega) (by omega) hl) (by simp [plainP, plainPL, rdP]) ?_
 simp only [rdP, go_sem]
 repeat refine sd1 ?_
 refine CallVC.sameP must_ok rfl ?_
 simp only [n1, hF3, Nat.add_zero, go_sem]
 repeat refine sd1 ?_
 exact PostF.of (p := True) (v0 := .str ((s.drop p).take n)) (.inr rfl) (by simp only [resVal, resVals, resVal1, one, go_sem]) trivial (by simp [Wk]) (by simp [wkN]) (by simp [Tx.nf]) ⟨hr, by simp [BW, Tx.look, rdB, n1], trivial⟩ (by simp [UpdAll, keys])
theorem rtake_die {F : SF} {L : Nat} (r : Nm) (hr : r.l ≤ L) (s : List UInt8) (p n : Nat) (k : Int) (hk : k = n) (hps : p ≤ s.length) (hp : s.length < p + n) (hl : s.length ≤ 1000000) (hF : F r = some (rdB s p)) : DCon Tryz.prog chM 73 [.ptr r 0 0, .int .i64 k] F L [(r, .dead)] [r] := by
 subst hk
 refine DCon.body (cxOk (L + 1)) rfl rfl (fn := Tryz.f73) (c := Tryz.f73.body.getD .skip) (by kernel_rfl) (by rfl) (by kernel_rfl) rfl  (by simp; omega) ?_
 intro F3 hF1 hF2
 have hF3 : F3 r = some (.rows 173 2 true true [[.str s, .int .i64 p]]) := (hF1 r (by simp)).trans hF
 have n1 : ∀ k, (r = (⟨L + 1, k⟩ : Nm)) = False := nm_out hr
 have n2 : ∀ k, ((⟨L + 1, k⟩ : Nm) = r) = False := nm_out' hr
 simp only [Tryz.f73, cx, hF3, Nat.add_zero, go_sem, meths]
 repeat refine sd1 ?_
 refine CallVD.live (CallVC.sameP (oTake_short s p n (by omega) (by omega) (by omega) (by omega) hl) (by simp [plainP, plainPL, rdP]) ?_)
 simp only [rdP, go_sem]
 repeat refine sd1 ?_
 refine CallVD.same rfl must_die ?_
 exact .dead (ns := [r]) (by simpa using hr) (by simp [UpdAll, updH])
def eN (v : Nat) : List PV := [.int .i64 v]
def bldD : Option Nm → List (Nm × SBlk)
 | none => []
 | some m => [(m, .dead)]
def bldR (n : Nm) : Option Nm → List Nm
 | none => [n]
 | some m => [n, m]
def bldL (L nx : Nat) : Option Nm → Prop
 | none => True
 | some m => m.l < L ∨ (m.l = L ∧ m.i < nx)
theorem writeString_ok {F : SF} {L nx : Nat} (n : Nm) (e : TypeId) (he : e = 130 ∨ e = 128) (hn : n.l < L ∨ (n.l = L ∧ n.i < nx)) (b : Option Nm) (hm : bldL L nx b) (t s : List UInt8) (hs : s ≠ []) (hsl : t.length + s.length ≤ 1000000) (hb : bldF F n e b t) :
  Con Tryz.prog 65 [.ptr n 0 0, .str s] F L nx (nx + 1) (.tup [.int .i64 s.length, .nilI]) (bldD b ++ bldU n e ⟨L, nx⟩ (t ++ s)) (bldR n b) := by
 cases b with
 | none =>
  have := hb.1
  subst this
  exact writeString0_ok n e he hn s hs (by simpa using hsl) hb
 | some m => exact writeString1_ok n e he hn m hm t s hs hsl hb
theorem flat_len (k : Nat) : ∀ l : List Nat, (l.flatMap (putB k)).length = l.length * k
 | [] => by simp
 | x :: l => by simp only [List.flatMap_cons, List.length_append, putB_len, List.length_cons, flat_len k l, Nat.succ_mul]; omega
theorem bput_ok {F : SF} {L nx : Nat} (n : Nm) (hn : n.l < L ∨ (n.l = L ∧ n.i < nx)) (b : Option Nm) (hm : bldL L nx b) (t : List UInt8) (k : Nat) (hk1 : 1 ≤ k) (hk2 : k ≤ 7) (vs : List Nat) (hv : ∀ v ∈ vs, v < 256 ^ k) (hv0 : vs ≠ []) (hvl : t.length + vs.length * 7 ≤ 1000000) (hb : bldF F n 130 b t) :
  Con Tryz.prog 64 [.ptr n 0 0, .int .i64 k, .fs 1 (vs.map eN)] F L nx (nx + 1) (.tup []) (bldD b ++ bldU n 130 ⟨L, nx⟩ (t ++ vs.flatMap (putB k))) (bldR n b) := by
 refine bdyN Tryz.f64 (hrd := (by cases b <;> simp [bldR] <;> (try simp [bldL] at hm) <;> omega)) ?_
 intro F3 hF1 hF2
 simp only [Tryz.f64, cx, go_sem, meths]
 refine loopK.intro _ _ (I := fun i : Nat => ⟨[some (.ptr n 0 0), some (.int .i64 k), none, none, none, none, none, none, none, none, some (.fs 1 (vs.map eN)), some (.int .i64 vs.length), some (.int .i64 i)] ++ oz 15,
  if i = 0 then [] else bldD b ++ bldU n 130 ⟨L + 1, 1000 * i + 480⟩ (t ++ (vs.take i).flatMap (putB k)), 1000 * (i + 1)⟩) (pre := fun i => i ≤ vs.length) (μ := fun i => vs.length - i) 0 (by omega) ?_ ?_
 ·exact Sub.of (hfz hF2) (by simp only [go_sem, subT, and_self, Int.natCast_zero, List.length_map]) (by simp [subH]) (by simp only [go_sem, subK]) (by simp)
 ·intro i hi
  by_cases hlt : i < vs.length
  ·have f1 : decide ((i : Int) < (vs.length : Int)) = true := dT (by omega)
   have r0 : (vs.map eN).getD i [] = [.int .i64 (vs.getD i 0 : Nat)] := by simp [hlt, List.getD_eq_getElem?_getD, eN]
   have hvi := hv (vs.getD i 0) (by rw [List.getD_eq_getElem?_getD, List.getElem?_eq_getElem hlt]; simp)
   have hpl : (putB k (vs.getD i 0)).length = k := putB_len _ _
   have hFb : bldF F3 n 130 b t := by
    cases b with
    | none => exact ⟨hb.1, hb.2.imp fun p h => (hF1 n (by simp [bldR])).trans h⟩
    | some m => exact ⟨hb.1, (hF1 n (by simp [bldR])).trans hb.2.1, (hF1 m (by simp [bldR])).trans hb.2.2.1, hb.2.2.2⟩
   have hmL : bldL (L + 1) 0 b := by
    cases b with
    | none => trivial
    | some m => simp only [bldL] at hm ⊢; omega
   have hne : putB k (vs.getD i 0) ≠ [] := by intro h; rw [h] at hpl; simp at hpl; omega
   have n1 : ∀ k, (n = (⟨L + 1, k⟩ : Nm)) = False := nm_out (by omega)
   have n2 : ∀ k, ((⟨L + 1, k⟩ : Nm) = n) = False := nm_out' (by omega)
   have htk : (vs.take i).flatMap (putB k) ++ putB k (vs.getD i 0) = (vs.take (i + 1)).flatMap (putB k) := by
    rw [List.take_add_one, List.flatMap_append, List.getD_eq_getElem?_getD, List.getElem?_eq_getElem hlt]; simp
   have hfl : ((vs.take i).flatMap (putB k)).length = i * k := by
    rw [flat_len, List.length_take, Nat.min_eq_left hi]
   have hik : i * k ≤ i * 7 := Nat.mul_le_mul_left _ hk2
   cases i with
   | zero =>
    simp only [f1, r0, List.length_map, Nat.add_zero, go_sem]
    repeat refine sd1 ?_
    refine CallVC.same (put_ok k (vs.getD 0 0) hk1 hk2 hvi) ?_
    simp only [Nat.add_zero, go_sem]
    refine CallVC.same (writeString_ok n 130 (.inl rfl) (by omega) b ?_ t (putB k (vs.getD 0 0)) hne (by omega) hFb) ?_
    ·cases b with
     | none => trivial
     | some m => exact .inl (by simp only [bldL] at hm; omega)
    simp only [go_sem]
    refine ⟨⟨by omega, by omega⟩, 1, by omega, by omega, ?_⟩
    rw [if_neg (by omega), ← htk]
    simp only [List.take_zero, List.flatMap_nil, List.nil_append]
    cases b with
    | none =>
     refine Sub.of (hfz hF2) (by simp only [go_sem, subT, and_self, Int.natCast_succ]) ?_ ?_ (by simp)
     ·simp [subH, Tx.look, bldD, bldU, updH, setH, n2]
     ·simp [subK, keys, bldD, bldU, updH, setH, n1, n2]
    | some m =>
     have hmn := hb.2.2.2
     have n3 : ∀ k, (m = (⟨L + 1, k⟩ : Nm)) = False := nm_out (by simp only [bldL] at hm; omega)
     have n4 : ∀ k, ((⟨L + 1, k⟩ : Nm) = m) = False := nm_out' (by simp only [bldL] at hm; omega)
     have n5 : (m = n) = False := by simp [hmn]
     have n6 : (n = m) = False := by simp [Ne.symm hmn]
     refine Sub.of (hfz hF2) (by simp only [go_sem, subT, and_self, Int.natCast_succ]) ?_ ?_ (by simp)
     ·simp [subH, Tx.look, bldD, bldU, updH, setH, n2, n4, n6]
     ·simp [subK, keys, bldD, bldU, updH, setH, n1, n2, n3, n4, n5, n6]
   | succ i =>
    simp only [f1, r0, List.length_map, go_sem]
    repeat refine sd1 ?_
    refine CallVC.same (put_ok k (vs.getD (i + 1) 0) hk1 hk2 hvi) ?_
    simp only [Nat.add_zero, go_sem]
    refine CallVC.same (writeString_ok n 130 (.inl rfl) (by omega) (some ⟨L + 1, 1000 * (i + 1) + 480⟩) ?_ (t ++ (vs.take (i + 1)).flatMap (putB k)) (putB k (vs.getD (i + 1) 0)) hne (by rw [List.length_append]; omega) ?_) ?_
    ·exact .inr ⟨rfl, by simp only []; omega⟩
    ·have hlen0 : t ++ (vs.take (i + 1)).flatMap (putB k) ≠ [] := by
      intro h
      have := congrArg List.length h
      rw [List.length_append, hfl] at this
      have : 1 * 1 ≤ (i + 1) * k := Nat.mul_le_mul (by omega) hk1
      simp at *; omega
     cases b with
     | none => exact ⟨hlen0, by simp [Tx.look, bldD, bldU], by simp [Tx.look, bldD, bldU, n2], by simp [n2]⟩
     | some m =>
      have hmn := hb.2.2.2
      have n3 : ∀ k, (m = (⟨L + 1, k⟩ : Nm)) = False := nm_out (by simp only [bldL] at hm; omega)
      have n4 : ∀ k, ((⟨L + 1, k⟩ : Nm) = m) = False := nm_out' (by simp only [bldL] at hm; omega)
      have n5 : (m = n) = False := by simp [hmn]
      have n6 : (n = m) = False := by simp [Ne.symm hmn]
      exact ⟨hlen0, by simp [Tx.look, bldD, bldU, n6], by simp [Tx.look, bldD, bldU, n2, n4], by simp [n2]⟩
    rw [show (1000 * (i + 1 + 1) + 32 + 32 + 32 + 32 + 32 + 32 + 32 + 32 + 32 + 32 + 32 + 32 + 32 + 32 + 32 : Nat) = 1000 * (i + 1 + 1) + 480 by omega]
    simp only [go_sem]
    refine ⟨⟨by omega, by omega⟩, i + 1 + 1, by omega, by omega, ?_⟩
    rw [if_neg (by omega), ← htk, ← List.append_assoc]
    have n7 : ((⟨L + 1, 1000 * (i + 1) + 480⟩ : Nm) = ⟨L + 1, 1000 * (i + 1 + 1) + 480⟩) = False := by simp; omega
    have n8 : ((⟨L + 1, 1000 * (i + 1 + 1) + 480⟩ : Nm) = ⟨L + 1, 1000 * (i + 1) + 480⟩) = False := by simp; omega
    cases b with
    | none =>
     refine Sub.of (hfz hF2) (by simp only [go_sem, subT, and_self, Int.natCast_succ]) ?_ ?_ (by simp only []; omega)
     ·simp only [subH, Tx.look, bldD, bldU, updH, setH, n1, n2, n8, List.cons_append, List.nil_append, if_true, if_false, and_self]
     ·simp [subK, keys, bldD, bldU, updH, setH, n1, n2, n7, n8]
    | some m =>
     have hmn := hb.2.2.2
     have n3 : ∀ k, (m = (⟨L + 1, k⟩ : Nm)) = False := nm_out (by simp only [bldL] at hm; omega)
     have n4 : ∀ k, ((⟨L + 1, k⟩ : Nm) = m) = False := nm_out' (by simp only [bldL] at hm; omega)
     have n5 : (m = n) = False := by simp [hmn]
     have n6 : (n = m) = False := by simp [Ne.symm hmn]
     refine Sub.of (hfz hF2) (by simp only [go_sem, subT, and_self, Int.natCast_succ]) ?_ ?_ (by simp only []; omega)
     ·simp only [subH, Tx.look, bldD, bldU, updH, setH, n1, n2, n3, n4, n5, n6, n8, List.cons_append, List.nil_append, if_true, if_false, and_self]
     ·simp [subK, keys, bldD, bldU, updH, setH, n1, n2, n3, n4, n5, n6, n7, n8]
  ·have f1 : decide ((i : Int) < (vs.length : Int)) = false := dF (by omega)
   have e : i = vs.length := by omega
   subst e
   have hi0 : vs.length ≠ 0 := by intro h; exact hv0 (List.eq_nil_of_length_eq_zero h)
   have n1 : ∀ k, (n = (⟨L + 1, k⟩ : Nm)) = False := nm_out (by omega)
   have n2 : ∀ k, ((⟨L + 1, k⟩ : Nm) = n) = False := nm_out' (by omega)
   simp only [f1, List.take_length, go_sem]
   rw [if_neg hi0]
   have hnd : [1000 * vs.length + 480].Nodup := by simp
   cases b with
   | none =>
    refine .now (PostN.val [1000 * vs.length + 480] (.inl rfl) hnd (p := True) (v0 := .tup []) rfl trivial (by trivial) rfl ⟨by omega, ?_, Nat.le_refl _, ?_, trivial⟩ (by simp [UpdAll, keys, bldD, bldU]))
    ·rw [kp_out (hn.imp id fun h => .inl h.2)]
     exact .ren (by simp [Tx.look, bldU, bldD]; rfl) (by simp [rowsNm, nmA, nmAL, Dn]; omega) (by simp [Tx.rn, Tx.rnL, sg_out (show n.l ≤ L by omega)]; simp [sg])
    ·rw [kp_at0 (by simp)]
     exact .pure (by simp [Tx.look, bldU, bldD, n2])
   | some m =>
    have hmn := hb.2.2.2
    have n3 : ∀ k, (m = (⟨L + 1, k⟩ : Nm)) = False := nm_out (by simp only [bldL] at hm; omega)
    have n4 : ∀ k, ((⟨L + 1, k⟩ : Nm) = m) = False := nm_out' (by simp only [bldL] at hm; omega)
    have n6 : (n = m) = False := by simp [Ne.symm hmn]
    refine .now (PostN.val [1000 * vs.length + 480] (.inl rfl) hnd (p := True) (v0 := .tup []) rfl trivial (by trivial) rfl ⟨by simp only [bldL] at hm; omega, BN_dead, by omega, ?_, Nat.le_refl _, ?_, trivial⟩ (by simp [UpdAll, keys, bldD, bldU]))
    ·rw [kp_out (hn.imp id fun h => .inl h.2)]
     exact .ren (by simp [Tx.look, bldU, bldD, n6]; rfl) (by simp [rowsNm, nmA, nmAL, Dn]; omega) (by simp [Tx.rn, Tx.rnL, sg_out (show n.l ≤ L by omega)]; simp [sg])
    ·rw [kp_at0 (by simp)]
     exact .pure (by simp [Tx.look, bldU, bldD, n2, n4])
theorem kS2 {i c k : Nat} (h : k < 10000) : (10000 * (i + 1) + c = k) = False := by apply eq_false; omega
theorem kS2' {i c k : Nat} (h : k < 10000) : (k = 10000 * (i + 1) + c) = False := by apply eq_false; omega
theorem kS3 (x c d : Nat) : (x + c = x + d) = (c = d) := by simp
def numsG (s : List UInt8) (p k n : Nat) : List Nat := (List.range n).map fun i => getB ((s.drop (p + k * i)).take k)
theorem numsG_len (s : List UInt8) (p k n : Nat) : (numsG s p k n).length = n := by simp [numsG]
theorem numsG_succ (s : List UInt8) (p k n : Nat) : numsG s p k (n + 1) = numsG s p k n ++ [getB ((s.drop (p + k * n)).take k)] := by
 simp [numsG, List.range_succ]
theorem numbers_ok {F : SF} {L nx : Nat} (r : Nm) (hr : r.l ≤ L) (s : List UInt8) (p k n : Nat) (h1 : 1 ≤ k) (h7 : k ≤ 7) (hp : p + k * n ≤ s.length) (hl : s.length ≤ 1000000) (hF : F r = some (rdB s p)) :
  Con Tryz.prog 92 [.ptr r 0 0, .int .i64 k, .int .i64 n] F L nx nx (.fs 1 ((numsG s p k n).map eN)) [(r, rdB s (p + k * n))] [r] := by
 refine bdy Tryz.f92 (hrd := (by simp; omega)) ?_
 intro F3 hF1 hF2
 have hF3 : F3 r = some (rdB s p) := (hF1 r (by simp)).trans hF
 have n1 : ∀ k, (r = (⟨L + 1, k⟩ : Nm)) = False := nm_out hr
 have n2 : ∀ k, ((⟨L + 1, k⟩ : Nm) = r) = False := nm_out' hr
 have hnl : n ≤ s.length := by have := Nat.mul_le_mul_right n h1; omega
 simp only [Tryz.f92, cx, go_sem, meths]
 refine loopK.intro _ _ (I := fun x : Nat × Nat => ⟨[some (.ptr r 0 0), some (.int .i64 k), none, none, none, none, none, some (.sl ⟨L + 1, x.2⟩ 0 x.1), some (.int .i64 n), some (.int .i64 x.1)] ++ oz 9, [(r, rdB s (p + k * x.1)), (⟨L + 1, x.2⟩, .rows 3 1 true true ((numsG s p k x.1).map eN))], 10000 * (x.1 + 1)⟩)
  (pre := fun x => x.1 ≤ n ∧ x.2 < 10000 * (x.1 + 1)) (μ := fun x => n - x.1) (0, 128) ⟨by simp, by simp⟩ ?_ ?_
 ·refine Sub.trans (Sub.nilName 7 3 (wd := 1) (by omega) rfl) ?_
  refine Sub.of (hfz hF2) (by simp only [go_sem, subT, and_self, Int.natCast_zero]) ?_ ?_ ?_
  ·simp [subH, Tx.look, updH, setH, hF3, n1, numsG]
  ·simp [subK, keys, updH, setH]
  ·simp
 ·rintro ⟨i, q⟩ ⟨hi, hq⟩
  simp only at hi hq ⊢
  obtain ⟨q_n1, q_n2, q_n3, q_n4, q_n5⟩ := nqL L (i := i) (p := q) (by omega)
  by_cases hlt : i < n
  ·have f1 : decide ((i : Int) < (n : Int)) = true := dT (by omega)
   have hpi : p + k * i + k ≤ s.length := by
    have := Nat.mul_le_mul_left k (show i + 1 ≤ n by omega)
    rw [Nat.mul_succ] at this; omega
   simp only [f1, Nat.add_assoc, go_sem]
   refine CallVC.same (number_ok r (by omega) s (p + k * i) k k rfl h1 h7 hpi hl (by simp [Tx.look])) ?_
   simp only [n1, n2, rdB, q_n1, q_n2, q_n5, kS3, Nat.add_assoc, List.length_map, numsG_len, go_sem]
   repeat refine sd1 ?_
   refine ⟨(i + 1, 10000 * (i + 1) + 160), ⟨by simp only []; omega, by simp only []; omega⟩, by simp only []; omega, ?_⟩
   refine Sub.o hF2 ?_
   have e4 : k * (i + 1) = k * i + k := Nat.mul_succ k i
   simp only [subH, Tx.look, n1, n2, numsG_succ, eN, e4, q_n1, kS3, List.map_append, go_sem]
  ·have f1 : decide ((i : Int) < (n : Int)) = false := dF (by omega)
   have hin : i = n := by omega
   subst hin
   simp only [f1, Nat.add_assoc, go_sem]
   refine PostF.of (p := True) (v0 := .sl ⟨L + 1, q⟩ 0 i) (.inr rfl) (by simp only [resVal, resVals, resVal1, one, go_sem]) trivial (by simp [Wk, Tx.look, n2, numsG_len, List.take_of_length_le]) (by simp [wkN]) (by simp [Tx.nf]) ⟨hr, by simp [BW, Tx.look, rdB], trivial⟩ (by simp [UpdAll, keys])
theorem numbers_die {F : SF} {L : Nat} (r : Nm) (hr : r.l ≤ L) (s : List UInt8) (p k n : Nat) (h1 : 1 ≤ k) (h7 : k ≤ 7) (hps : p ≤ s.length) (hp : s.length < p + k * n) (hn : n ≤ 1000000) (hl : s.length ≤ 1000000) (hF : F r = some (rdB s p)) :
  DCon Tryz.prog chM 92 [.ptr r 0 0, .int .i64 k, .int .i64 n] F L [(r, .dead)] [r] := by
 refine DCon.body (cxOk (L + 1)) rfl rfl (fn := Tryz.f92) (c := Tryz.f92.body.getD .skip) (by kernel_rfl) (by rfl) (by kernel_rfl) rfl  (by simp; omega) ?_
 intro F3 hF1 hF2
 have hF3 : F3 r = some (rdB s p) := (hF1 r (by simp)).trans hF
 have n1 : ∀ k, (r = (⟨L + 1, k⟩ : Nm)) = False := nm_out hr
 have n2 : ∀ k, ((⟨L + 1, k⟩ : Nm) = r) = False := nm_out' hr
 obtain ⟨j, hj⟩ : ∃ j, j = (s.length - p) / k := ⟨_, rfl⟩
 have j1 : k * j ≤ s.length - p := by rw [hj]; exact Nat.mul_div_le _ _
 have j2 : s.length - p < k * (j + 1) := by rw [hj]; exact Nat.lt_mul_div_succ _ (by omega)
 have j3 : j < n := by
  rcases Nat.lt_or_ge j n with h | h
  ·exact h
  ·have := Nat.mul_le_mul_left k h; omega
 simp only [Tryz.f92, cx, go_sem, meths]
 refine loopK.intro _ _ (I := fun x : Nat × Nat => ⟨[some (.ptr r 0 0), some (.int .i64 k), none, none, none, none, none, some (.sl ⟨L + 1, x.2⟩ 0 x.1), some (.int .i64 n), some (.int .i64 x.1)] ++ oz 9, [(r, rdB s (p + k * x.1)), (⟨L + 1, x.2⟩, .rows 3 1 true true ((numsG s p k x.1).map eN))], 10000 * (x.1 + 1)⟩)
  (pre := fun x => x.1 ≤ j ∧ x.2 < 10000 * (x.1 + 1)) (μ := fun x => n - x.1) (0, 128) ⟨by simp, by simp⟩ ?_ ?_
 ·refine Sub.trans (Sub.nilName 7 3 (wd := 1) (by omega) rfl) ?_
  refine Sub.of (hfz hF2) (by simp only [go_sem, subT, and_self, Int.natCast_zero]) ?_ ?_ ?_
  ·simp [subH, Tx.look, updH, setH, hF3, n1, numsG, dying_L]
  ·simp [subK, keys, updH, setH, dying_L]
  ·simp
 ·rintro ⟨i, q⟩ ⟨hi, hq⟩
  simp only at hi hq ⊢
  obtain ⟨q_n1, q_n2, q_n3, q_n4, q_n5⟩ := nqL L (i := i) (p := q) (by omega)
  have f1 : decide ((i : Int) < (n : Int)) = true := dT (by omega)
  have e4 : k * (i + 1) = k * i + k := Nat.mul_succ k i
  simp only [f1, Nat.add_assoc, go_sem]
  by_cases hlt : i < j
  ·have hpi : p + k * i + k ≤ s.length := by
    have := Nat.mul_le_mul_left k (show i + 1 ≤ j by omega)
    omega
   refine CallVD.live (CallVC.same (number_ok r (by omega) s (p + k * i) k k rfl h1 h7 hpi hl (by simp [Tx.look])) ?_)
   simp only [n1, n2, rdB, q_n1, q_n2, q_n5, kS3, Nat.add_assoc, List.length_map, numsG_len, go_sem]
   repeat refine sd1 ?_
   refine ⟨(i + 1, 10000 * (i + 1) + 160), ⟨by simp only []; omega, by simp only []; omega⟩, by simp only []; omega, ?_⟩
   refine Sub.o hF2 ?_
   simp only [subH, Tx.look, n1, n2, numsG_succ, eN, e4, q_n1, kS3, List.map_append, go_sem]
  ·have hij : i = j := by omega
   have w1 : k * i ≤ s.length - p := by rw [hij]; exact j1
   have w2 : s.length - p < k * i + k := by rw [hij, ← Nat.mul_succ]; exact j2
   refine CallVD.same rfl (number_die (L := L + 1) r (by omega) s (p + k * i) k k rfl h1 h7 (by omega) (by omega) hl (by simp [Tx.look])) ?_
   exact .dead (ns := [r]) (by simpa using hr) (by simp [UpdAll, updH, setH])
theorem small_ok {F : SF} {L nx : Nat} (b : Int) (xs : List Int) (h0 : 0 ≤ b) (h1 : b ≤ 32) (hlen : xs.length ≤ 1000000) : Con Tryz.prog 69 [.int .i64 b, .fs 1 (xs.map eI)] F L nx nx (.bool (xs.all (serB b))) [] [] := by
 refine bdy Tryz.f69 ?_
 intro F3 hF1 hF2
 simp only [Tryz.f69, cx, go_sem, meths]
 refine loopK.intro _ _ (I := fun i : Nat => ⟨[some (.int .i64 b), none, none, none, none, none, none, some (.fs 1 (xs.map eI)), some (.int .i64 xs.length), some (.int .i64 i)] ++ oz 12, [], 1000 * (i + 1)⟩) (pre := fun i => i ≤ xs.length ∧ ∀ j, j < i → serB b (xs.getD j 0) = true) (μ := fun i => xs.length - i) 0 ⟨by omega, by intro j h; omega⟩ ?_ ?_
 ·exact Sub.of (hfz hF2) (by simp only [go_sem, subT, and_self, List.length_map, Int.natCast_zero]) trivial trivial (by simp)
 ·rintro i ⟨hi, hp⟩
  have hpw : (1 : Int) ≤ 2 ^ b.toNat := (pow_le h0 h1).2
  by_cases hlt : i < xs.length
  ·have f1 : decide ((i : Int) < (xs.length : Int)) = true := dT (by omega)
   have r0 := getD_eI xs hlt
   have bad : serB b (xs.getD i 0) = false → xs.all (serB b) = false := by
    intro h
    rw [List.all_eq_false]
    exact ⟨xs.getD i 0, by rw [List.getD_eq_getElem?_getD, List.getElem?_eq_getElem hlt]; simp, by rw [h]; decide⟩
   rcases Int.lt_or_le (xs.getD i 0) 0 with hn | hn
   ·have f2 : decide (xs.getD i 0 < 0) = true := dT hn
    simp only [f1, f2, r0, eI, List.length_map, go_sem]
    repeat refine sd1 ?_
    exact .bool (.inr rfl) rfl (bad (by unfold serB; rw [dF (show ¬ 0 ≤ xs.getD i 0 by omega)]; rfl)).symm trivial
   ·have f2 : decide (xs.getD i 0 < 0) = false := dF (by omega)
    rcases Int.lt_or_le (xs.getD i 0) (2 ^ b.toNat) with hb | hb
    ·have f3 := neF (shr0 h0 (by omega) hn hb)
     simp only [f1, f2, f3, r0, eI, List.length_map, go_sem]
     repeat refine sd1 ?_
     refine ⟨i + 1, ⟨by omega, fun j hj => ?_⟩, by omega, ?_⟩
     ·rcases Nat.lt_or_ge j i with h | h
      ·exact hp j h
      ·have : j = i := by omega
       subst this
       unfold serB; rw [dT hn, dT hb]; rfl
     ·exact Sub.of (hfz hF2) (by simp only [go_sem, subT, and_self, Int.natCast_succ]) trivial trivial (by simp; omega)
    ·have f3 : ((xs.getD i 0).fdiv (2 ^ min b.toNat 64) != 0) = true := neT (by
      rw [shr_eq _ h0 (by omega)]
      have := Int.le_ediv_of_mul_le (show (0 : Int) < 2 ^ b.toNat by omega) (show 1 * 2 ^ b.toNat ≤ xs.getD i 0 by omega)
      omega)
     simp only [f1, f2, f3, r0, eI, List.length_map, go_sem]
     repeat refine sd1 ?_
     exact .bool (.inr rfl) rfl (bad (by unfold serB; rw [dF (show ¬ xs.getD i 0 < 2 ^ b.toNat by omega)]; simp)).symm trivial
  ·have f1 : decide ((i : Int) < (xs.length : Int)) = false := dF (by omega)
   simp only [f1, go_sem]
   refine .bool (.inr rfl) rfl ?_ trivial
   symm
   rw [List.all_eq_true]
   intro x hx
   obtain ⟨j, hj, rfl⟩ := List.getElem_of_mem hx
   have := hp j (by omega)
   simpa [List.getD_eq_getElem?_getD, hj] using this
def rstP (kind num last res : Int) (streams : PV) : PV := .agg [.int .i64 kind, .int .i64 num, .int .i64 last, .int .i64 res, streams]
def incB (xs : List Int) : Bool := (List.range xs.length).all fun i => serB 16 (xs.getD i 0) && (i == 0 || decide (xs.getD (i - 1) 0 < xs.getD i 0))
def resetV (kind num last res : Int) (xs : List Int) : Bool :=
 incB xs && serB 32 num && serB 32 last && serB 8 res && (if kind = 2 then last == 0 && xs.isEmpty else kind == 1 && res == 0 && decide (1 ≤ xs.length) && decide (xs.length ≤ 30))
theorem resetValid_ok {F : SF} {L nx : Nat} (kind num last res : Int) (xs : List Int) (hlen : xs.length ≤ 1000000) :
  Con Tryz.prog 203 [rstP kind num last res (.fs 1 (xs.map eI))] F L nx nx (.bool (resetV kind num last res xs)) [] [] := by
 refine bdy Tryz.f203 ?_
 intro F3 hF1 hF2
 simp only [Tryz.f203, cx, rstP, Nat.add_zero, go_sem, meths]
 refine loopK.intro _ _ (I := fun i : Nat => ⟨[none, some (.ptr ⟨L + 1, 0⟩ 0 0), none, none, none, none, none, some (.fs 1 (xs.map eI)), some (.int .i64 xs.length), some (.int .i64 i)] ++ oz 80, [(⟨L + 1, 0⟩, .rows 159 5 true true [[.int .i64 kind, .int .i64 num, .int .i64 last, .int .i64 res, .fs 1 (xs.map eI)]])], 10000 * (i + 1)⟩) (pre := fun i => i ≤ xs.length ∧ ∀ j, j < i → (serB 16 (xs.getD j 0) && (j == 0 || decide (xs.getD (j - 1) 0 < xs.getD j 0))) = true) (μ := fun i => xs.length - i) 0 ⟨by omega, by intro j h; omega⟩ ?_ ?_
 ·exact Sub.of (hfz hF2) (by simp only [go_sem, subT, and_self, List.length_map, Int.natCast_zero]) (by simp [subH, Tx.look]) (by simp only [go_sem, subK, and_self, true_or, or_true, List.not_mem_nil, List.mem_cons]) (by simp)
 ·rintro i ⟨hi, hp⟩
  by_cases hlt : i < xs.length
  ·have f1 : decide ((i : Int) < (xs.length : Int)) = true := dT (by omega)
   have r0 := getD_eI xs hlt
   have r1 := getD_eI xs (i := i - 1) (by omega)
   have e1 : ((i : Int) - 1).toNat = i - 1 := by omega
   have no : (serB 16 (xs.getD i 0) && (i == 0 || decide (xs.getD (i - 1) 0 < xs.getD i 0))) = false → resetV kind num last res xs = false := by
    intro h
    unfold resetV
    have : incB xs = false := by
     unfold incB
     rw [List.all_eq_false]
     exact ⟨i, by simpa using hlt, by rw [h]; decide⟩
    rw [this]; rfl
   have yes : (serB 16 (xs.getD i 0) && (i == 0 || decide (xs.getD (i - 1) 0 < xs.getD i 0))) = true → ∀ j, j < i + 1 → (serB 16 (xs.getD j 0) && (j == 0 || decide (xs.getD (j - 1) 0 < xs.getD j 0))) = true := by
    intro h j hj
    by_cases he : j = i
    ·subst he; exact h
    ·exact hp j (by omega)
   have go : ∀ j, (1 ≤ j → True) → True := fun _ _ => trivial
   cases hs : serB 16 (xs.getD i 0) with
   | false =>
    simp only [f1, r0, eI, List.length_map, go_sem]
    repeat refine sd1 ?_
    refine CallVC.pure (args2 := [_, .fs 1 ([xs.getD i 0].map eI)]) ⟨rfl, by simp [Wk, eI, nB], trivial⟩ (small_ok 16 [xs.getD i 0] (by omega) (by omega) (by simp)) rfl ?_
    simp only [hs, go_sem]
    exact .bool (.inr rfl) rfl (no (by rw [hs]; rfl)).symm (by simp [UpdAll])
   | true =>
    rcases Nat.eq_zero_or_pos i with h0 | h0
    ·have f2 : decide ((0 : Int) < (i : Int)) = false := dF (by omega)
     simp only [f1, r0, eI, List.length_map, go_sem]
     repeat refine sd1 ?_
     refine CallVC.pure (args2 := [_, .fs 1 ([xs.getD i 0].map eI)]) ⟨rfl, by simp [Wk, eI, nB], trivial⟩ (small_ok 16 [xs.getD i 0] (by omega) (by omega) (by simp)) rfl ?_
     simp only [hs, f2, go_sem]
     repeat refine sd1 ?_
     refine ⟨i + 1, ⟨by omega, yes (by rw [hs, h0]; rfl)⟩, by omega, ?_⟩
     exact Sub.of (hfz hF2) (by simp only [go_sem, subT, and_self, Int.natCast_succ]) (by simp [subH, Tx.look]) (by simp only [go_sem, subK, and_self, true_or, or_true, List.not_mem_nil, List.mem_cons]) (by simp only []; omega)
    ·have f2 : decide ((0 : Int) < (i : Int)) = true := dT (by omega)
     have hq : (i == 0) = false := by simp; omega
     rcases Int.lt_or_le (xs.getD (i - 1) 0) (xs.getD i 0) with hc | hc
     ·have f3 : decide (xs.getD i 0 ≤ xs.getD (i - 1) 0) = false := dF (by omega)
      simp only [f1, r0, eI, List.length_map, go_sem]
      repeat refine sd1 ?_
      refine CallVC.pure (args2 := [_, .fs 1 ([xs.getD i 0].map eI)]) ⟨rfl, by simp [Wk, eI, nB], trivial⟩ (small_ok 16 [xs.getD i 0] (by omega) (by omega) (by simp)) rfl ?_
      simp only [hs, f2, f3, r1, e1, eI, List.length_map, Nat.add_zero, go_sem]
      repeat refine sd1 ?_
      refine ⟨i + 1, ⟨by omega, yes (by rw [hs, hq, dT hc]; rfl)⟩, by omega, ?_⟩
      exact Sub.of (hfz hF2) (by simp only [go_sem, subT, and_self, Int.natCast_succ]) (by simp [subH, Tx.look]) (by simp only [go_sem, subK, and_self, true_or, or_true, List.not_mem_nil, List.mem_cons]) (by simp only []; omega)
     ·have f3 : decide (xs.getD i 0 ≤ xs.getD (i - 1) 0) = true := dT hc
      simp only [f1, r0, eI, List.length_map, go_sem]
      repeat refine sd1 ?_
      refine CallVC.pure (args2 := [_, .fs 1 ([xs.getD i 0].map eI)]) ⟨rfl, by simp [Wk, eI, nB], trivial⟩ (small_ok 16 [xs.getD i 0] (by omega) (by omega) (by simp)) rfl ?_
      simp only [hs, f2, f3, r1, e1, eI, List.length_map, Nat.add_zero, go_sem]
      repeat refine sd1 ?_
      exact .bool (.inr rfl) rfl (no (by rw [hs, hq, dF (show ¬ xs.getD (i - 1) 0 < xs.getD i 0 by omega)]; rfl)).symm (by simp [UpdAll])
  ·have f1 : decide ((i : Int) < (xs.length : Int)) = false := dF (by omega)
   have hinc : incB xs = true := by
    unfold incB
    rw [List.all_eq_true]
    intro j hj
    exact hp j (by simp at hj; omega)
   have hl0 : ((xs.length : Int) == 0) = xs.isEmpty := by cases xs <;> simp; omega
   have hl1 : decide ((xs.length : Int) ≥ 1) = decide (1 ≤ xs.length) := by simp; omega
   have hl1' : decide ((1 : Int) ≤ (xs.length : Int)) = decide (1 ≤ xs.length) := by simp; omega
   have hl30 : decide ((xs.length : Int) ≤ 30) = decide (xs.length ≤ 30) := by simp; omega
   have hV : resetV kind num last res xs = ((serB 32 num && serB 32 last) && (serB 8 res && (if (kind == 2) = true then last == 0 && xs.isEmpty else kind == 1 && res == 0 && decide (1 ≤ xs.length) && decide (xs.length ≤ 30)))) := by
    unfold resetV
    rw [hinc]
    simp [Bool.and_assoc]
   rw [hV]
   simp only [f1, Nat.add_zero, go_sem]
   refine CallVC.pure (args2 := [_, .fs 1 ([num, last].map eI)]) ⟨rfl, by simp [Wk, eI, nB], trivial⟩ (small_ok 32 [num, last] (by omega) (by omega) (by simp)) rfl ?_
   cases h32 : (serB 32 num && serB 32 last) with
   | false =>
    simp only [h32, go_sem]
    exact .bool (.inr rfl) rfl rfl (by simp [UpdAll])
   | true =>
    simp only [h32, Nat.add_zero, go_sem]
    refine CallVC.pure (args2 := [_, .fs 1 ([res].map eI)]) ⟨rfl, by simp [Wk, eI, nB, Tx.look, Nat.add_assoc], trivial⟩ (small_ok 8 [res] (by omega) (by omega) (by simp)) rfl ?_
    cases h8 : serB 8 res with
    | false =>
     simp only [h8, go_sem]
     exact .bool (.inr rfl) rfl rfl (by simp [UpdAll])
    | true =>
     cases hk : (kind == 2) with
     | true =>
      cases hla : (last == 0) with
      | true =>
       simp only [h8, hk, hla, hl0, List.length_map, Nat.add_zero, go_sem]
       exact .bool (.inr rfl) rfl rfl (by simp [UpdAll])
      | false =>
       simp only [h8, hk, hla, Nat.add_zero, go_sem]
       exact .bool (.inr rfl) rfl rfl (by simp [UpdAll])
     | false =>
      cases hk1 : (kind == 1) with
      | false =>
       simp only [h8, hk, hk1, Nat.add_zero, go_sem]
       exact .bool (.inr rfl) rfl rfl (by simp [UpdAll])
      | true =>
       cases hr : (res == 0) with
       | false =>
        simp only [h8, hk, hk1, hr, Nat.add_zero, go_sem]
        exact .bool (.inr rfl) rfl rfl (by simp [UpdAll])
       | true =>
        cases ho : decide (1 ≤ xs.length) with
        | false =>
         simp only [h8, hk, hk1, hr, hl1, ho, List.length_map, Nat.add_zero, go_sem]
         exact .bool (.inr rfl) rfl rfl (by simp [UpdAll])
        | true =>
         simp only [h8, hk, hk1, hr, hl1, ho, hl30, List.length_map, Nat.add_zero, go_sem]
         exact .bool (.inr rfl) rfl rfl (by simp [UpdAll])
theorem bput_call {F : SF} {L nx : Nat} {K : PV → List (Nm × SBlk) → List Nm → Nat → Prop} (n : Nm) (hn : n.l < L ∨ (n.l = L ∧ n.i < nx)) (b : Option Nm) (hm : bldL L nx b) (t : List UInt8) (k : Nat) (kk : Int) (hkk : kk = k) (hk1 : 1 ≤ k) (hk2 : k ≤ 7) (vs : List Nat) (hv : ∀ v ∈ vs, v < 256 ^ k) (hv0 : vs ≠ []) (hvl : t.length + vs.length * 7 ≤ 1000000)
  (m : Nm) (l : Nat) (hl : l = vs.length) (hFm : F m = some (.rows 3 1 true true (vs.map eN))) (hmn : n ≠ m) (hmb : b ≠ some m) (hb : bldF F n 130 b t) (t2 : List UInt8) (ht2 : t2 = t ++ vs.flatMap (putB k))
  (hk : K (.tup []) ([(m, .rows 3 1 false true (vs.map eN))] ++ (bldD b ++ bldU n 130 ⟨L, nx⟩ t2)) ([m] ++ bldR n b) (nx + 1)) : CallVC Tryz.prog 64 [.ptr n 0 0, .int .i64 kk, .sl m 0 l] F L nx K := by
 subst hkk; subst hl; subst ht2
 have e1 : wkNL [.ptr n 0 0, .int .i64 (k : Int), .sl m 0 vs.length] [.ptr n 0 0, .int .i64 (k : Int), .fs 1 (vs.map eN)] = [m] := by simp [wkNL, wkN]
 have e2 : unown F [m] = [(m, .rows 3 1 false true (vs.map eN))] := by simp [unown, hFm]
 refine CallVC.gen (args2 := [.ptr n 0 0, .int .i64 (k : Int), .fs 1 (vs.map eN)]) ?_ (bput_ok n hn b hm t k hk1 hk2 vs hv hv0 hvl ?_) ?_
 ·simp [Wk, WkL, hFm, List.take_of_length_le]
 ·rw [e1, e2]
  have hx : ∀ q, q ≠ m → (F.upd [(m, .rows 3 1 false true (vs.map eN))]) q = F q := by intro q hq; simp [SF.upd, SF.set, hq]
  cases b with
  | none => exact ⟨hb.1, hb.2.imp fun p h => (hx n hmn).trans h⟩
  | some m2 => exact ⟨hb.1, (hx n hmn).trans hb.2.1, (hx m2 (fun e => hmb (by rw [e]))).trans hb.2.2.1, hb.2.2.2⟩
 ·rw [e1, e2]; exact hk
theorem resetWrite2_ok {F : SF} {L nx : Nat} (n : Nm) (hn : n.l < L ∨ (n.l = L ∧ n.i < nx)) (num res : Nat) (last : Int) (xs : List Int) (h1 : num < 2 ^ 32) (h2 : res < 256) (hlen : xs.length ≤ 1000) (hb : bldF F n 130 none []) :
  Con Tryz.prog 204 [rstP 2 num last res (.fs 1 (xs.map eI)), .ptr n 0 0] F L nx (nx + 1) (.tup [.int .i64 130, .int .i64 0]) (bldU n 130 ⟨L, nx⟩ (putB 1 2 ++ putB 4 num ++ putB 1 res)) [n] := by
 refine bdyN Tryz.f204 (hrd := (by simp; omega)) ?_
 intro F3 hF1 hF2
 have hFb : bldF F3 n 130 none [] := ⟨rfl, hb.2.imp fun p h => (hF1 n (by simp)).trans h⟩
 have n1 : ∀ k, (n = (⟨L + 1, k⟩ : Nm)) = False := nm_out (by omega)
 have n2 : ∀ k, ((⟨L + 1, k⟩ : Nm) = n) = False := nm_out' (by omega)
 simp only [Tryz.f204, cx, rstP, Nat.add_zero, go_sem, meths]
 obtain ⟨t1, e1⟩ : ∃ t, t = putB 1 2 := ⟨_, rfl⟩
 obtain ⟨t2, e2⟩ : ∃ t, t = t1 ++ putB 4 num := ⟨_, rfl⟩
 obtain ⟨t3, e3⟩ : ∃ t, t = t2 ++ putB 1 res := ⟨_, rfl⟩
 have l1 : t1.length = 1 := by rw [e1, putB_len]
 have l2 : t2.length = 5 := by rw [e2, List.length_append, putB_len, l1]
 have z1 : t1 ≠ [] := by intro h; rw [h] at l1; simp at l1
 have z2 : t2 ≠ [] := by intro h; rw [h] at l2; simp at l2
 rw [← e1, ← e2, ← e3]
 refine bput_call n (.inl (show n.l < L + 1 by omega)) none trivial [] 1 1 rfl (by omega) (by omega) [2] (by simp) (by simp) (by simp) ⟨L + 1, 224⟩ 1 rfl (by simp [eN]) (by intro h; rw [n1] at h; exact h) (by simp) ⟨rfl, hFb.2.imp fun p h => by simp [h, n1]⟩ t1 (by simp [e1]) ?_
 simp only [bldD, bldU, n1, n2, Nat.add_zero, go_sem]
 refine bput_call n (.inl (show n.l < L + 1 by omega)) (some ⟨L + 1, 256⟩) (.inr ⟨rfl, by simp⟩) t1 4 4 rfl (by omega) (by omega) [num] (by simpa using h1) (by simp) (by simp; omega) ⟨L + 1, 385⟩ 1 rfl (by simp [eN, n2]) (by intro h; rw [n1] at h; exact h) (by simp) ⟨z1, by simp [n1], by simp [n2], by simp [n2]⟩ t2 (by simp [e2]) ?_
 simp only [bldD, bldU, n1, n2, Nat.add_zero, go_sem]
 refine bput_call n (.inl (show n.l < L + 1 by omega)) (some ⟨L + 1, 417⟩) (.inr ⟨rfl, by simp⟩) t2 1 1 rfl (by omega) (by omega) [res] (by simpa using h2) (by simp) (by simp; omega) ⟨L + 1, 674⟩ 1 rfl (by simp [eN, n2]) (by intro h; rw [n1] at h; exact h) (by simp) ⟨z2, by simp [n1], by simp [n2], by simp [n2]⟩ t3 (by simp [e3]) ?_
 simp only [bldD, bldU, n1, n2, go_sem]
 refine .now (PostN.val [706] (.inr rfl) (by simp) (p := True) (v0 := .tup [.int .i64 130, .int .i64 0]) ?_ trivial ?_ ?_ ⟨by omega, ?_, Nat.le_refl _, ?_, trivial⟩ ?_)
 ·simp only [resVal, resVals, resVal1, one, go_sem]
 ·simp [nmA, nmAL]
 ·simp [Tx.rn, Tx.rnL]
 ·rw [kp_out (hn.imp id fun h => .inl h.2)]
  exact .ren (by simp [Tx.look, n1]; rfl) (by simp [rowsNm, nmA, nmAL, Dn]; omega) (by simp [Tx.rn, Tx.rnL, sg_out (show n.l ≤ L by omega)]; simp [sg])
 ·rw [kp_at0 (by simp)]
  exact .pure (by simp [Tx.look, n2])
 ·simp [UpdAll, keys]
theorem resetWrite1_ok {F : SF} {L nx : Nat} (n : Nm) (hn : n.l < L ∨ (n.l = L ∧ n.i < nx)) (num last : Nat) (res : Int) (xs : List Nat) (h1 : num < 2 ^ 32) (h2 : last < 2 ^ 32) (hx : ∀ x ∈ xs, x < 256 ^ 2) (hx0 : xs ≠ []) (hlen : xs.length ≤ 1000) (hb : bldF F n 130 none []) :
  Con Tryz.prog 204 [rstP 1 num last res (.fs 1 (xs.map eN)), .ptr n 0 0] F L nx (nx + 1) (.tup [.int .i64 130, .int .i64 0]) (bldU n 130 ⟨L, nx⟩ (putB 1 1 ++ putB 4 num ++ (putB 4 last ++ xs.flatMap (putB 2)))) [n] := by
 refine bdyN Tryz.f204 (hrd := (by simp; omega)) ?_
 intro F3 hF1 hF2
 have hFb : bldF F3 n 130 none [] := ⟨rfl, hb.2.imp fun p h => (hF1 n (by simp)).trans h⟩
 have n1 : ∀ k, (n = (⟨L + 1, k⟩ : Nm)) = False := nm_out (by omega)
 have n2 : ∀ k, ((⟨L + 1, k⟩ : Nm) = n) = False := nm_out' (by omega)
 have f12 : ((1 : Int) == 2) = false := rfl
 simp only [Tryz.f204, cx, rstP, Nat.add_zero, go_sem, meths]
 obtain ⟨t1, e1⟩ : ∃ t, t = putB 1 1 := ⟨_, rfl⟩
 obtain ⟨t2, e2⟩ : ∃ t, t = t1 ++ putB 4 num := ⟨_, rfl⟩
 obtain ⟨t3, e3⟩ : ∃ t, t = t2 ++ putB 4 last := ⟨_, rfl⟩
 obtain ⟨t4, e4⟩ : ∃ t, t = t3 ++ xs.flatMap (putB 2) := ⟨_, rfl⟩
 have l1 : t1.length = 1 := by rw [e1, putB_len]
 have l2 : t2.length = 5 := by rw [e2, List.length_append, putB_len, l1]
 have l3 : t3.length = 9 := by rw [e3, List.length_append, putB_len, l2]
 have z1 : t1 ≠ [] := by intro h; rw [h] at l1; simp at l1
 have z2 : t2 ≠ [] := by intro h; rw [h] at l2; simp at l2
 have z3 : t3 ≠ [] := by intro h; rw [h] at l3; simp at l3
 rw [← e1, ← e2, ← List.append_assoc, ← e3, ← e4]
 refine bput_call n (.inl (show n.l < L + 1 by omega)) none trivial [] 1 1 rfl (by omega) (by omega) [1] (by simp) (by simp) (by simp) ⟨L + 1, 224⟩ 1 rfl (by simp [eN]) (by intro h; rw [n1] at h; exact h) (by simp) ⟨rfl, hFb.2.imp fun p h => by simp [h, n1]⟩ t1 (by simp [e1]) ?_
 simp only [bldD, bldU, n1, n2, Nat.add_zero, go_sem]
 refine bput_call n (.inl (show n.l < L + 1 by omega)) (some ⟨L + 1, 256⟩) (.inr ⟨rfl, by simp⟩) t1 4 4 rfl (by omega) (by omega) [num] (by simpa using h1) (by simp) (by simp; omega) ⟨L + 1, 385⟩ 1 rfl (by simp [eN, n2]) (by intro h; rw [n1] at h; exact h) (by simp) ⟨z1, by simp [n1], by simp [n2], by simp [n2]⟩ t2 (by simp [e2]) ?_
 simp only [bldD, bldU, n1, n2, f12, Nat.add_zero, go_sem]
 refine bput_call n (.inl (show n.l < L + 1 by omega)) (some ⟨L + 1, 417⟩) (.inr ⟨rfl, by simp⟩) t2 4 4 rfl (by omega) (by omega) [last] (by simpa using h2) (by simp) (by simp; omega) ⟨L + 1, 674⟩ 1 rfl (by simp [eN, n2]) (by intro h; rw [n1] at h; exact h) (by simp) ⟨z2, by simp [n1], by simp [n2], by simp [n2]⟩ t3 (by simp [e3]) ?_
 simp only [bldD, bldU, n1, n2, Nat.add_zero, go_sem]
 refine CallVC.same (bput_ok n (.inl (show n.l < L + 1 by omega)) (some ⟨L + 1, 706⟩) (.inr ⟨rfl, by simp⟩) t3 2 (by omega) (by omega) xs hx hx0 (by omega) ⟨z3, by simp [n1], by simp [n2], by simp [n2]⟩) ?_
 rw [← e4]
 simp only [bldD, bldU, n1, n2, go_sem]
 refine .now (PostN.val [835] (.inr rfl) (by simp) (p := True) (v0 := .tup [.int .i64 130, .int .i64 0]) ?_ trivial ?_ ?_ ⟨by omega, ?_, Nat.le_refl _, ?_, trivial⟩ ?_)
 ·simp only [resVal, resVals, resVal1, one, go_sem]
 ·simp [nmA, nmAL]
 ·simp [Tx.rn, Tx.rnL]
 ·rw [kp_out (hn.imp id fun h => .inl h.2)]
  exact .ren (by simp [Tx.look, n1]; rfl) (by simp [rowsNm, nmA, nmAL, Dn]; omega) (by simp [Tx.rn, Tx.rnL, sg_out (show n.l ≤ L by omega)]; simp [sg])
 ·rw [kp_at0 (by simp)]
  exact .pure (by simp [Tx.look, n2])
 ·simp [UpdAll, keys]
theorem serB_nat {b x : Int} (h : serB b x = true) : x = (x.toNat : Int) ∧ x.toNat < 2 ^ b.toNat := by
 simp only [serB, Bool.and_eq_true, decide_eq_true_eq] at h
 have e : ((x.toNat : Nat) : Int) = x := by omega
 refine ⟨e.symm, ?_⟩
 have h2 := h.2
 rw [← e] at h2
 exact_mod_cast h2
theorem putBad_ok {F : SF} {L nx : Nat} (ty : TypeId) (v : PV) (fv : FuncId) (h1 : Meths.get meths ty "tannoy/chunk.valid" = some fv) (hv : ∀ (F : SF) (L nx : Nat), Con Tryz.prog fv [v] F L nx nx (.bool false) [] []) :
  Con Tryz.prog 78 [.ifc ty v] F L nx nx (.tup [.agg [.int .i64 0, .int .i64 0, .str []], .int .i64 320]) [] [] := by
 refine bdy Tryz.f78 ?_
 intro F3 hF1 hF2
 simp only [Tryz.f78, cx, h1, go_sem]
 refine CallVC.same (hv _ _ _) ?_
 simp only [go_sem]
 exact PostF.same (p := True) (.inr rfl) (by simp only [resVal, resVals, resVal1, one, go_sem]) trivial (by simp [Tx.nf, nfl]) (by simp [UpdAll])
theorem putGood_ok {F : SF} {L nx : Nat} (ty : TypeId) (v : PV) (fv fw : FuncId) (h1 : Meths.get meths ty "tannoy/chunk.valid" = some fv) (h2 : Meths.get meths ty "tannoy/chunk.write" = some fw) (hv : ∀ (F : SF) (L nx : Nat), Con Tryz.prog fv [v] F L nx nx (.bool true) [] [])
  (kind flags : Int) (t : List UInt8) (ht : t ≠ []) (htl : t.length ≤ 1000000) (hw : ∀ (F : SF) (L nx : Nat) (n : Nm), (n.l < L ∨ (n.l = L ∧ n.i < nx)) → bldF F n 130 none [] → Con Tryz.prog fw [v, .ptr n 0 0] F L nx (nx + 1) (.tup [.int .i64 kind, .int .i64 flags]) (bldU n 130 ⟨L, nx⟩ t) [n]) :
  Con Tryz.prog 78 [.ifc ty v] F L nx nx (.tup [.agg [.int .i64 kind, .int .i64 flags, .str t], .int .i64 0]) [] [] := by
 refine bdy Tryz.f78 ?_
 intro F3 hF1 hF2
 simp only [Tryz.f78, cx, h1, go_sem]
 refine CallVC.same (hv _ _ _) ?_
 simp only [h2, go_sem]
 refine CallVC.same (hw _ _ _ ⟨L + 1, 128⟩ (by simp) ⟨rfl, true, by simp⟩) ?_
 simp only [bldU, Nat.add_zero, go_sem]
 refine CallVC.same (bString_ok ⟨L + 1, 128⟩ 130 (by simp) ⟨L + 1, 192⟩ (by simp) t htl ⟨ht, by simp, by simp, by simp⟩) ?_
 simp only [go_sem]
 exact PostF.same (p := True) (.inr rfl) (by simp only [resVal, resVals, resVal1, one, go_sem]) trivial (by simp [Tx.nf, nfl]) (by simp [UpdAll])
theorem meths160v : Meths.get meths 159 "tannoy/chunk.valid" = some 203 := by simp [Meths.get, meths]
theorem meths160w : Meths.get meths 159 "tannoy/chunk.write" = some 204 := by simp [Meths.get, meths]
theorem incB_all {xs : List Int} (h : incB xs = true) : ∀ x ∈ xs, serB 16 x = true := by
 intro x hx
 obtain ⟨i, hi, rfl⟩ := List.getElem_of_mem hx
 unfold incB at h
 rw [List.all_eq_true] at h
 have := h i (by simpa using hi)
 simp only [Bool.and_eq_true] at this
 simpa [List.getD_eq_getElem?_getD, hi] using this.1
def resetB (kind num last res : Int) (xs : List Int) : List UInt8 :=
 if kind = 2 then putB 1 2 ++ putB 4 num.toNat ++ putB 1 res.toNat else putB 1 1 ++ putB 4 num.toNat ++ (putB 4 last.toNat ++ (xs.map Int.toNat).flatMap (putB 2))
theorem putReset_ok {F : SF} {L nx : Nat} (kind num last res : Int) (xs : List Int) (hlen : xs.length ≤ 1000000) :
  Con Tryz.prog 38 [rstP kind num last res (.fs 1 (xs.map eI))] F L nx nx
   (if resetV kind num last res xs then .tup [.agg [.int .i64 130, .int .i64 0, .str (resetB kind num last res xs)], .int .i64 0] else .tup [.agg [.int .i64 0, .int .i64 0, .str []], .int .i64 320]) [] [] := by
 have hva : ∀ (F : SF) (L nx : Nat), Con Tryz.prog 203 [rstP kind num last res (.fs 1 (xs.map eI))] F L nx nx (.bool (resetV kind num last res xs)) [] [] := fun F L nx => resetValid_ok kind num last res xs hlen
 cases hV : resetV kind num last res xs with
 | false =>
  rw [hV] at hva
  simp only [if_false, Bool.false_eq_true]
  refine bdy Tryz.f38 ?_
  intro F3 hF1 hF2
  simp only [Tryz.f38, cx, rstP, go_sem, meths]
  refine CallVC.same (putBad_ok 159 _ 203 meths160v hva) ?_
  simp only [go_sem]
  exact PostF.same (p := True) (.inr rfl) (by simp only [resVal, resVals, resVal1, one, go_sem]) trivial (by simp [Tx.nf, nfl]) (by simp [UpdAll])
 | true =>
  rw [hV] at hva
  simp only [if_true]
  have hw : ∀ (F : SF) (L nx : Nat) (n : Nm), (n.l < L ∨ (n.l = L ∧ n.i < nx)) → bldF F n 130 none [] → Con Tryz.prog 204 [rstP kind num last res (.fs 1 (xs.map eI)), .ptr n 0 0] F L nx (nx + 1) (.tup [.int .i64 130, .int .i64 0]) (bldU n 130 ⟨L, nx⟩ (resetB kind num last res xs)) [n] := by
   intro F L nx n hn hb
   unfold resetV at hV
   simp only [Bool.and_eq_true] at hV
   obtain ⟨⟨⟨⟨hi, h1⟩, h2⟩, h3⟩, h4⟩ := hV
   obtain ⟨e1, b1⟩ := serB_nat h1
   obtain ⟨e2, b2⟩ := serB_nat h2
   obtain ⟨e3, b3⟩ := serB_nat h3
   unfold resetB
   by_cases hk : kind = 2
   ·subst hk
    rw [if_pos rfl] at h4 ⊢
    have hx : xs = [] := by simp at h4; exact h4.2
    subst hx
    have := resetWrite2_ok (F := F) (L := L) (nx := nx) n hn num.toNat res.toNat last [] b1 (by simpa using b3) (by simp) hb
    rw [← e1, ← e3] at this
    exact this
   ·rw [if_neg hk] at h4 ⊢
    simp only [Bool.and_eq_true, beq_iff_eq, decide_eq_true_eq] at h4
    obtain ⟨⟨⟨rfl, h5⟩, h6⟩, h7⟩ := h4
    have hall := incB_all hi
    have ex : xs.map eI = (xs.map Int.toNat).map eN := by
     rw [List.map_map]
     apply List.map_congr_left
     intro x hx
     have := (serB_nat (hall x hx)).1
     simp only [Function.comp, eN, eI]
     rw [← this]
    rw [ex]
    have := resetWrite1_ok (F := F) (L := L) (nx := nx) n hn num.toNat last.toNat res (xs.map Int.toNat) b1 b2 (by
     intro x hx
     obtain ⟨y, hy, rfl⟩ := List.mem_map.1 hx
     have := (serB_nat (hall y hy)).2
     simpa using this) (by intro h; simp at h; subst h; simp at h6) (by simp; omega) hb
    rw [← e1, ← e2] at this
    exact this
  refine bdy Tryz.f38 ?_
  intro F3 hF1 hF2
  simp only [Tryz.f38, cx, rstP, go_sem, meths]
  refine CallVC.same (putGood_ok 159 _ 203 204 meths160v meths160w hva 130 0 (resetB kind num last res xs) ?_ ?_ hw) ?_
  ·intro h
   have := congrArg List.length h
   unfold resetB at this
   split at this <;> simp [putB_len] at this
  ·unfold resetB
   unfold resetV at hV
   simp only [Bool.and_eq_true] at hV
   have h30 : kind ≠ 2 → xs.length ≤ 30 := by
    intro hk
    have := hV.2
    rw [if_neg hk] at this
    simp at this; omega
   split
   ·simp [putB_len]
   ·rename_i hk
    have := h30 hk
    simp only [List.length_append, putB_len, flat_len, List.length_map]; omega
  simp only [go_sem]
  exact PostF.same (p := True) (.inr rfl) (by simp only [resVal, resVals, resVal1, one, go_sem]) trivial (by simp [Tx.nf, nfl]) (by simp [UpdAll])
end Go.Proofs.YtaacfnngodhecaaGreatDoor
end
