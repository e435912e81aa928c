/- Lemmas for the walk: GK76, GK77, GD35, GK79, GK78, GK80, GK81, GK82, GD36, GK83, GK84. -/
import Derived.Test.YtifhjhbfhdcahaaGreatP14
import Derived.Test.YtifhjhbfhdcahaaGreatP11
import Derived.Test.YtifhjhbfhdcahaaGreatP12
set_option linter.all false
section
namespace Go.Proofs.YtifhjhbfhdcahaaGreat
open Go.Tx
set_option maxRecDepth 100000
set_option maxHeartbeats 16000000
theorem zE4 (l : List Nat) : nfl (l.map eW) = true := by
 induction l with
 | nil => rfl
 | cons a r ih => rw [zK]; simp only [nfl, eW, Tx.nf, wX]; exact ih
theorem zGO (a b : List PV) : nfl (a ++ b) = (nfl a && nfl b) := by
 induction a with
 | nil => rfl
 | cons x a ih => rw [zH]; simp only [nfl, ih, Bool.and_assoc]
theorem zOv {F : SF} {L nx : Nat} : Con Tryz.prog 128 [] F L nx nx (.agg (hT.map eW ++ kT.map eW)) [] [] := by
 have hc := fun F L nx => zID (F := F) (L := L) (nx := nx)
 have l8 : (hT.map eW).length = 8 := by rw [zL]; rfl
 have l64 : (kT.map eW).length = 64 := by rw [zL]; rfl
 have n8 := zE4 hT;have n64 := zE4 kT;generalize hT.map eW = h at *;generalize kT.map eW = k at *;refine bdy Tryz.f128 ?_;intro F3 hF1 hF2;simp only [Tryz.f128, go_sem];refine CallVC.same (hc _ _ _) ?_;simp only [l8, l64, n8, n64, go_sem];repeat refine sd2 ?_
 generalize hy : ([.int .u32 0, .int .u32 0, .int .u32 0, .int .u32 0, .int .u32 0, .int .u32 0, .int .u32 0, .int .u32 0, .int .u32 0, .int .u32 0, .int .u32 0, .int .u32 0, .int .u32 0, .int .u32 0, .int .u32 0, .int .u32 0, .int .u32 0, .int .u32 0, .int .u32 0, .int .u32 0, .int .u32 0, .int .u32 0, .int .u32 0, .int .u32 0, .int .u32 0, .int .u32 0, .int .u32 0, .int .u32 0, .int .u32 0, .int .u32 0, .int .u32 0, .int .u32 0, .int .u32 0, .int .u32 0, .int .u32 0, .int .u32 0, .int .u32 0, .int .u32 0, .int .u32 0, .int .u32 0, .int .u32 0, .int .u32 0, .int .u32 0, .int .u32 0, .int .u32 0, .int .u32 0, .int .u32 0, .int .u32 0, .int .u32 0, .int .u32 0, .int .u32 0, .int .u32 0, .int .u32 0, .int .u32 0, .int .u32 0, .int .u32 0, .int .u32 0, .int .u32 0, .int .u32 0, .int .u32 0, .int .u32 0, .int .u32 0, .int .u32 0, .int .u32 0, .int .u32 0, .int .u32 0, .int .u32 0, .int .u32 0, .int .u32 0, .int .u32 0, .int .u32 0, .int .u32 0] : List PV) = y;have ly : y.length = 72 := by rw [← hy]; rfl
 generalize hz : ([.int .u32 0, .int .u32 0, .int .u32 0, .int .u32 0, .int .u32 0, .int .u32 0, .int .u32 0, .int .u32 0, .int .u32 0, .int .u32 0, .int .u32 0, .int .u32 0, .int .u32 0, .int .u32 0, .int .u32 0, .int .u32 0, .int .u32 0, .int .u32 0, .int .u32 0, .int .u32 0, .int .u32 0, .int .u32 0, .int .u32 0, .int .u32 0, .int .u32 0, .int .u32 0, .int .u32 0, .int .u32 0, .int .u32 0, .int .u32 0, .int .u32 0, .int .u32 0, .int .u32 0, .int .u32 0, .int .u32 0, .int .u32 0, .int .u32 0, .int .u32 0, .int .u32 0, .int .u32 0, .int .u32 0, .int .u32 0, .int .u32 0, .int .u32 0, .int .u32 0, .int .u32 0, .int .u32 0, .int .u32 0, .int .u32 0, .int .u32 0, .int .u32 0, .int .u32 0, .int .u32 0, .int .u32 0, .int .u32 0, .int .u32 0, .int .u32 0, .int .u32 0, .int .u32 0, .int .u32 0, .int .u32 0, .int .u32 0, .int .u32 0, .int .u32 0] : List PV) = z;have lz : z.length = 64 := by rw [← hz]; rfl
 have e1 : List.take 8 (h ++ z) = h := by rw [uD (by omega), zU (by omega)]
 have e2 : List.drop 72 (h ++ z) = [] := vV (by rw [zQ]; omega);have e3 : (h ++ k).length = 72 := by rw [zQ]; omega
 have e4 : List.drop 72 y = [] := vV (by omega);have e5 : nfl (h ++ k) = true := by rw [zGO, n8, n64]; rfl
 have e6 : List.take 8 (h ++ k) = h := by rw [uD (by omega), zU (by omega)]
 have e7 : List.drop 8 (h ++ k) = k := by rw [qA (by omega), vV (by omega), zD]
 have e8 : List.take 64 k = k := zU (by omega);simp only [e1, e2, vQ, e3, e4, e5];refine ⟨by rw [zQ]; omega, trivial, ?_⟩;exact ps0 (hf := by simp [Tx.nf, e5])
theorem zOw {F : SF} {L nx : Nat} (n : Nm) (hn : n.l ≤ L) (o p : Bool) (l : List (List UInt8)) (hl : l.length ≤ 1000000) (hs : ∀ s ∈ l, s.length ≤ 4096) (hF : F n = some (.rows 9 1 o p (l.map fun s => [.str s]))) : Con Tryz.prog 127 [.sl n 0 l.length] F L nx nx (.bool false) [] [n] := by
 refine bdy Tryz.f127 (hrd := (by simp; omega)) ?_;intro F3 hF1 hF2;simp only [Tryz.f127, go_sem];repeat refine sd2 ?_
 have hFn : F3 n = some (.rows 9 1 o p (l.map fun s => [.str s])) := (hF1 n (by simp)).trans hF;refine loopK.intro _ _ (I := fun i : Nat => ⟨[some (.sl n 0 l.length), none, some (.bool false), none, none, some (.sl n 0 l.length), some (.int .i64 l.length), some (.int .i64 i)] ++ oz 7, [], 10000 * (i + 1)⟩) (pre := fun i => i ≤ l.length) (μ := fun i => l.length - i) 0 (by omega) ?_ ?_
 ·refine Sub.of (hfz hF2) (by simp only [go_sem, zBF]; try trivial) ?_ (by simp [zBL]) (by simp);simp [zA7]
 intro i hi;by_cases hlt : i < l.length
 ·have g1 : decide ((i : Int) < (l.length : Int)) = true := dT (by omega);have hget : ((l.map fun s => [PV.str s]).getD i []).getD 0 (.tup []) = .str l[i] := by simp [hlt, zG]
  have hll : (l.map fun s => [PV.str s]).length = l.length := zL ..;have hsi := hs l[i] (uU hlt);have g2 : decide (((l[i].length : Nat) : Int) > 4096) = false := dF (by omega);have g2' : decide ((4096 : Int) < ((l[i].length : Nat) : Int)) = false := dF (by omega);simp only [g1, g2, hFn, hget, hll, zI, go_sem];repeat refine sd2 ?_
  refine ⟨i + 1, by omega, by omega, ?_⟩;refine Sub.of (hfz hF2) (by simp only [go_sem, zBF, and_self, wJ]; try trivial) ?_ (by simp [zBL]) (by simp only []; omega);simp [zA7]
 ·obtain rfl : i = l.length := by omega
  have g1 : decide ((l.length : Int) < (l.length : Int)) = false := dF (by omega);simp only [g1, zI, go_sem];exact .bool (.inr rfl) rfl rfl (by simp [UpdAll])
theorem zKV {F : SF} {L nx : Nat} (s : List UInt8) (hs : s.length ≤ 1000000) : Con Tryz.prog 165 [.str s] F L nx nx (.str s) [] [] := by
 cases s with
 | nil =>
  have e1 : (((0 : Nat) : Int) == 0) = true := rfl;refine bdy Tryz.f165 ?_;intro F3 hF1 hF2;simp only [Tryz.f165, e1, go_sem];repeat refine sd2 ?_
  exact ps0
 | cons a s =>
  have e1 : (((a :: s).length : Int) == 0) = false := by simp; omega
  have e2 : List.take (a :: s).length (List.map (fun b : UInt8 => [PV.int .u8 ((b.toNat : Nat) : Int)]) (a :: s) ++ List.drop (List.map (fun b : UInt8 => [PV.int .u8 ((b.toNat : Nat) : Int)]) (a :: s)).length (List.replicate (a :: s).length [PV.int .u8 0])) = List.map zBd (a :: s) := by
   rw [vV (by simp), vQ, zU (by simp)]; rfl
  have e3 := zBV (a :: s);refine bdy Tryz.f165 ?_;intro F3 hF1 hF2;have hl : (a :: s).length ≤ 1000000 := hs;have h0 : 0 < (a :: s).length := by simp
  generalize (a :: s) = s at *;simp only [Tryz.f165, e1, e2, e3, go_sem];repeat refine sd2 ?_
  refine ⟨⟨by simp, by simp⟩, ⟨by omega, by omega⟩, ⟨by omega, by simp⟩, ?_⟩;exact ps0
theorem zLs {F : SF} {L nx : Nat} (s : List UInt8) (hs : s.length ≤ 1000000) : Con Tryz.prog 162 [.str s] F L nx nx (.str s) [] [] := by
 have h := fun F L nx => zKV (F := F) (L := L) (nx := nx) s hs
 refine bdy Tryz.f162 ?_;intro F3 hF1 hF2;simp only [Tryz.f162, go_sem];refine CallVC.same (h _ _ _) ?_;simp only [go_sem];exact ps0
theorem zLt {F : SF} {L nx : Nat} (s : List UInt8) : Con Tryz.prog 163 [.str s] F L nx (nx + 1) (.fn (.func 166) [] [.ptr ⟨L, nx⟩ 0 0]) [(⟨L, nx⟩, .rows 9 1 true true [[.str s]])] [] := by
 refine zNz Tryz.f163 ?_;intro F3 hF1 hF2;simp only [Tryz.f163, go_sem];refine .now (PostN.val [0] (.inr rfl) (by simp) (p := True) (v0 := .fn (.func 166) [] [.ptr ⟨L + 1, 0⟩ 0 0]) ?_ trivial ?_ ?_ ⟨zB _, ?_, trivial⟩ ?_);·simp only [go_sem]
 ·simp [nmA, zDJ, Dn]
 ·simp [Tx.rn, Tx.rnL, sg, List.idxOf, List.findIdx, List.findIdx.go]
 ·rw [zDK (by simp)];exact .pure (by simp [Tx.look])
 ·simp [UpdAll, keys]
noncomputable def cxb (L : Nat) (y : YRec) : Cx := ⟨Tryz.prog, tys, meths, false, L, none, [y], [], false, [], fun _ => False⟩
theorem zQp (L : Nat) (y : YRec) : (cxb L y).Ok := ⟨zNC, zFe, zHU, zHV⟩
def zQM (s : List UInt8) (i : Nat) : List UInt8 := (s.drop (64 * i)).take 64
theorem zKW {F : SF} {L nx : Nat} (s : List UInt8) (hl : s.length ≤ 1000000) (n h : Nm) (hn : n.l ≤ L) (hnx : n.l < L ∨ (n.l = L ∧ n.i < nx)) (hh : h.l ≤ L) (hhx : h.l < L ∨ (h.l = L ∧ h.i < nx)) (hnh : n ≠ h) (o : Bool) (hFn : F n = some (.rows 9 1 true true [[.str s]]))
  (eb : TypeId) (wd : Nat) (RB : Nat → List (List PV)) (hFh : F h = some (.rows eb wd true true (RB 0))) (rd : List Nm) (hrd : ∀ m ∈ rd, m.l ≤ L ∧ m ≠ n ∧ m ≠ h)
  (N : Nat) (hN : N = s.length / 64) (y : YRec)
  (hy : ∀ (F3 : SF) (i nx3 : Nat), i < N → F3 h = some (.rows eb wd true true (RB i)) → (∀ m ∈ rd, F3 m = F m) →
   YCon Tryz.prog y [.str (zQM s i)] F3 (L + 1) nx3 nx3 (.bool true) [(h, .rows eb wd true true (RB (i + 1)))] (h :: rd)) :
  ICon Tryz.prog [y] 166 [.fn (.yield y.l) [] [], .ptr n 0 0] F L nx (nx + 0) (.tup []) [(n, .rows 9 1 true true [[.str (s.drop (64 * N))]]), (h, .rows eb wd true true (RB N))] (n :: h :: rd) := by
 refine zS5 (zQp (L + 1) y) rfl (fn := Tryz.f166) (c := Tryz.f166.body.getD .skip) (by kernel_rfl) (by rfl) (by kernel_rfl) rfl (by intro m hm; simp only [wG] at hm; rcases hm with rfl | rfl | hm; exact hn; exact hh; exact (hrd m hm).1) ?_;intro F3 hF1 hF2;have kn : F3 n = some (.rows 9 1 true true [[.str s]]) := (hF1 n (by simp)).trans hFn;have kh : F3 h = some (.rows eb wd true true (RB 0)) := (hF1 h (by simp)).trans hFh;have n1 : ∀ k, (n = (⟨L + 1, k⟩ : Nm)) = False := zAF hn;have n2 : ∀ k, ((⟨L + 1, k⟩ : Nm) = n) = False := zAE hn;have h1 : ∀ k, (h = (⟨L + 1, k⟩ : Nm)) = False := zAF hh;have h2 : ∀ k, ((⟨L + 1, k⟩ : Nm) = h) = False := zAE hh;have e1 : (n = h) = False := eq_false hnh;have e2 : (h = n) = False := eq_false (Ne.symm hnh);have e3 : ∀ (m : Nm) (b1 b2 : SBlk), m ∈ rd → Tx.look F3 [(n, b1), (h, b2)] m = F m := fun m b1 b2 hm => by
  obtain ⟨_, a, b⟩ := hrd m hm;simp only [Tx.look, if_neg a, if_neg b];exact hF1 m (by simp [hm])
 simp only [Tryz.f166, cxb, go_sem];refine loopK.intro _ _ (I := fun i : Nat => ⟨[some (.fn (.yield y.l) [] []), some (.ptr n 0 0)] ++ oz 11, [(n, .rows 9 1 true true [[.str (s.drop (64 * i))]]), (h, .rows eb wd true true (RB i))], 1000 * (i + 1)⟩)
  (pre := fun i => i ≤ N) (μ := fun i => N - i) 0 (by omega) ?_ ?_
 ·refine Sub.of (hfz hF2) (by simp only [go_sem, zBF, and_self]; try trivial) ?_ (by simp [zBL]) (by simp);simp [zA7, Tx.look, kn, kh]
 intro i hi;have hdl : (s.drop (64 * i)).length = s.length - 64 * i := vT ..;by_cases hlt : i < N
 ·have g1 : decide (((s.drop (64 * i)).length : Int) ≥ 64) = true := dT (by omega);have g1' : decide ((64 : Int) ≤ ((s.drop (64 * i)).length : Int)) = true := dT (by omega);have t1 : List.take 64 (s.drop (64 * i)) = zQM s i := rfl;have t2 : List.drop 64 (s.drop (64 * i)) = s.drop (64 * (i + 1)) := by rw [List.drop_drop]; congr 1
  have t3 : List.take ((s.drop (64 * i)).length - 64) (s.drop (64 * (i + 1))) = s.drop (64 * (i + 1)) := zU (by rw [hdl, vT]; omega);simp only [g1, t1, e1, zI, go_sem];repeat refine sd2 ?_
  refine YVC.one (hy _ i _ hlt (by simp [e2]) (fun m hm => e3 m _ _ hm)) ?_;simp only [t2, t3, e1, e2, zI, go_sem];repeat refine sd2 ?_
  refine ⟨i + 1, by omega, by omega, ?_⟩;refine Sub.of (hfz hF2) (by simp only [go_sem, zBF, and_self]; try trivial) ?_ (by simp [zBL, keys]) (by simp only []; omega);simp only [zA7, Tx.look, e1, e2, if_true, if_false, and_true]
 ·obtain rfl : i = N := by omega
  have g1 : decide (((s.drop (64 * i)).length : Int) ≥ 64) = false := dF (by omega);have g1' : decide ((64 : Int) ≤ ((s.drop (64 * i)).length : Int)) = false := dF (by omega);simp only [g1, e1, zI, go_sem];repeat refine sd2 ?_
  refine .now (PostN.val [] (.inl rfl) (by simp) (p := True) (v0 := .tup []) ?_ trivial ?_ ?_ ⟨hn, ?_, hh, ?_, trivial⟩ ?_);·simp only [go_sem]
  ·simp [nmA, zDJ]
  ·simp [Tx.rn, Tx.rnL]
  ·rw [zCR (hnx.imp id fun h => .inl h.2)];exact .pure (by simp [Tx.look])
  ·rw [zCR (hhx.imp id fun h => .inl h.2)];exact .pure (by simp [Tx.look, e2])
  ·simp [UpdAll, keys]
theorem zIE (b : List UInt8) : ∀ t, (wS b t).length = t
 | 0 => rfl
 | t + 1 => by rw [wS, zQ, zIE b t]; rfl
theorem zD6 (b : List UInt8) {i : Nat} : ∀ {t : Nat}, i < t → (wS b t).getD i 0 = (wS b (i + 1)).getD i 0
 | t + 1, h => by
  by_cases e : i = t;·rw [e]
  ·rw [← zD6 b (show i < t by omega), wS, zG, zG, wE (by rw [zIE]; omega), ← zG]
theorem zP7 (b : List UInt8) {n t : Nat} (ht : t < n) : (wS b n).getD t 0 = if t < 16 then zBz ((b.drop (4 * t)).take 4) else ((wS b n).getD (t - 16) 0 + (wS b n).getD (t - 7) 0 + sg0 ((wS b n).getD (t - 15) 0) + sg1 ((wS b n).getD (t - 2) 0)) % M32 := by
 have hl : (wS b (t + 1)).getD t 0 = if t < 16 then zBz ((b.drop (4 * t)).take 4) else ((wS b t).getD (t - 16) 0 + (wS b t).getD (t - 7) 0 + sg0 ((wS b t).getD (t - 15) 0) + sg1 ((wS b t).getD (t - 2) 0)) % M32 := by
  rw [wS, zG, wP (by rw [zIE]; omega), zIE, Nat.sub_self]; rfl
 rw [zD6 b ht, hl];by_cases h : t < 16;·rw [if_pos h, if_pos h]
 ·rw [if_neg h, if_neg h];rw [zD6 b (i := t - 16) (t := n) (by omega), zD6 b (i := t - 7) (t := n) (by omega), zD6 b (i := t - 15) (t := n) (by omega), zD6 b (i := t - 2) (t := n) (by omega),
   zD6 b (i := t - 16) (t := t) (by omega), zD6 b (i := t - 7) (t := t) (by omega), zD6 b (i := t - 15) (t := t) (by omega), zD6 b (i := t - 2) (t := t) (by omega)]
theorem zOx (b : List UInt8) (n i : Nat) : (wS b n).getD i 0 < M32 := by
 by_cases h : i < n
 ·rw [zP7 b h];split
  ·have := zI3 ((b.drop (4 * i)).take 4);have h4 : ((b.drop (4 * i)).take 4).length ≤ 4 := by rw [vF]; omega
   exact uM this (vP (uR (by omega) h4) (by decide))
  ·exact wY _ (by decide)
 ·rw [zG, vK (by rw [zIE]; omega)]; decide
def W8 (l : List Nat) : Prop := l.length = 8 ∧ ∀ i, l.getD i 0 < M32
theorem W8.cons {a b c d e f g h : Nat} (ha : a < M32) (hb : b < M32) (hc : c < M32) (hd : d < M32) (he : e < M32) (hf : f < M32) (hg : g < M32) (hh : h < M32) : W8 [a, b, c, d, e, f, g, h] := by
 refine ⟨rfl, fun i => ?_⟩;rcases i with _ | _ | _ | _ | _ | _ | _ | _ | i;all_goals simp only [qB, vU, List.getD_nil]
 all_goals first | assumption | decide
theorem zJl (x : Nat) : x % M32 < M32 := wY _ (by decide)
theorem zQq {v : List Nat} (h : W8 v) (k w : Nat) : W8 (rdS v k w) := W8.cons (zJl _) (h.2 0) (h.2 1) (h.2 2) (zJl _) (h.2 4) (h.2 5) (h.2 6)
theorem zN7 {h : List Nat} (h8 : W8 h) (k w : List Nat) : ∀ t, W8 (zNS k w h t)
 | 0 => h8
 | t + 1 => zQq (zN7 h8 k w t) _ _
theorem zP8 (h v : List Nat) : W8 (zN2 h v) := by
 refine ⟨by simp [zN2], fun i => ?_⟩;by_cases hi : i < 8
 ·simp only [zN2, zG, zS, uS hi, zW, vO];exact wY _ (by decide)
 ·rw [zG, vK (by simp [zN2]; omega)]; decide
theorem zGP {h : List Nat} (h8 : W8 h) (k : List Nat) (s : List UInt8) : ∀ i, W8 (zBk k h s i)
 | 0 => h8
 | _ + 1 => zP8 _ _
theorem xS {x y z : Nat} (hx : x < M32) (hy : y < M32) (hz : z < M32) : Sx.zEo .xor .u32 (Sx.zEo .xor .u32 (x : Int) (y : Int)) (z : Int) = ((x ^^^ y ^^^ z : Nat) : Int) := by
 rw [zJj hx hy, zJj (Nat.xor_lt_two_pow (n := 32) hx hy) hz]
theorem zSH {a : Nat} (ha : a < M32) : Sx.zEo .xor .u32 (if IntKind.u32.signed = true then -1 else IntKind.u32.max) (a : Int) = ((M32 - 1 - a : Nat) : Int) := by
 have h1 : (if IntKind.u32.signed = true then (-1 : Int) else IntKind.u32.max) = ((4294967295 : Nat) : Int) := rfl;rw [h1, zJj (by omega) ha];congr 1;apply Nat.eq_of_testBit_eq;intro i;rw [Nat.testBit_xor, show (4294967295 : Nat) = 2 ^ 32 - 1 from rfl, Nat.testBit_two_pow_sub_one, show M32 - 1 - a = 2 ^ 32 - (a + 1) by simp only [M32] at ha ⊢; omega, Nat.testBit_two_pow_sub_succ (show a < 2 ^ 32 from ha)];by_cases hi : i < 32;·simp [hi]
 ·have : a.testBit i = false := Nat.testBit_lt_two_pow (uM (show a < 2 ^ 32 from ha) (uR (by omega) (by omega)));simp [hi, this]
theorem zIF {a b : Nat} (ha : a < M32) : (a &&& b) < M32 := uX Nat.and_le_left ha
theorem zQr (a7 k w : Nat) {a4 a5 a6 : Nat} (h4 : a4 < M32) (h5 : a5 < M32) (h6 : a6 < M32) : IntKind.u32.wrap (IntKind.u32.wrap (IntKind.u32.wrap (IntKind.u32.wrap ((a7 : Int) + Sx.zEo .xor .u32 (Sx.zEo .xor .u32 (rtr a4 6 : Int) (rtr a4 11 : Int)) (rtr a4 25 : Int)) + Sx.zEo .xor .u32 (Sx.zEo .and .u32 (a4 : Int) (a5 : Int)) (Sx.zEo .and .u32 (Sx.zEo .xor .u32 (if IntKind.u32.signed = true then -1 else IntKind.u32.max) (a4 : Int)) (a6 : Int))) + (k : Int)) + (w : Int)) = (((a7 + bg1 a4 + chS a4 a5 a6 + k + w) % M32 : Nat) : Int) := by
 have hn : M32 - 1 - a4 < M32 := by simp only [M32] at h4 ⊢; omega
 rw [zSH h4, xS (zD5 h4) (zD5 h4) (zD5 h4), zLk h4 h5, zLk hn h6, zJj (zIF h4) (zIF hn)];rw [← vM, zI8, ← vM, zI8, ← vM, zI8, ← vM, zI8];have e1 : rtr a4 6 ^^^ rtr a4 11 ^^^ rtr a4 25 = bg1 a4 := rfl;have e2 : (a4 &&& a5) ^^^ ((M32 - 1 - a4) &&& a6) = chS a4 a5 a6 := rfl;rw [e1, e2, show M32 = 2 ^ 32 from rfl];generalize bg1 a4 = p;generalize chS a4 a5 a6 = q;omega
theorem two32 {a0 a1 a2 : Nat} (h0 : a0 < M32) (h1 : a1 < M32) (h2 : a2 < M32) : IntKind.u32.wrap (Sx.zEo .xor .u32 (Sx.zEo .xor .u32 (rtr a0 2 : Int) (rtr a0 13 : Int)) (rtr a0 22 : Int) + Sx.zEo .xor .u32 (Sx.zEo .xor .u32 (Sx.zEo .and .u32 (a0 : Int) (a1 : Int)) (Sx.zEo .and .u32 (a0 : Int) (a2 : Int))) (Sx.zEo .and .u32 (a1 : Int) (a2 : Int))) = (((bg0 a0 + mjS a0 a1 a2) % M32 : Nat) : Int) := by
 rw [xS (zD5 h0) (zD5 h0) (zD5 h0), zLk h0 h1, zLk h0 h2, zLk h1 h2, xS (zIF h0) (zIF h0) (zIF h1)];rw [← vM, zI8];have e1 : rtr a0 2 ^^^ rtr a0 13 ^^^ rtr a0 22 = bg0 a0 := rfl;have e2 : (a0 &&& a1) ^^^ (a0 &&& a2) ^^^ (a1 &&& a2) = mjS a0 a1 a2 := rfl;rw [e1, e2, show M32 = 2 ^ 32 from rfl]
theorem zQs (a b : Nat) : IntKind.u32.wrap ((a : Int) + (b : Int)) = (((a + b) % M32 : Nat) : Int) := by
 rw [← vM, zI8, show M32 = 2 ^ 32 from rfl]
def zCX (v : List Nat) (tl : List UInt8) (n : Int) : List PV := v.map eW ++ [.str tl, .int .i64 n]
noncomputable def cxm (L l : Nat) : Cx := ⟨Tryz.prog, tys, meths, false, L, some l, [], [], false, [], fun _ => False⟩
theorem zQt (L l : Nat) : (cxm L l).Ok := ⟨zNC, zFe, zHU, zHV⟩
theorem be4 (c0 c1 c2 c3 : UInt8) : Sx.zEo .or .u32 (Sx.zEo .or .u32 (Sx.zEo .or .u32 (IntKind.u32.wrap (IntKind.u32.wrap (c0.toNat : Int) * 2 ^ min 24 32)) (IntKind.u32.wrap (IntKind.u32.wrap (c1.toNat : Int) * 2 ^ min 16 32))) (IntKind.u32.wrap (IntKind.u32.wrap (c2.toNat : Int) * 2 ^ min 8 32))) (IntKind.u32.wrap (c3.toNat : Int)) = ((zBz [c0, c1, c2, c3] : Nat) : Int) := by
 have h0 := c0.toNat_lt;have h1 := c1.toNat_lt;have h2 := c2.toNat_lt;have h3 := c3.toNat_lt;have hg : zBz [c0, c1, c2, c3] = ((c0.toNat * 256 + c1.toNat) * 256 + c2.toNat) * 256 + c3.toNat := by simp [zBz]
 rw [hg];generalize c0.toNat = a at *;generalize c1.toNat = b at *;generalize c2.toNat = c at *;generalize c3.toNat = d at *;have w : ∀ x k : Nat, x < 256 → k ≤ 24 → IntKind.u32.wrap (IntKind.u32.wrap (x : Int) * 2 ^ min k 32) = ((x * 2 ^ k : Nat) : Int) := fun x k hx hk => by
  have hp : 2 ^ k ≤ 2 ^ 24 := uR (by omega) hk;have hxk : x * 2 ^ k < 2 ^ 32 := uX (uL (show x ≤ 255 by omega) hp) (by omega);rw [zI8, zT (by omega), Nat.min_eq_left (by omega)];have : ((x : Int) * 2 ^ k) = ((x * 2 ^ k : Nat) : Int) := by simp
  rw [this, zI8, zT hxk]
 have w3 : IntKind.u32.wrap (d : Int) = (d : Int) := by rw [zI8, zT (by omega)]
 rw [w a 24 h0 (by omega), w b 16 h1 (by omega), w c 8 h2 (by omega), w3];have o1 : a * 2 ^ 24 ||| b * 2 ^ 16 = (a * 256 + b) * 2 ^ 16 := by
  rw [vC a, ← Nat.two_pow_add_eq_or_of_lt (show b * 2 ^ 16 < 2 ^ 24 by omega)]; omega
 have o2 : (a * 256 + b) * 2 ^ 16 ||| c * 2 ^ 8 = ((a * 256 + b) * 256 + c) * 2 ^ 8 := by
  rw [vC _ (2 ^ 16), ← Nat.two_pow_add_eq_or_of_lt (show c * 2 ^ 8 < 2 ^ 16 by omega)]; omega
 have o3 : ((a * 256 + b) * 256 + c) * 2 ^ 8 ||| d = ((a * 256 + b) * 256 + c) * 256 + d := by
  rw [vC _ (2 ^ 8), ← Nat.two_pow_add_eq_or_of_lt (show d < 2 ^ 8 by omega)]; try omega
 rw [zQJ (by omega) (by omega), o1, zQJ (by omega) (by omega), o2, zQJ (by omega) (by omega), o3]
theorem zIG (l : List Nat) (N n i : Nat) (d : PV) (hi : i < n) (hN : i < N) : (wA l N n).getD i d = .int .u32 ((l.getD i 0 : Nat) : Int) := by
 rw [zG, wA, zS, uS hN];simp [hi]
theorem w16 (a b : Nat) {x y : Nat} (hx : x < M32) (hy : y < M32) : IntKind.u32.wrap (IntKind.u32.wrap (IntKind.u32.wrap ((a : Int) + (b : Int)) + Sx.zEo .xor .u32 (Sx.zEo .xor .u32 (rtr x 7 : Int) (rtr x 18 : Int)) ((x : Int).fdiv (2 ^ min 3 32))) + Sx.zEo .xor .u32 (Sx.zEo .xor .u32 (rtr y 17 : Int) (rtr y 19 : Int)) ((y : Int).fdiv (2 ^ min 10 32))) = (((a + b + sg0 x + sg1 y) % M32 : Nat) : Int) := by
 rw [zG2 x 3 (by omega), zG2 y 10 (by omega), xS (zD5 hx) (zD5 hx) (uX (Nat.div_le_self _ _) hx), xS (zD5 hy) (zD5 hy) (uX (Nat.div_le_self _ _) hy)];rw [← vM, zI8, ← vM, zI8, ← vM, zI8];show (((((a + b) % 2 ^ 32 + sg0 x) % 2 ^ 32 + sg1 y) % 2 ^ 32 : Nat) : Int) = _;rw [show M32 = 2 ^ 32 from rfl];generalize sg0 x = p;generalize sg1 y = q;omega
theorem W8.nth {l : List Nat} (h : W8 l) : ∃ a0 a1 a2 a3 a4 a5 a6 a7, l = [a0, a1, a2, a3, a4, a5, a6, a7] := by
 match l, h.1 with
 | [a0, a1, a2, a3, a4, a5, a6, a7], _ => exact ⟨a0, a1, a2, a3, a4, a5, a6, a7, rfl⟩
theorem zLu (l : List Nat) (i : Nat) (d : PV) (hi : i < l.length) : (l.map eW).getD i d = .int .u32 ((l.getD i 0 : Nat) : Int) := by
 simp [zG, hi, eW]
def adP (h v : List Nat) (i : Nat) : List Nat := (List.range 8).map fun j => if j < i then (h.getD j 0 + v.getD j 0) % M32 else h.getD j 0
theorem zEH (h v : List Nat) (i : Nat) : (adP h v i).length = 8 := by simp [adP]
theorem zOy (h v : List Nat) {i j : Nat} (hj : j < 8) : (adP h v i).getD j 0 = if j < i then (h.getD j 0 + v.getD j 0) % M32 else h.getD j 0 := by
 rw [zG, adP, zS, uS hj]; rfl
theorem zNW {h : List Nat} (h8 : h.length = 8) (v : List Nat) : adP h v 0 = h := by
 apply uJ (by rw [zEH, h8]);intro i h1 h2;simp [adP, zG, h2]
theorem zOz (h v : List Nat) : adP h v 8 = zN2 h v := by
 unfold adP zN2;apply List.map_congr_left;intro j hj;rw [if_pos (List.mem_range.1 hj)]
theorem zNX {l : List Nat} (hl : l.length = 8) (tl : List UInt8) (n : Int) {j : Nat} (hj : j < 8) (d : PV) : (zCX l tl n).getD j d = .int .u32 ((l.getD j 0 : Nat) : Int) := by
 simp only [zCX, zG];rw [wE (by rw [zL]; omega)];simp [show j < l.length by omega, eW]
theorem zNY (h v : List Nat) (tl : List UInt8) (n : Int) {j : Nat} (hj : j < 8) : List.take j (zCX (adP h v j) tl n) ++ [.int .u32 (((h.getD j 0 + v.getD j 0) % M32 : Nat) : Int)] ++ List.drop (j + 1) (zCX (adP h v j) tl n) = zCX (adP h v (j + 1)) tl n := by
 have hs : (zCX (adP h v j) tl n).set j (eW ((h.getD j 0 + v.getD j 0) % M32)) = zCX (adP h v (j + 1)) tl n := by
  unfold zCX;rw [List.set_append_left _ _ (by rw [zL, zEH]; exact hj), ← List.map_set];congr 2;apply uJ (by rw [List.length_set, zEH, zEH]);intro i h1 h2;rw [List.getElem_set];simp only [adP, List.getElem_map, List.getElem_range];by_cases e : j = i;·subst e; rw [if_pos rfl, if_pos (by omega)]
  ·rw [if_neg e];have : (i < j) = (i < j + 1) := by apply propext; omega
   simp only [this]
 rw [← hs, List.set_eq_take_append_cons_drop, if_pos (by simp [zCX, zEH]; omega)];simp [eW]
theorem zN8 {F : SF} {L nx : Nat} (h : Nm) (hh : h.l ≤ L) (v k : List Nat) (hv : W8 v) (hk : k.length = 64) (hk2 : ∀ i, k.getD i 0 < M32) (s : List UInt8) (hl : s.length ≤ 1000000) (tl : List UInt8) (n : Int) (hF : F h = some (.rows 247 10 true true [zCX v tl n])) :
  Con Tryz.prog 161 [.ptr h 0 0, .str s, .agg (k.map eW)] F L nx nx (.tup []) [(h, .rows 247 10 true true [zCX (zBk k v s (s.length / 64)) tl n])] [h] := by
 have hkm : (k.map eW).length = 64 := by rw [zL, hk]
 have hkn := zE4 k;obtain ⟨kk, hkk⟩ : ∃ kk, kk = k.map eW := ⟨_, rfl⟩;rw [← hkk] at hkm hkn ⊢;have hb := fun F L nx => zLt (F := F) (L := L) (nx := nx) s
 refine bdy Tryz.f161 (hrd := (by simp; omega)) ?_;intro F3 hF1 hF2;have kh : F3 h = some (.rows 247 10 true true [zCX v tl n]) := (hF1 h (by simp)).trans hF;have h1 : ∀ k, (h = (⟨L + 1, k⟩ : Nm)) = False := zAF hh;have h2 : ∀ k, ((⟨L + 1, k⟩ : Nm) = h) = False := zAE hh;simp only [Tryz.f161, hkm, hkn, go_sem];refine CallVC.same (hb _ _ _) ?_;simp only [go_sem];obtain ⟨N, hN⟩ : ∃ N, N = s.length / 64 := ⟨_, rfl⟩;rw [← hN]
 refine rangeK.intro (v := .tup []) (top := 97) (rd := [⟨L + 1, 96⟩, h, ⟨L + 1, 0⟩, ⟨L + 1, 32⟩]) (upd := [(⟨L + 1, 96⟩, .rows 9 1 true true [[.str (s.drop (64 * N))]]), (h, .rows 247 10 true true [zCX (zBk k v s N) tl n])]) (f := 166) (fl := []) (cl := [.ptr ⟨L + 1, 96⟩ 0 0]) (by simp only [zAi, qB, vU]) rfl ⟨Tryz.f166, by kernel_rfl, by rfl, by kernel_rfl⟩ [none, none, none, some (.ptr ⟨L + 1, 0⟩ 0 0), none, some (.ptr ⟨L + 1, 32⟩ 0 0), none, none, none, none, none, none, none, none, none, none, none, none, none, none, none, none, none, none, none, none, none, none, none, none, none, none, none, none, none, none, none, none, none, none, none, none, none, none, none, none, none, none, none, none, none, none, none, none, none, none, none, none, none, none, none, none, none, none, none, none, none, none, none, none, none, none, none, none, none, none, none, none, none, none, none, none, none, none, none, none, none, none, none, none, none, none, none, none, none, none, none, none, none, none, none, none, none, none, none, none, none, none, none, none, none, none, none, none, none, none, none, none, none, none, none, none, none, none, none, none, none, none, none, none, none, none, none, none, none, none, none, none, none, none, none, none, none, none, none, none, none, none, none, none, none, none, none, none, none, none, none, none, none, none, none, none, none, none, none, none, none, none, none, none, none, none, none, none, none, none, none, none, none, none, none, none, none, none, none, none, none, none, none, none, none, none, none, none, none, none, none, none] ?_ ?_ ?_
 ·simp only [go_sem, zBF, and_self]
 ·intro y y1 y2 y3 y4;refine zKW (L := L + 1) (nx := 97) s hl ⟨L + 1, 96⟩ h (by simp) (.inr ⟨rfl, by simp⟩) (by omega) (.inl (by omega)) (by simp [h2]) true (by simp [Tx.look]) 247 10 (fun i => [zCX (zBk k v s i) tl n]) (by simp [Tx.look, h1, kh]; rfl) [⟨L + 1, 0⟩, ⟨L + 1, 32⟩] (by intro m hm; simp only [wG, vW, or_false] at hm; rcases hm with rfl | rfl <;> simp [h2]) N hN y ?_;intro F4 i nx3 hi hFh hFr;have r0 := hFr ⟨L + 1, 0⟩ (by simp);have r1 := hFr ⟨L + 1, 32⟩ (by simp);simp only [Tx.look, if_true, if_false, Nm.mk.injEq, true_and, Nat.reduceEqDiff] at r0 r1;have hw8 := zGP hv k s i;obtain ⟨u, hu⟩ : ∃ u, u = zBk k v s i := ⟨_, rfl⟩;obtain ⟨b, hb⟩ : ∃ b, b = zQM s i := ⟨_, rfl⟩;have hm1 : zBk k v s (i + 1) = zQh k u b := by rw [hu, hb]; rfl
  have hbl : b.length = 64 := by rw [hb, zQM, vF, vT]; omega
  rw [hm1, ← hb];rw [← hu] at hw8 hFh;refine YCon.body (zQt (L + 3) y.l) (by rfl) (by rfl) (k := 0) (by rfl) (by simp; omega) (by rw [y1]; rfl) (by rw [y1, y4]; simp) ?_;intro F5 hF5 hF6;have q1 := (hF5 h (by simp)).trans hFh;have q2 := (hF5 ⟨L + 1, 0⟩ (by simp)).trans r0;have q3 := (hF5 ⟨L + 1, 32⟩ (by simp)).trans r1;have z1 : ∀ k, ((⟨L + 2 + 1, k⟩ : Nm) = h) = False := fun k => zAE (by omega) k
  have z2 : ∀ k, (h = (⟨L + 2 + 1, k⟩ : Nm)) = False := fun k => zAF (by omega) k
  have z3 : ∀ k j, ((⟨L + 2 + 1, k⟩ : Nm) = ⟨L + 1, j⟩) = False := fun k j => by simp
  have z4 : ∀ k j, ((⟨L + 1, j⟩ : Nm) = ⟨L + 2 + 1, k⟩) = False := fun k j => by simp
  rw [y1, y2, y3, y4];simp only [setPs, List.zip_cons_cons, List.zip_nil_right, cxm, zI, go_sem];refine loopK.intro _ _ (I := fun t : Nat => ⟨[none, none, none, some (.ptr ⟨L + 1, 0⟩ 0 0), none, some (.ptr ⟨L + 1, 32⟩ 0 0), some (.str b), some (.ptr ⟨L + 2 + 1, 32⟩ 0 0), none, none, none, none, none, none, none, none, none, none, none, none, none, none, some (.int .i64 t)] ++ oz 175, [(⟨L + 2 + 1, 32⟩, .rows 220 64 true true [wA (wS b 64) 64 t])], 10000 * (t + 1)⟩)
   (pre := fun t => t ≤ 64) (μ := fun t => 64 - t) 0 (by omega) ?_ ?_
  ·refine Sub.of (fun n hn => hF6 n (by have : n.l = L + 2 + 1 := hn; omega)) (by simp only [go_sem, zBF]; try trivial) ?_ (by simp [zBL, keys]) (by simp);simp only [zA7, Tx.look, zLr, List.replicate, and_true, zI, go_sem];try simp
  intro t ht;have lw := zFN (wS b 64) 64 t;by_cases hlt : t < 64
  ·have f1 : decide ((t : Int) < 64) = true := dT (by omega);have hat := zP7 b (n := 64) hlt;by_cases h16 : t < 16
   ·have f2 : decide ((t : Int) < 16) = true := dT (by omega);rw [if_pos h16] at hat;obtain ⟨c0, c1, c2, c3, hc⟩ : ∃ c0 c1 c2 c3, (b.drop (4 * t)).take 4 = [c0, c1, c2, c3] := by
     have hl4 : ((b.drop (4 * t)).take 4).length = 4 := by rw [vF, vT]; omega
     match (b.drop (4 * t)).take 4, hl4 with
     | [c0, c1, c2, c3], _ => exact ⟨c0, c1, c2, c3, rfl⟩
    have e1 : (4 * (t : Int)) = ((4 * t : Nat) : Int) := by omega
    have e2 : (((4 * t : Nat) : Int) + 4) = ((4 * t + 4 : Nat) : Int) := by omega
    have e3 : 4 * t + 4 - 4 * t = 4 := by omega
    simp only [f1, f2, e1, e2, e3, hc, q1, q2, z2, z4, kS2, zI, go_sem];repeat refine sd2 ?_
    refine ⟨zAH (fun x => x.i) (by kernel_rfl), ⟨by omega, by omega⟩, ?_⟩;refine ⟨t + 1, by omega, by omega, ?_⟩;refine Sub.of (fun n hn => hF6 n (by have : n.l = L + 2 + 1 := hn; omega)) (by simp only [go_sem, zBF, and_self, wJ]; try trivial) ?_ (by simp [zBL, keys]) (by simp only []; omega);have hw := zJk (wS b 64) 64 t _ hlt (hat.trans (by rw [hc])).symm;simp only [zA7, Tx.look, be4, wH, hw, if_true, and_true]
   ·have f2 : decide ((t : Int) < 16) = false := dF (by omega);rw [if_neg h16] at hat;have a1 : ((t : Int) - 15) = ((t - 15 : Nat) : Int) := by omega
    have a2 : ((t : Int) - 2) = ((t - 2 : Nat) : Int) := by omega
    have a3 : ((t : Int) - 16) = ((t - 16 : Nat) : Int) := by omega
    have a4 : ((t : Int) - 7) = ((t - 7 : Nat) : Int) := by omega
    have g1 := fun d => zIG (wS b 64) 64 t (t - 15) d (by omega) (by omega)
    have g2 := fun d => zIG (wS b 64) 64 t (t - 2) d (by omega) (by omega)
    have g3 := fun d => zIG (wS b 64) 64 t (t - 16) d (by omega) (by omega)
    have g4 := fun d => zIG (wS b 64) 64 t (t - 7) d (by omega) (by omega)
    have l1 := zOx b 64 (t - 15);have l2 := zOx b 64 (t - 2);obtain ⟨x15, h15⟩ : ∃ x, x = (wS b 64).getD (t - 15) 0 := ⟨_, rfl⟩;obtain ⟨x2, h2'⟩ : ∃ x, x = (wS b 64).getD (t - 2) 0 := ⟨_, rfl⟩;obtain ⟨x16, h16'⟩ : ∃ x, x = (wS b 64).getD (t - 16) 0 := ⟨_, rfl⟩;obtain ⟨x7, h7'⟩ : ∃ x, x = (wS b 64).getD (t - 7) 0 := ⟨_, rfl⟩;rw [← h15] at hat l1 g1;rw [← h2'] at hat l2 g2;rw [← h16'] at hat g3;rw [← h7'] at hat g4;have p1 : ∀ F L nx, Con Tryz.prog 164 [.int .u32 x15, .int .i64 (-7)] F L nx nx (.int .u32 (rtr x15 7)) [] [] := fun F L nx => zB1 x15 7 l1 (by omega) (by omega)
    have p2 : ∀ F L nx, Con Tryz.prog 164 [.int .u32 x15, .int .i64 (-18)] F L nx nx (.int .u32 (rtr x15 18)) [] [] := fun F L nx => zB1 x15 18 l1 (by omega) (by omega)
    have p3 : ∀ F L nx, Con Tryz.prog 164 [.int .u32 x2, .int .i64 (-17)] F L nx nx (.int .u32 (rtr x2 17)) [] [] := fun F L nx => zB1 x2 17 l2 (by omega) (by omega)
    have p4 : ∀ F L nx, Con Tryz.prog 164 [.int .u32 x2, .int .i64 (-19)] F L nx nx (.int .u32 (rtr x2 19)) [] [] := fun F L nx => zB1 x2 19 l2 (by omega) (by omega)
    simp only [f1, f2, a1, a2, a3, a4, g1, g2, g3, g4, wH, zI, go_sem];repeat refine sd2 ?_
    refine ⟨zAH (fun x => x.i) (by kernel_rfl), ?_⟩;repeat refine sd2 ?_
    refine CallVC.same (p1 _ _ _) ?_;simp only [zI, go_sem];repeat refine sd2 ?_
    refine CallVC.same (p2 _ _ _) ?_;simp only [zI, go_sem];repeat refine sd2 ?_
    refine CallVC.same (p3 _ _ _) ?_;simp only [zI, go_sem];repeat refine sd2 ?_
    refine CallVC.same (p4 _ _ _) ?_;simp only [wH, zI, go_sem];repeat refine sd2 ?_
    refine ⟨zAH (fun x => x.i) (by kernel_rfl), ⟨by omega, by omega⟩, ?_⟩;refine ⟨t + 1, by omega, by omega, ?_⟩;refine Sub.of (fun n hn => hF6 n (by have : n.l = L + 2 + 1 := hn; omega)) (by simp only [go_sem, zBF, and_self, wJ]; try trivial) ?_ (by simp [zBL, keys]) (by simp only []; omega);have hw := zJk (wS b 64) 64 t _ hlt hat.symm;have hv16 := w16 x16 x7 l1 l2;simp only [zA7, Tx.look, hv16, hw, if_true, and_true]
  ·obtain rfl : t = 64 := by omega
   have f1 : decide (((64 : Nat) : Int) < 64) = false := dF (by omega);have hu8 : (u.map eW).length = 8 := by rw [zL]; exact hw8.1
   have hun := zE4 u;have hrow : zCX u tl n = u.map eW ++ [.str tl, .int .i64 n] := rfl;have ht8 : List.take 8 (zCX u tl n) = u.map eW := by rw [hrow, uD (by omega), zU (by omega)]
   have hrl : (zCX u tl n).length = 10 := by rw [hrow, zQ, hu8]; rfl
   simp only [f1, ht8, hu8, hun, q1, q2, z2, z4, zI, go_sem];repeat refine sd2 ?_
   obtain ⟨w, hw⟩ : ∃ w, w = wS b 64 := ⟨_, rfl⟩;have hwl : ∀ i, w.getD i 0 < M32 := fun i => by rw [hw]; exact zOx b 64 i
   have hmx : zQh k u b = zN2 u (zNS k w u 64) := by rw [hw]; rfl
   rw [← hw, hmx];rw [← hw] at lw;refine loopK.intro _ _ (I := fun r : Nat => ⟨[none, none, none, some (.ptr ⟨L + 1, 0⟩ 0 0), none, some (.ptr ⟨L + 1, 32⟩ 0 0), none, some (.ptr ⟨L + 2 + 1, 32⟩ 0 0), none, none, none, none, some (.ptr ⟨L + 2 + 1, 650192⟩ 0 0), none, none, none, none, none, none, none, none, none, none, none, none, none, none, none, none, none, none, none, none, none, none, none, none, none, none, none, none, none, none, none, none, none, none, none, none, none, none, none, none, none, none, none, none, none, none, none, none, none, none, none, none, none, none, none, none, none, none, none, none, none, none, none, none, none, none, none, none, none, none, none, none, none, none, none, none, none, none, none, none, none, none, none, none, some (.int .i64 r)] ++ oz 100, [(⟨L + 2 + 1, 32⟩, .rows 220 64 true true [wA w 64 64]), (⟨L + 2 + 1, 650192⟩, .rows 219 8 true true [(zNS k w u r).map eW])], 10000 * (100 + r + 1)⟩)
    (pre := fun r => r ≤ 64) (μ := fun r => 64 - r) 0 (by omega) ?_ ?_
   ·refine Sub.of (fun n hn => hF6 n (by have : n.l = L + 2 + 1 := hn; omega)) (by simp only [go_sem, zBF]; try trivial) ?_ (by simp [zBL, keys]) (by simp);simp [zA7, Tx.look, zNS]
   intro r hr;have hr8 := zN7 hw8 k w r;obtain ⟨x, hx⟩ : ∃ x, x = zNS k w u r := ⟨_, rfl⟩;by_cases hr64 : r < 64
   ·have f3 : decide ((r : Int) < 64) = true := dT (by omega);have hx1 : zNS k w u (r + 1) = rdS x (k.getD r 0) (w.getD r 0) := by rw [hx]; rfl
    rw [← hx] at hr8 ⊢;obtain ⟨a0, a1, a2, a3, a4, a5, a6, a7, rfl⟩ := hr8.nth;have b0 : a0 < M32 := hr8.2 0;have b1 : a1 < M32 := hr8.2 1;have b2 : a2 < M32 := hr8.2 2;have b4 : a4 < M32 := hr8.2 4;have b5 : a5 < M32 := hr8.2 5;have b6 : a6 < M32 := hr8.2 6;have gk : ∀ d, kk.getD r d = .int .u32 ((k.getD r 0 : Nat) : Int) := fun d => by rw [hkk]; exact zLu k r d (by omega)
    have gw : ∀ d, (wA w 64 64).getD r d = .int .u32 ((w.getD r 0 : Nat) : Int) := fun d => zIG w 64 64 r d hr64 hr64
    have p1 : ∀ F L nx, Con Tryz.prog 164 [.int .u32 a4, .int .i64 (-6)] F L nx nx (.int .u32 (rtr a4 6)) [] [] := fun F L nx => zB1 a4 6 b4 (by omega) (by omega)
    have p2 : ∀ F L nx, Con Tryz.prog 164 [.int .u32 a4, .int .i64 (-11)] F L nx nx (.int .u32 (rtr a4 11)) [] [] := fun F L nx => zB1 a4 11 b4 (by omega) (by omega)
    have p3 : ∀ F L nx, Con Tryz.prog 164 [.int .u32 a4, .int .i64 (-25)] F L nx nx (.int .u32 (rtr a4 25)) [] [] := fun F L nx => zB1 a4 25 b4 (by omega) (by omega)
    have p4 : ∀ F L nx, Con Tryz.prog 164 [.int .u32 a0, .int .i64 (-2)] F L nx nx (.int .u32 (rtr a0 2)) [] [] := fun F L nx => zB1 a0 2 b0 (by omega) (by omega)
    have p5 : ∀ F L nx, Con Tryz.prog 164 [.int .u32 a0, .int .i64 (-13)] F L nx nx (.int .u32 (rtr a0 13)) [] [] := fun F L nx => zB1 a0 13 b0 (by omega) (by omega)
    have p6 : ∀ F L nx, Con Tryz.prog 164 [.int .u32 a0, .int .i64 (-22)] F L nx nx (.int .u32 (rtr a0 22)) [] [] := fun F L nx => zB1 a0 22 b0 (by omega) (by omega)
    simp only [f3, eW, wH, zI, go_sem];repeat refine sd2 ?_
    refine ⟨zAH (fun x => x.i) (by kernel_rfl), ?_⟩;repeat refine sd2 ?_
    refine CallVC.same (p1 _ _ _) ?_;simp only [zI, go_sem];repeat refine sd2 ?_
    refine CallVC.same (p2 _ _ _) ?_;simp only [zI, go_sem];repeat refine sd2 ?_
    refine CallVC.same (p3 _ _ _) ?_;simp only [gk, gw, wH, q3, z4, zI, go_sem];repeat refine sd2 ?_
    try refine ⟨zAH (fun x => x.i) (by kernel_rfl), ?_⟩
    repeat refine sd2 ?_
    refine CallVC.same (p4 _ _ _) ?_;simp only [zI, go_sem];repeat refine sd2 ?_
    refine CallVC.same (p5 _ _ _) ?_;simp only [zI, go_sem];repeat refine sd2 ?_
    refine CallVC.same (p6 _ _ _) ?_;simp only [wH, zI, go_sem];repeat refine sd2 ?_
    refine ⟨zAH (fun x => x.i) (by kernel_rfl), ⟨by omega, by omega⟩, ⟨by omega, by omega⟩, ⟨by omega, by omega⟩, ⟨by omega, by omega⟩, ⟨by omega, by omega⟩, ⟨by omega, by omega⟩, ⟨by omega, by omega⟩, ⟨by omega, by omega⟩, ?_⟩;have o1 := zQr a7 (k.getD r 0) (w.getD r 0) b4 b5 b6;have o2 := two32 b0 b1 b2;have hx2 : (zNS k w u (r + 1)).map eW = [.int .u32 ((((a7 + bg1 a4 + chS a4 a5 a6 + k.getD r 0 + w.getD r 0) % M32 + (bg0 a0 + mjS a0 a1 a2) % M32) % M32 : Nat) : Int), .int .u32 a0, .int .u32 a1, .int .u32 a2, .int .u32 (((a3 + (a7 + bg1 a4 + chS a4 a5 a6 + k.getD r 0 + w.getD r 0) % M32) % M32 : Nat) : Int), .int .u32 a4, .int .u32 a5, .int .u32 a6] := by
     rw [hx1];simp only [rdS, qB, vU, zK, wL, eW]
    refine ⟨r + 1, by omega, by omega, ?_⟩;refine Sub.of (fun n hn => hF6 n (by have : n.l = L + 2 + 1 := hn; omega)) (by simp only [go_sem, zBF, and_self, wJ]; try trivial) ?_ (by simp [zBL, keys]) (by simp only []; omega);simp only [zA7, Tx.look, o1, o2, zQs, hx2, zKH, Nat.reduceEqDiff, if_true, if_false, and_true]
   ·obtain rfl : r = 64 := by omega
    have f3 : decide (((64 : Nat) : Int) < 64) = false := dF (by omega);rw [← hx] at hr8 ⊢;simp only [f3, zI, go_sem];repeat refine sd2 ?_
    refine loopK.intro _ _ (I := fun j : Nat => ⟨[none, none, none, some (.ptr ⟨L + 1, 0⟩ 0 0), none, none, none, none, none, none, none, none, some (.ptr ⟨L + 2 + 1, 650192⟩ 0 0), none, none, none, none, none, none, none, none, none, none, none, none, none, none, none, none, none, none, none, none, none, none, none, none, none, none, none, none, none, none, none, none, none, none, none, none, none, none, none, none, none, none, none, none, none, none, none, none, none, none, none, none, none, none, none, none, none, none, none, none, none, none, none, none, none, none, none, none, none, none, none, none, none, none, none, none, none, none, none, none, none, none, none, none, none, none, none, none, none, none, none, none, none, none, none, none, none, none, none, none, none, none, none, none, none, none, none, none, none, none, none, none, none, none, none, none, none, none, none, none, none, none, none, none, none, none, none, none, none, none, none, none, none, none, none, none, none, none, none, none, none, none, none, none, none, none, none, none, none, none, none, none, none, none, none, none, none, none, none, none, none, none, none, none, none, none, some (.int .i64 j)] ++ oz 18, [(⟨L + 2 + 1, 650192⟩, .rows 219 8 true true [x.map eW]), (h, .rows 247 10 true true [zCX (adP u x j) tl n])], 10000 * (200 + j + 1)⟩)
     (pre := fun j => j ≤ 8) (μ := fun j => 8 - j) 0 (by omega) ?_ ?_
    ·refine Sub.of (fun n hn => hF6 n (by have : n.l = L + 2 + 1 := hn; omega)) (by simp only [go_sem, zBF]; try trivial) ?_ (by simp [zBL, keys]) (by simp);simp [zA7, Tx.look, zNW hw8.1, q1, z2]
    intro j hj;by_cases hj8 : j < 8
    ·have f4 : decide ((j : Int) < 8) = true := dT (by omega);have gj : ∀ d, (zCX (adP u x j) tl n).getD j d = .int .u32 ((u.getD j 0 : Nat) : Int) := fun d => by rw [zNX (zEH u x j) tl n hj8, zOy u x hj8, if_neg (by omega)]
     have gx : ∀ d, (x.map eW).getD j d = .int .u32 ((x.getD j 0 : Nat) : Int) := fun d => zLu x j d (by rw [hr8.1]; exact hj8)
     have hst := zNY u x tl n hj8;have hal : (zCX (adP u x j) tl n).length = 10 := by simp [zCX, zEH]
     have hxl : (x.map eW).length = 8 := by rw [zL]; exact hr8.1
     simp only [f4, gj, gx, wH, zM, q1, q2, h2, z1, z2, z4, zI, go_sem];repeat refine sd2 ?_
     refine ⟨zAH (fun x => if x = h then 1 else x.i + 2) (by simp only [zDN, List.map, z1, h2, if_true, if_false]; kernel_rfl), ⟨by omega, by omega⟩, ?_⟩;refine ⟨j + 1, by omega, by omega, ?_⟩;have hadd : IntKind.u32.wrap (((u.getD j 0 : Nat) : Int) + ((x.getD j 0 : Nat) : Int)) = (((u.getD j 0 + x.getD j 0) % M32 : Nat) : Int) := by rw [← vM, zI8, show M32 = 2 ^ 32 from rfl]
     refine Sub.of (fun n hn => hF6 n (by have : n.l = L + 2 + 1 := hn; omega)) (by simp only [go_sem, zBF, and_self, wJ]; try trivial) ?_ (by simp [zBL, keys]) (by simp only []; omega);simp only [zA7, Tx.look, hadd, hst, z1, z2, if_true, if_false, and_true]
    ·obtain rfl : j = 8 := by omega
     have f4 : decide (((8 : Nat) : Int) < 8) = false := dF (by omega);rw [zOz];simp only [f4, zI, go_sem];refine ⟨rfl, _, Sub.refl _ _ _, [], rfl, by simp, ⟨by omega, ?_, trivial⟩, ?_⟩
     ·rw [zCR (.inl (by omega))];exact .pure (by simp [Tx.look, z2])
     ·simp [UpdAll, keys]
 ·simp only [h1, Nm.mk.injEq, go_sem];exact po0 (.tup []) ⟨hh, by simp [Tx.look, h1, BW], trivial⟩
theorem zN9 {l : List Nat} (hl : l.length = 8) (tl : List UInt8) (n : Int) (d : PV) : (zCX l tl n).getD 8 d = .str tl := by
 match l, hl with
 | [_, _, _, _, _, _, _, _], _ => rfl
theorem zOA {l : List Nat} (hl : l.length = 8) (tl : List UInt8) (n : Int) (d : PV) : (zCX l tl n).getD 9 d = .int .i64 n := by
 match l, hl with
 | [_, _, _, _, _, _, _, _], _ => rfl
theorem zO0 {l : List Nat} (hl : l.length = 8) (tl t : List UInt8) (n : Int) : List.take 8 (zCX l tl n) ++ [.str t] ++ List.drop 9 (zCX l tl n) = zCX l t n := by
 match l, hl with
 | [_, _, _, _, _, _, _, _], _ => rfl
theorem zO1 {l : List Nat} (hl : l.length = 8) (tl : List UInt8) (n m : Int) : List.take 9 (zCX l tl n) ++ [.int .i64 m] ++ List.drop 10 (zCX l tl n) = zCX l tl m := by
 match l, hl with
 | [_, _, _, _, _, _, _, _], _ => rfl
theorem zDq {l : List Nat} (hl : l.length = 8) (tl : List UInt8) (n : Int) : (zCX l tl n).length = 10 := by simp [zCX, hl]
theorem zHe (l : List Nat) (tl : List UInt8) (n : Int) : nfl (zCX l tl n) = true := by rw [zCX, zGO, zE4]; rfl
theorem zP9 {F : SF} {L nx : Nat} (h : Nm) (hh : h.l ≤ L) (v k : List Nat) (hv : W8 v) (hk : k.length = 64) (hk2 : ∀ i, k.getD i 0 < M32) (s tl : List UInt8) (hl : tl.length + s.length ≤ 1000000) (n : Nat) (hn : n ≤ 1000000000) (hF : F h = some (.rows 247 10 true true [zCX v tl n])) :
  Con Tryz.prog 150 [.ptr h 0 0, .str s, .agg (k.map eW)] F L nx nx (.tup []) [(h, .rows 247 10 true true [zCX (zBk k v (tl ++ s) ((tl ++ s).length / 64)) ((tl ++ s).drop ((tl ++ s).length / 64 * 64)) ((n + s.length : Nat) : Int)])] [h] := by
 have hkm : (k.map eW).length = 64 := by rw [zL, hk]
 have hkn := zE4 k;have hlen : (tl ++ s).length = tl.length + s.length := zQ;obtain ⟨t, ht⟩ : ∃ t, t = tl ++ s := ⟨_, rfl⟩;rw [← ht] at hlen ⊢;have htl : t.length ≤ 1000000 := by omega
 have hm := fun (F : SF) (L nx : Nat) (hh : h.l ≤ L) (hF : F h = _) => zN8 (F := F) (L := L) (nx := nx) h hh v k hv hk hk2 t htl tl n hF
 have hm8 := zGP hv k t (t.length / 64);obtain ⟨u, hu⟩ : ∃ u, u = zBk k v t (t.length / 64) := ⟨_, rfl⟩;rw [← hu] at hm hm8 ⊢;obtain ⟨kk, hkk⟩ : ∃ kk, kk = k.map eW := ⟨_, rfl⟩;rw [← hkk] at hkm hkn hm ⊢;have hc := fun F L nx => zLs (F := F) (L := L) (nx := nx) (t.drop (t.length / 64 * 64)) (by rw [vT]; omega)
 refine bdy Tryz.f150 (hrd := (by simp; omega)) ?_;intro F3 hF1 hF2;have kh : F3 h = some (.rows 247 10 true true [zCX v tl n]) := (hF1 h (by simp)).trans hF;have h1 : ∀ k, (h = (⟨L + 1, k⟩ : Nm)) = False := zAF hh;have h2 : ∀ k, ((⟨L + 1, k⟩ : Nm) = h) = False := zAE hh;have r8 := zN9 hv.1 tl n;have r9 := zOA hm8.1 (t.drop (t.length / 64 * 64)) n;have n1 := zHe v tl n;have l1 := zDq hv.1 tl n;have l2 := zDq hm8.1 tl n;have l3 := zDq hm8.1 (t.drop (t.length / 64 * 64)) n;have s8 := zO0 hm8.1 tl (t.drop (t.length / 64 * 64)) n;have s9 := zO1 hm8.1 (t.drop (t.length / 64 * 64)) n;simp only [Tryz.f150, hkm, hkn, kh, r8, ← ht, h1, go_sem];repeat refine sd2 ?_
 refine CallVC.same (hm _ _ _ (by omega) (by simp [h1, kh])) ?_;have q1 : (t.length : Int).tdiv 64 = ((t.length / 64 : Nat) : Int) := by
  rw [Int.tdiv_eq_ediv_of_nonneg (by omega)]; rfl
 have q2 : (((t.length / 64 : Nat) : Int) * 64) = ((t.length / 64 * 64 : Nat) : Int) := by omega
 have q3 : t.length / 64 * 64 ≤ t.length := by omega
 have q4 : List.take (t.length - t.length / 64 * 64) (t.drop (t.length / 64 * 64)) = t.drop (t.length / 64 * 64) := zU (by rw [vT]; omega);simp only [q1, q2, q4, h1, go_sem];repeat refine sd2 ?_
 refine CallVC.same (hc _ _ _) ?_;simp only [kh, r9, s8, s9, h1, go_sem];repeat refine sd2 ?_
 exact po0 (.tup []) ⟨hh, by simp [Tx.look, h1, BW], trivial⟩
theorem zEd (t : List UInt8) : ∀ row ∈ t.map zBd, zG7 row := by
 intro row h;obtain ⟨b, _, rfl⟩ := List.mem_map.1 h;exact ⟨_, rfl⟩
theorem row_of (x : Nat) : [[PV.int .u8 (IntKind.u8.wrap (x : Int))]] = ([UInt8.ofNat (x % 256)] : List UInt8).map zBd := by
 have h1 : IntKind.u8.wrap (x : Int) = ((x % 256 : Nat) : Int) := by simp [IntKind.wrap, IntKind.signed, IntKind.bits]
 have h2 : (UInt8.ofNat (x % 256)).toNat = x % 256 := by simp
 rw [h1];simp only [zK, wL, zBd, h2]
theorem zLv (m v : Nat) {j : Nat} (hj : j < m) : (zAd m v).take (j + 1) = (zAd m v).take j ++ [UInt8.ofNat (v / 256 ^ (m - 1 - j) % 256)] := by
 have h : j < (zAd m v).length := by rw [zAQ]; exact hj
 rw [qI h];congr 2;simp [zAd]
theorem zQu (x : Nat) : [[PV.int .u8 (IntKind.u8.wrap ((x / 2 ^ 24 : Nat) : Int))], [PV.int .u8 (IntKind.u8.wrap ((x / 2 ^ 16 : Nat) : Int))], [PV.int .u8 (IntKind.u8.wrap ((x / 2 ^ 8 : Nat) : Int))], [PV.int .u8 (IntKind.u8.wrap (x : Int))]] = (zAd 4 x).map zBd := by
 have h1 : ∀ a : Nat, IntKind.u8.wrap (a : Int) = (((UInt8.ofNat (a % 256)).toNat : Nat) : Int) := by intro a; simp [IntKind.wrap, IntKind.signed, IntKind.bits]
 simp only [h1];simp [zAd, List.range, List.range.loop, zBd]
theorem zQA {F : SF} {L nx : Nat} (v k : List Nat) (hv : W8 v) (hk : k.length = 64) (hk2 : ∀ i, k.getD i 0 < M32) (tl : List UInt8) (hl : tl.length < 64) (n : Nat) (hn : n ≤ 1000000000) :
  Con Tryz.prog 151 [.agg (zCX v tl n), .agg (k.map eW)] F L nx nx (.str (zIA (zBk k v (zIT tl n) ((zIT tl n).length / 64)))) [] [] := by
 have hkm : (k.map eW).length = 64 := by rw [zL, hk]
 have hkn := zE4 k;obtain ⟨kk, hkk⟩ : ∃ kk, kk = k.map eW := ⟨_, rfl⟩;have r8 := zN9 hv.1 tl n;have r9 := zOA hv.1 tl n;have n1 := zHe v tl n;have l1 := zDq hv.1 tl n;have hr9 : ∀ d, (zCX v tl n).getD 9 d = .int .i64 n := r9;have e1 : ((119 : Int) - (tl.length : Int)).tmod 64 = (((119 - tl.length) % 64 : Nat) : Int) := by
  rw [qC (by omega)]; omega
 have hw1 : IntKind.u64.wrap (IntKind.u64.wrap (n : Int) * 8) = ((8 * n : Nat) : Int) := by
  rw [wu64, zT (by omega), show ((n : Int) * 8) = ((8 * n : Nat) : Int) by omega, wu64, zT (by omega)]
 obtain ⟨z, hz⟩ : ∃ z, z = (119 - tl.length) % 64 := ⟨_, rfl⟩;have hz64 : z < 64 := by omega
 have hzr : List.take z (List.replicate z [PV.int .u8 0]) = (List.replicate z (0 : UInt8)).map zBd := by
  rw [zU (by simp), List.map_replicate]; rfl
 have hbz := zBV (List.replicate z (0 : UInt8));obtain ⟨pre, hpre⟩ : ∃ pre, pre = tl ++ [128] ++ List.replicate z 0 := ⟨_, rfl⟩;have hpl : pre.length ≤ 200 := by rw [hpre]; simp; omega
 have hclo : zIT tl n = pre ++ zAd 8 (8 * n) := by rw [hpre, hz, zIT]; simp only [vR]
 rw [← hz] at e1;rw [← hkk] at hkm hkn ⊢;refine bdy Tryz.f151 ?_;intro F3 hF1 hF2;simp only [Tryz.f151, hkm, hkn, r8, r9, l1, n1, e1, hw1, hzr, hbz, ← hpre, go_sem];repeat refine sd2 ?_
 refine ⟨⟨by simp, zEd _⟩, by simp; omega, zAH (fun x => x.i) (by kernel_rfl), ?_⟩;refine loopK.intro _ _ (I := fun j : Nat => ⟨[none, none, some (.ptr ⟨L + 1, 0⟩ 0 0), some (.ptr ⟨L + 1, 32⟩ 0 0), some (.str []), some (.str (pre ++ (zAd 8 (8 * n)).take j)), some (.int .u64 ((8 * n : Nat) : Int)), some (.int .i64 (56 - 8 * (j : Int)))] ++ oz 59, [(⟨L + 1, 0⟩, .rows 247 10 true true [zCX v tl n]), (⟨L + 1, 32⟩, .rows 220 64 true true [kk])], 10000 * (j + 1)⟩)
  (pre := fun j => j ≤ 8) (μ := fun j => 8 - j) 0 (by omega) ?_ ?_
 ·refine Sub.of (hfz hF2) (by simp only [go_sem, zBF, List.take_zero, vQ]; try trivial) ?_ (by simp [zBL, keys]) (by simp);simp [zA7, Tx.look]
 intro j hj;by_cases hlt : j < 8
 ·have f1 : decide ((56 - 8 * (j : Int)) ≥ 0) = true := dT (by omega);have f1' : decide ((0 : Int) ≤ (56 - 8 * (j : Int))) = true := dT (by omega);have hsh := zQZ (8 * n) (7 - j) (b := 56 - 8 * (j : Int)) (by omega) (by omega);have hrw := row_of (8 * n / 256 ^ (7 - j));have htk := zLv 8 (8 * n) hlt;rw [show 8 - 1 - j = 7 - j by omega] at htk;obtain ⟨c, hc⟩ : ∃ c, c = UInt8.ofNat (8 * n / 256 ^ (7 - j) % 256) := ⟨_, rfl⟩;rw [← hc] at hrw htk;have hbc := zBV [c];have hbc2 : zB8 [zBd c] = [c] := zBV [c];simp only [f1, hsh, hrw, kS2, zI, go_sem];repeat refine sd2 ?_
  refine ⟨zEd [c], by simp [hbc2, zAQ]; omega, ⟨by omega, by omega⟩, ?_⟩;refine ⟨j + 1, by omega, by omega, ?_⟩;have e7 : (56 - 8 * (j : Int) - 8) = 56 - 8 * ((j + 1 : Nat) : Int) := by omega
  rw [htk, e7];refine Sub.of (hfz hF2) (by simp only [go_sem, zBF, and_self, vR, hbc2]; try trivial) ?_ (by simp [zBL, keys]) (by simp only []; omega);simp [zA7, Tx.look]
 ·obtain rfl : j = 8 := by omega
  have f1 : decide ((56 - 8 * ((8 : Nat) : Int)) ≥ 0) = false := dF (by omega);have f1' : decide ((0 : Int) ≤ (56 - 8 * ((8 : Nat) : Int))) = false := dF (by omega);have ht8 : (zAd 8 (8 * n)).take 8 = zAd 8 (8 * n) := zU (by rw [zAQ]; omega);rw [ht8, ← hclo];have hm := fun (F : SF) (nx : Nat) (hF : F ⟨L + 1, 0⟩ = _) => zN8 (F := F) (L := L + 1) (nx := nx) ⟨L + 1, 0⟩ (by simp) v k hv hk hk2 (zIT tl n) (by rw [hclo, zQ, zAQ]; omega) tl n hF
  have hm8 := zGP hv k (zIT tl n) ((zIT tl n).length / 64);obtain ⟨u, hu⟩ : ∃ u, u = zBk k v (zIT tl n) ((zIT tl n).length / 64) := ⟨_, rfl⟩;rw [← hu, ← hkk] at hm;rw [← hu] at hm8 ⊢;have hun := zHe u tl n;have hul := zDq hm8.1 tl n;have hut : List.take 8 (zCX u tl n) = u.map eW := by rw [zCX, uD (by rw [zL, hm8.1]; omega), zU (by rw [zL, hm8.1]; omega)]
  simp only [f1, go_sem];repeat refine sd2 ?_
  refine CallVC.same (hm _ _ (by simp [Tx.look])) ?_;simp only [hut, go_sem];repeat refine sd2 ?_
  refine loopK.intro _ _ (I := fun y : Nat × Nat => ⟨[none, none, none, none, some (.str []), none, none, none, some (.sl ⟨L + 1, y.2⟩ 0 (4 * y.1)), none, none, none, none, none, none, none, none, none, none, none, none, none, none, none, none, none, none, none, none, none, none, none, none, none, none, none, none, none, none, none, none, none, none, none, none, none, some (.agg (u.map eW)), some (.int .i64 y.1)] ++ oz 19, [(⟨L + 1, 0⟩, .rows 247 10 true true [zCX u tl n]), (⟨L + 1, 32⟩, .rows 220 64 true true [kk]), (⟨L + 1, y.2⟩, .rows 5 1 true true ((zIA (u.take y.1)).map zBd))], 10000 * (9 + y.1 + 1)⟩)
   (pre := fun y => y.1 ≤ 8 ∧ 100 ≤ y.2 ∧ y.2 < 10000 * (9 + y.1 + 1)) (μ := fun y => 8 - y.1) (0, 90288) ⟨by simp, by simp, by simp⟩ ?_ ?_
  ·refine Sub.trans (zTK 8 5 (wd := 1) (by omega) rfl) ?_;refine Sub.of (hfz hF2) (by simp only [Nat.mul_zero, go_sem, zBF, and_self, wM]; try trivial) ?_ ?_ ?_;·simp [zA7, Tx.look, zAv, setH, zIA]
   ·simp [zBL, keys, zAv, setH]
   ·simp
  rintro ⟨j, q⟩ ⟨hj, hq0, hq⟩
  simp only at hj hq0 hq ⊢;obtain ⟨i, hi⟩ : ∃ i, i = 9 + j := ⟨_, rfl⟩;rw [← hi] at hq ⊢;have q_0 : (q = 0) = False := by apply eq_false; omega
  have n0_q : (0 = q) = False := by apply eq_false; omega
  have q_32 : (q = 32) = False := by apply eq_false; omega
  have n32_q : (32 = q) = False := by apply eq_false; omega
  obtain ⟨q_n1, q_n2, q_n3, q_n4, q_n5⟩ := nqL L (i := i) (p := q) (by omega);have hoc : (zIA (u.take j)).length = 4 * j := by
   have : ∀ l : List Nat, (zIA l).length = 4 * l.length := by
    intro l;induction l with
    | nil => rfl
    | cons a l ih => simp only [zIA, uN, zQ, wR, zAQ] at ih ⊢; omega
   rw [this, vF, hm8.1]; omega
  by_cases hlt : j < 8
  ·have f3 : decide ((j : Int) < 8) = true := dT (by omega);have gj : ∀ d, (u.map eW).getD j d = .int .u32 ((u.getD j 0 : Nat) : Int) := fun d => zLu u j d (by rw [hm8.1]; exact hlt)
   have gl : (u.map eW).length = 8 := by rw [zL]; exact hm8.1
   have k5 : zIA (u.take (j + 1)) = zIA (u.take j) ++ zAd 4 (u.getD j 0) := by
    have hjl : j < u.length := by rw [hm8.1]; exact hlt
    have hgd : u.getD j 0 = u[j] := by simp [zG, hjl]
    rw [qI hjl, hgd];simp only [zIA, List.flatMap_append, uN, List.flatMap_nil, vQ]
   have hx := hm8.2 j;obtain ⟨x, hx0⟩ : ∃ x, x = u.getD j 0 := ⟨_, rfl⟩;rw [← hx0] at gj k5 hx;have s1 := zG2 x 24 (by omega);have s2 := zG2 x 16 (by omega);have s3 := zG2 x 8 (by omega);simp only [f3, gj, gl, s1, s2, s3, wH, zL, q_0, q_32, q_n1, q_n2, q_n5, kS2, kS3, zI, go_sem];repeat refine sd2 ?_
   have hr4 := zQu x;refine ⟨(j + 1, 10000 * (i + 1) + 512), ⟨by simp only []; omega, by simp only []; omega, by simp only []; omega⟩, by simp only []; omega, ?_⟩;refine Sub.of (hfz hF2) (by simp only [Nat.mul_add, wH, go_sem, zBF, and_self, wJ]; try trivial) ?_ (by simp [zBL, keys]) (by simp only []; omega);simp only [hr4, k5, uC];simp [zA7, Tx.look, q_n1, nB, kS2]
  ·obtain rfl : j = 8 := by omega
   have f3 : decide (((8 : Nat) : Int) < 8) = false := dF (by omega);have hu9 : u.take 8 = u := zU (by rw [hm8.1]; omega);rw [hu9] at hoc ⊢;have hb9 := zBV (zIA u);have ht9 : List.take (4 * 8) ((zIA u).map zBd) = (zIA u).map zBd := zU (by rw [zL]; omega);simp only [f3, ht9, hb9, zL, q_0, q_32, zI, go_sem];repeat refine sd2 ?_
   refine ⟨⟨by omega, zEd _⟩, ?_⟩;exact ps0
def zA8 (k v : List Nat) (ls : List (List UInt8)) : Nat → List Nat × List UInt8 × Nat
 | 0 => (v, [], 0)
 | j + 1 => (zBk k (zA8 k v ls j).1 ((zA8 k v ls j).2.1 ++ ls.getD j []) (((zA8 k v ls j).2.1 ++ ls.getD j []).length / 64), ((zA8 k v ls j).2.1 ++ ls.getD j []).drop (((zA8 k v ls j).2.1 ++ ls.getD j []).length / 64 * 64), (zA8 k v ls j).2.2 + (ls.getD j []).length)
theorem zLw {v : List Nat} (hv : W8 v) (k : List Nat) (ls : List (List UInt8)) : ∀ j, W8 (zA8 k v ls j).1
 | 0 => hv
 | j + 1 => zGP (zLw hv k ls j) _ _ _
theorem zNZ (k v : List Nat) (ls : List (List UInt8)) : ∀ j, (zA8 k v ls j).2.1.length < 64
 | 0 => by simp [zA8]
 | j + 1 => by simp only [zA8, vT]; omega
theorem zLx {ls : List (List UInt8)} (hs : ∀ s ∈ ls, s.length ≤ 10000) (j : Nat) : (ls.getD j []).length ≤ 10000 := by
 by_cases h : j < ls.length
 ·have : ls.getD j [] = ls[j] := by simp [zG, h]
  rw [this]; exact hs _ (uU h)
 ·rw [zG, vK (by omega)]; simp
theorem zLy (k v : List Nat) {ls : List (List UInt8)} (hs : ∀ s ∈ ls, s.length ≤ 10000) : ∀ j, (zA8 k v ls j).2.2 ≤ 10000 * j
 | 0 => by simp [zA8]
 | j + 1 => by
  have := zLy k v hs j;have := zLx hs j;simp only [zA8]; omega
theorem zQB {F : SF} {L nx : Nat} (v k : List Nat) (hv : W8 v) (hk : k.length = 64) (hk2 : ∀ i, k.getD i 0 < M32) (m : Nm) (hm : m.l ≤ L) (o p : Bool) (ls : List (List UInt8)) (hl : ls.length ≤ 100) (hs : ∀ s ∈ ls, s.length ≤ 10000) (hF : F m = some (.rows 9 1 o p (ls.map fun s => [.str s]))) :
  Con Tryz.prog 144 [.agg (v.map eW ++ k.map eW), .sl m 0 ls.length] F L nx nx (.str (zIA (zBk k (zA8 k v ls ls.length).1 (zIT (zA8 k v ls ls.length).2.1 (zA8 k v ls ls.length).2.2) ((zIT (zA8 k v ls ls.length).2.1 (zA8 k v ls ls.length).2.2).length / 64)))) [] [m] := by
 have hkm : (k.map eW).length = 64 := by rw [zL, hk]
 have hvm : (v.map eW).length = 8 := by rw [zL, hv.1]
 have hkn := zE4 k;have hvn := zE4 v;obtain ⟨vv, hvv⟩ : ∃ vv, vv = v.map eW := ⟨_, rfl⟩;obtain ⟨kk, hkk⟩ : ∃ kk, kk = k.map eW := ⟨_, rfl⟩;rw [← hkk] at hkm hkn ⊢;rw [← hvv] at hvm hvn ⊢;have hlen : (vv ++ kk).length = 72 := by rw [zQ]; omega
 have hnf : nfl (vv ++ kk) = true := by rw [zGO, hvn, hkn]; rfl
 have ht : List.take 8 (vv ++ kk) = vv := by rw [uD (by omega), zU (by omega)]
 have hd : List.drop 8 (vv ++ kk) = kk := by rw [qA (by omega), vV (by omega), zD]
 have ht2 : List.take 64 kk = kk := zU (by omega);refine bdy Tryz.f144 (hrd := (by simp; omega)) ?_;intro F3 hF1 hF2;have hFm : F3 m = some (.rows 9 1 o p (ls.map fun s => [.str s])) := (hF1 m (by simp)).trans hF;have m1 : ∀ k, (m = (⟨L + 1, k⟩ : Nm)) = False := zAF hm;have m2 : ∀ k, ((⟨L + 1, k⟩ : Nm) = m) = False := zAE hm;have hrow : vv ++ [PV.str [], PV.int .i64 0] = zCX v [] 0 := by rw [hvv]; rfl
 have hrl := zDq hv.1 [] 0;have hrn := zHe v [] 0;simp only [Tryz.f144, hlen, hnf, ht, hvm, go_sem];repeat refine sd2 ?_
 simp only [hrow, hrl, List.drop_succ_cons, List.drop_nil, vQ, hrn];refine ⟨trivial, trivial, ?_⟩;refine loopK.intro _ _ (I := fun j : Nat => ⟨[none, none, some (.ptr ⟨L + 1, 0⟩ 0 0), none, some (.str []), some (.ptr ⟨L + 1, 192⟩ 0 0), none, none, none, none, none, none, some (.sl m 0 ls.length), some (.int .i64 ls.length), some (.int .i64 j)] ++ oz 12, [(⟨L + 1, 0⟩, .rows 222 72 true true [vv ++ kk]), (⟨L + 1, 192⟩, .rows 247 10 true true [zCX (zA8 k v ls j).1 (zA8 k v ls j).2.1 ((zA8 k v ls j).2.2 : Nat)])], 10000 * (j + 1)⟩)
  (pre := fun j => j ≤ ls.length) (μ := fun j => ls.length - j) 0 (by omega) ?_ ?_
 ·refine Sub.of (hfz hF2) (by simp only [go_sem, zBF]; try trivial) ?_ (by simp [zBL, keys]) (by simp);simp [zA7, Tx.look, zA8]
 intro j hj;have hw := zLw hv k ls j;have htl := zNZ k v ls j;have hn := zLy k v hs j;by_cases hlt : j < ls.length
 ·have f1 : decide ((j : Int) < (ls.length : Int)) = true := dT (by omega);have hll : (ls.map fun s => [PV.str s]).length = ls.length := zL ..;have hget : ((ls.map fun s => [PV.str s]).getD j []).getD 0 (.tup []) = .str (ls.getD j []) := by simp [hlt, zG]
  have hg := zLx hs j;have ha := fun (F : SF) (nx : Nat) (hF : F ⟨L + 1, 192⟩ = _) => zP9 (F := F) (L := L + 1) (nx := nx) ⟨L + 1, 192⟩ (by simp) _ k hw hk hk2 (ls.getD j []) (zA8 k v ls j).2.1 (by omega) (zA8 k v ls j).2.2 (by omega) hF
  have hnx : zA8 k v ls (j + 1) = _ := rfl;simp only [← hkk] at ha;simp only [f1, hFm, hget, hll, m1, hd, ht2, zI, go_sem];repeat refine sd2 ?_
  refine CallVC.same (ha _ _ (by simp [Tx.look])) ?_;simp only [zI, go_sem];repeat refine sd2 ?_
  refine ⟨j + 1, by omega, by omega, ?_⟩;refine Sub.of (hfz hF2) (by simp only [go_sem, zBF, and_self, wJ]; try trivial) ?_ (by simp [zBL, keys]) (by simp only []; omega);simp only [zA7, Tx.look, zA8, zKH, Nat.reduceEqDiff, if_true, if_false, and_true];try simp
 ·obtain rfl : j = ls.length := by omega
  have f1 : decide ((ls.length : Int) < (ls.length : Int)) = false := dF (by omega);have he := fun (F : SF) (L nx : Nat) => zQA (F := F) (L := L) (nx := nx) _ k hw hk hk2 _ htl (zA8 k v ls ls.length).2.2 (by omega : (zA8 k v ls ls.length).2.2 ≤ 1000000000)
  simp only [← hkk] at he;simp only [f1, hd, ht2, zI, go_sem];repeat refine sd2 ?_
  refine CallVC.same (he _ _ _) ?_;simp only [zI, go_sem];exact ps0
theorem zEe {k v : List Nat} {a b : List UInt8} : ∀ i, 64 * i ≤ a.length → zBk k v (a ++ b) i = zBk k v a i
 | 0, _ => rfl
 | i + 1, h => by
  rw [zBk, zBk, zEe i (by omega), qA (by omega), uD (by rw [vT]; omega)]
theorem zEI (k v : List Nat) (s : List UInt8) (i : Nat) : ∀ j, zBk k v s (i + j) = zBk k (zBk k v s i) (s.drop (64 * i)) j
 | 0 => rfl
 | j + 1 => by
  rw [← zI, zBk, zBk, zEI k v s i j, List.drop_drop, Nat.mul_add]
theorem zJm (k v : List Nat) (ls : List (List UInt8)) : ∀ j, j ≤ ls.length → zA8 k v ls j = (zBk k v (ls.take j).flatten ((ls.take j).flatten.length / 64), (ls.take j).flatten.drop ((ls.take j).flatten.length / 64 * 64), (ls.take j).flatten.length)
 | 0, _ => by simp [zA8, zBk]
 | j + 1, h => by
  have hg : ls.getD j [] = ls[j] := by simp [zG, show j < ls.length by omega]
  have hf : (ls.take (j + 1)).flatten = (ls.take j).flatten ++ ls[j] := by
   rw [qI (by omega), List.flatten_append];simp only [List.flatten_cons, List.flatten_nil, vQ]
  rw [zA8, zJm k v ls j (by omega), hg, hf];generalize (ls.take j).flatten = t;generalize ls[j] = s;simp only;obtain ⟨m, hm⟩ : ∃ m, m = t.length / 64 := ⟨_, rfl⟩;rw [← hm];have hd : t.drop (m * 64) ++ s = (t ++ s).drop (64 * m) := by rw [vC m, qA (by omega)]
  have hl : ((t ++ s).drop (64 * m)).length = (t ++ s).length - 64 * m := vT ..;have hq : (t ++ s).length / 64 = m + ((t ++ s).length - 64 * m) / 64 := by
   have : (t ++ s).length = t.length + s.length := zQ;omega
  rw [hd, hl, ← zEe (b := s) m (by omega), ← zEI, ← hq, List.drop_drop, zQ];congr 3;rw [zQ] at hq;omega
theorem zO2 (k v : List Nat) (ls : List (List UInt8)) : zIA (zBk k (zA8 k v ls ls.length).1 (zIT (zA8 k v ls ls.length).2.1 (zA8 k v ls ls.length).2.2) ((zIT (zA8 k v ls ls.length).2.1 (zA8 k v ls ls.length).2.2).length / 64)) = zMd k v ls.flatten := by
 rw [zJm k v ls _ (zB _), List.take_length];generalize ls.flatten = s;simp only [zMd];congr 1;obtain ⟨m, hm⟩ : ∃ m, m = s.length / 64 := ⟨_, rfl⟩;rw [← hm];generalize zIT (s.drop (m * 64)) s.length = c;have ht : (s.take (m * 64)).length = 64 * m := by rw [vF]; omega
 have h1 : zBk k v s m = zBk k v (s.take (m * 64) ++ c) m := by
  rw [zEe m (by omega)];have h2 := zEe (k := k) (v := v) (a := s.take (m * 64)) (b := s.drop (m * 64)) m (by omega);rw [List.take_append_drop] at h2;exact h2
 have h3 : (m * 64 + c.length) / 64 = m + c.length / 64 := by omega
 rw [h3, zEI, ← h1, List.drop_append, ht, Nat.sub_self, uT, vV (by omega), zD]
end Go.Proofs.YtifhjhbfhdcahaaGreat
end
