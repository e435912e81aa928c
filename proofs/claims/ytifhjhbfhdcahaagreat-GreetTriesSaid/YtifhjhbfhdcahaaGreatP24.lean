/- Lemmas for the walk: GD44, GK107, GR50. -/
import Derived.Test.YtifhjhbfhdcahaaGreatP22
import Derived.Test.YtifhjhbfhdcahaaGreatP23
import Derived.Test.YtifhjhbfhdcahaaGreatP10
import Derived.Test.YtifhjhbfhdcahaaGreatRows
import Derived.ProofKit
import Derived.OpenShut
import Derived.LaidMore
import Derived.Lay
set_option linter.all false
section
namespace Go.Proofs.YtifhjhbfhdcahaaGreat
open Go.Tx
set_option maxRecDepth 100000
set_option maxHeartbeats 16000000
theorem sideG_hd (s : Bool) {n : Nat} (h : n < 65536) : (sideG s n).hd = true := by
 rw [gd_hd]
 have hp : plainB (sideG s n).own = true := by
  unfold plainB Ini.ok serB sideG
  cases s <;> simp <;> omega
 refine ⟨?_, ?_, ?_, ?_, ?_, hp, by cases s <;> rfl⟩ <;> cases s <;> simp [sideG]
theorem sideG_ok (s : Bool) {n : Nat} (h : n < 65536) : (sideG s n).ok = true := by
 rw [gd_ok]
 exact ⟨sideG_hd s h, by cases s <;> rfl, by cases s <;> rfl⟩
def tryG (g : Gx) (i : Nat) (now at1 : Int) : Gx := { g with st := 2, ta := at1, due := now + wtS i, tr := (i : Int) + 1, ck := [], peer := zIni }
def tryP (g : Gx) : Pkx := ⟨g.fr, g.tt, 0, [⟨1, 0, g.own.oct⟩]⟩
theorem wtS_rng (i : Nat) : 400 ≤ wtS i ∧ wtS i ≤ 6400 := by
 unfold wtS
 have : (1 : Int) ≤ 2 ^ i := by exact_mod_cast Nat.one_le_two_pow
 have h : ((i : Int)).toNat = i := by omega
 rw [h]
 omega
theorem wtS_next (i : Nat) : wtS ((i : Int) + 1) = min (2 * wtS i) 6400 := by
 unfold wtS
 have h : ((i : Int)).toNat = i := by omega
 have h1 : ((i : Int) + 1).toNat = i + 1 := by omega
 rw [h, h1, Int.pow_succ]
 omega
theorem tryG_ok {g : Gx} (hg : g.hd = true) {i : Nat} (hi : i < 8) {now at1 : Int} (hn : 0 ≤ now ∧ now ≤ 1000000000) (ha : 0 ≤ at1 ∧ at1 ≤ 1000000000) : (tryG g i now at1).ok = true := by
 rw [gd_ok]
 rw [gd_hd] at hg
 have hw := wtS_rng i
 refine ⟨?_, ?_, rfl⟩
 ·rw [gd_hd]
  obtain ⟨h1, h2, h3, h4, h5, h6, h7⟩ := hg
  exact ⟨h1, h2, h3, h4, h5, h6, (timB_iff at1).2 (by omega)⟩
 ·unfold Gx.mid tryG Gx.tries
  simp
  omega
theorem try0 {g : Gx} (hg : g.ok = true) (hst : g.st = 1) (hta : g.ta = 0) (hp : g.peer = zIni) {p : Pkx} : gStep g 0 1 p = (tryG g 0 0 0, [tryP g], 0) := by
 rw [step_open hg (by decide) (by omega) hst]
 unfold gBegin tryG gSend tryP
 simp only [hp]
 rfl
theorem tryA {g : Gx} (hg : g.hd = true) {i : Nat} (hi : i < 8) {now : Int} (hn : 0 ≤ now ∧ now ≤ 1000000000) {p : Pkx} : gStep (tryG g i now now) (now + wtS i - 1) 4 p = (tryG g i now (now + wtS i - 1), [], 0) := by
 have hw := wtS_rng i
 rw [step_tm (tryG_ok hg hi hn hn) ((timB_iff _).2 (by omega)) (show now ≤ now + wtS i - 1 by omega)]
 unfold gTick
 rw [if_pos (.inr (show now + wtS i - 1 < now + wtS i by omega))]
 rfl
theorem tick_again {g : Gx} {now : Int} (h1 : 0 ≤ g.due) (h2 : g.due ≤ now) (h3 : g.tr ≠ 8) : gTick g now = ({ g with due := now + wtS g.tr, tr := g.tr + 1 }, gAgain g) := by
 unfold gTick
 rw [if_neg (by omega), if_neg h3]
theorem tick_gone {g : Gx} {now : Int} (h1 : 0 ≤ g.due) (h2 : g.due ≤ now) (h3 : g.tr = 8) : gTick g now = (gRest g 7, []) := by
 unfold gTick
 rw [if_neg (by omega), if_pos h3]
theorem tryB {g : Gx} (hg : g.hd = true) {i : Nat} (hi : i < 7) {now l : Int} (hn : 0 ≤ now ∧ now ≤ 900000000) (hl : 0 ≤ l ∧ l ≤ 255) {p : Pkx} : gStep (tryG g i now (now + wtS i - 1)) (now + wtS i + l) 4 p = (tryG g (i + 1) (now + wtS i + l) (now + wtS i + l), [tryP g], 0) := by
 have hw := wtS_rng i
 have h1 := step_tm (p := p) (tryG_ok hg (i := i) (by omega) (now := now) (at1 := now + wtS i - 1) (by omega) (by omega)) (now := now + wtS i + l) ((timB_iff _).2 (by omega)) (show now + wtS i - 1 ≤ now + wtS i + l by omega)
 have h2 := tick_again (g := tryG g i now (now + wtS i + l)) (now := now + wtS i + l) (show 0 ≤ now + wtS i by omega) (show now + wtS i ≤ now + wtS i + l by omega) (show ((i : Int) + 1) ≠ 8 by omega)
 exact h1.trans (congrArg (fun r : Gx × List Pkx => (r.1, r.2, (0 : Int))) h2)
theorem tryC {g : Gx} (hg : g.hd = true) {now l : Int} (hn : 0 ≤ now ∧ now ≤ 900000000) (hl : 0 ≤ l ∧ l ≤ 255) {p : Pkx} : gStep (tryG g 7 now (now + wtS (7 : Nat) - 1)) (now + wtS (7 : Nat) + l) 4 p = (gRest (tryG g 7 now (now + wtS (7 : Nat) + l)) 7, [], 0) := by
 have hw := wtS_rng 7
 have h1 := step_tm (p := p) (tryG_ok hg (i := 7) (by omega) (now := now) (at1 := now + wtS (7 : Nat) - 1) (by omega) (by omega)) (now := now + wtS (7 : Nat) + l) ((timB_iff _).2 (by omega)) (show now + wtS (7 : Nat) - 1 ≤ now + wtS (7 : Nat) + l by omega)
 have h2 := tick_gone (g := tryG g 7 now (now + wtS (7 : Nat) + l)) (now := now + wtS (7 : Nat) + l) (show 0 ≤ now + wtS (7 : Nat) by omega) (show now + wtS (7 : Nat) ≤ now + wtS (7 : Nat) + l by omega) rfl
 exact h1.trans (congrArg (fun r : Gx × List Pkx => (r.1, r.2, (0 : Int))) h2)
def u8V (b : UInt8) : PV := .int .u8 b.toNat
structure TrI where
 i : Nat
 now : Int
 wn : Nat
 ws : List Pkx
 G : Gx
 wt : Int
def TrI.ok (g : Gx) (x : TrI) : Prop := x.i ≤ 8 ∧ (x.i < 8 → x.G = tryG g x.i x.now x.now ∧ x.ws.length = x.i + 1 ∧ x.wt = wtS x.i) ∧ (x.i = 8 → x.G.st = 7 ∧ x.G.due = -1 ∧ x.G.peer = zIni ∧ x.ws.length = 8) ∧ 0 ≤ x.now ∧ x.now ≤ 7000 * x.i ∧ 30000 ≤ x.wn ∧ x.wn < 60000 + 10000 * x.i
theorem lTries_ok {F : SF} {L nx : Nat} (n : Nat) (hn : n < 65536) (lt : List UInt8) (hlt : lt.length = 8) : Con Tryz.prog 5 [.int .u16 n, .agg (lt.map u8V)] F L nx nx (.bool true) [] [] := by
 have hW := fun F L nx => works33_ok (F := F) (L := L) (nx := nx)
 have hS := fun F L nx => lSides_ok (F := F) (L := L) (nx := nx) n hn
 have gh := sideG_hd false hn
 have go1 := sideG_ok false hn
 have t0 := try0 (p := pk0) go1 rfl rfl rfl
 unfold side0 at hS
 obtain ⟨g, hg⟩ : ∃ g, g = sideG false n := ⟨_, rfl⟩
 obtain ⟨B, hB⟩ : ∃ B, B = sideG true (n / 2) := ⟨_, rfl⟩
 rw [← hg] at gh go1 t0
 simp only [← hg, ← hB, Tk.row] at hS
 have hml : (lt.map u8V).length = 8 := by simp [hlt]
 have hnf : nfl (lt.map u8V) = true := by clear hml hlt; induction lt with
  | nil => rfl
  | cons a l ih => simp only [List.map_cons, nfl, u8V, Tx.nf, Bool.true_and]; exact ih
 have nt : (!true) = false := rfl
 refine Con.bodyT (cxOk (L + 1)) rfl rfl (fn := Tryz.f5) (c := Tryz.f5.body.getD .skip) (by kernel_rfl) (by rfl) (by kernel_rfl) rfl (by simp) ?_
 intro F3 hF1 hF2
 refine vcu ⟨[some (.int .u16 n), none, none, some (.ptr ⟨L + 1, 0⟩ 0 0)] ++ oz 109, [(⟨L + 1, 0⟩, .rows 43 8 true true [lt.map u8V])], 10000⟩ ?_ ?_
 ·simp only [Tryz.f5, hdC, Option.getD_some, cx, hml, hnf, go_sem, meths]
  repeat refine sd2 ?_
  refine ⟨(), (so0 hF2)⟩
 refine vcu ⟨[some (.int .u16 n), none, none, some (.ptr ⟨L + 1, 0⟩ 0 0)] ++ oz 109, [(⟨L + 1, 0⟩, .rows 43 8 true true [lt.map u8V])], 20000⟩ ?_ ?_
 ·simp only [Tryz.f5, hdC, tlC, Option.getD_some, cx, go_sem, meths]
  repeat refine sd2 ?_
  refine CallVC.same (hW _ _ _) ?_
  simp only [nt, go_sem]
  repeat refine sd2 ?_
  refine ⟨(), (so0 hF2)⟩
 refine vcu ⟨[none, none, none, some (.ptr ⟨L + 1, 0⟩ 0 0), none, some (.ptr ⟨L + 1, 20032⟩ 0 0)] ++ oz 107, [(⟨L + 1, 0⟩, .rows 43 8 true true [lt.map u8V]), (⟨L + 1, 20032⟩, .rows 33 43 true true [(gR g (gR B [.nilS, .nilS, .int .i64 0]))])], 30000⟩ ?_ ?_
 ·simp only [Tryz.f5, hdC, tlC, Option.getD_some, cx, go_sem, meths]
  repeat refine sd2 ?_
  refine CallVC.same (hS _ _ _) ?_
  simp only [go_sem]
  repeat refine sd2 ?_
  refine ⟨(), (so0 hF2)⟩
 obtain ⟨G0, hG0⟩ : ∃ G, G = tryG g 0 0 0 := ⟨_, rfl⟩
 obtain ⟨q, hq⟩ : ∃ q, q = tryP g := ⟨_, rfl⟩
 rw [← hG0, ← hq] at t0
 refine vcu ⟨[none, none, none, some (.ptr ⟨L + 1, 0⟩ 0 0), none, some (.ptr ⟨L + 1, 20032⟩ 0 0)] ++ oz 107, [(⟨L + 1, 0⟩, .rows 43 8 true true [lt.map u8V]), (⟨L + 1, 20032⟩, .rows 33 43 true false [(gR G0 (gR B [.nilS, .sl ⟨L + 1, 30032⟩ 0 1, .int .i64 0]))]), (⟨L + 1, 30032⟩, .rows 38 4 true true [(pR q)])], 40000⟩ ?_ ?_
 ·simp only [Tryz.f5, hdC, tlC, Option.getD_some, cx, go_sem, meths]
  repeat refine sd2 ?_
  refine CallVC.gen0 (args2 := [.ptr ⟨L + 1, 20032⟩ 0 0, .int .i64 0, .agg (.int .i64 1 :: pk0.row)]) (by simp [pk0, Pkx.row, WkL, Wk]) (by simp [wkNL, wkN, pk0, Pkx.row]) (does0P0_ok (pu := true) (L := L + 1) ⟨L + 1, 20032⟩ (.inr ⟨rfl, by simp⟩) ⟨g, B, [], [], 0⟩ 1 pk0 (by simp [pk0]) (by simp [pk0]) .nilS outs_nil G0 q t0 (by simp [Tk.row])) ?_
  simp only [Tk.row, List.nil_append, Pkx.row, nt, go_sem]
  repeat refine sd2 ?_
  refine ⟨(), (so0 hF2)⟩
 refine vcu ⟨[none, none, none, some (.ptr ⟨L + 1, 0⟩ 0 0), none, some (.ptr ⟨L + 1, 20032⟩ 0 0), some (.int .i64 400)] ++ oz 106, [(⟨L + 1, 0⟩, .rows 43 8 true true [lt.map u8V]), (⟨L + 1, 20032⟩, .rows 33 43 true false [(gR G0 (gR B [.nilS, .sl ⟨L + 1, 30032⟩ 0 1, .int .i64 0]))]), (⟨L + 1, 30032⟩, .rows 38 4 true true [(pR q)])], 50000⟩ ?_ ?_
 ·simp only [Tryz.f5, hdC, tlC, Option.getD_some, cx, go_sem, meths]
  repeat refine sd2 ?_
  refine ⟨(), (so0 hF2)⟩
 refine VT.cut (cxOk (L + 1)) (by kernel_rfl) (fun x : TrI => ⟨[none, none, none, some (.ptr ⟨L + 1, 0⟩ 0 0), none, some (.ptr ⟨L + 1, 20032⟩ 0 0), some (.int .i64 x.wt), none, none, none, none, none, none, none, none, some (.int .i64 x.i)] ++ oz 97, [(⟨L + 1, 0⟩, .rows 43 8 true true [lt.map u8V]), (⟨L + 1, 20032⟩, .rows 33 43 true false [(gR x.G (gR B [.nilS, .sl ⟨L + 1, x.wn⟩ 0 x.ws.length, .int .i64 x.now]))]), (⟨L + 1, x.wn⟩, .rows 38 4 true true (x.ws.map Pkx.row))], 1000000⟩) (fun x => x.ok g ∧ x.i = 8) ?_ ?_
 ·simp only [Tryz.f5, hdC, tlC, Option.getD_some, cx, go_sem, meths]
  repeat refine sd2 ?_
  refine loopK.intro _ _ (I := fun x : TrI => ⟨[none, none, none, some (.ptr ⟨L + 1, 0⟩ 0 0), none, some (.ptr ⟨L + 1, 20032⟩ 0 0), some (.int .i64 x.wt), none, none, none, none, none, none, none, none, some (.int .i64 x.i)] ++ oz 97, [(⟨L + 1, 0⟩, .rows 43 8 true true [lt.map u8V]), (⟨L + 1, 20032⟩, .rows 33 43 true false [(gR x.G (gR B [.nilS, .sl ⟨L + 1, x.wn⟩ 0 x.ws.length, .int .i64 x.now]))]), (⟨L + 1, x.wn⟩, .rows 38 4 true true (x.ws.map Pkx.row))], 60000 + 10000 * x.i⟩) (pre := fun x => x.ok g) (μ := fun x => 8 - x.i) ⟨0, 0, 30032, [q], G0, 400⟩ ⟨by simp, fun _ => ⟨hG0, rfl, rfl⟩, by simp, by simp, by simp, by simp, by simp⟩ ?_ ?_
  ·exact (so0 hF2 (h2 := by simp [subH, Tx.look, Pkx.row]))
  rintro ⟨i, now, wn, ws, G, wt⟩ ⟨h8, hlt8, he8, hn0, hn1, hw0, hw1⟩
  simp only at h8 hlt8 he8 hn0 hn1 hw0 hw1 ⊢
  have u1 : (wn = 0) = False := eq_false (by omega)
  have u2 : (wn = 20032) = False := eq_false (by omega)
  have u3 : (20032 = wn) = False := eq_false (by omega)
  by_cases hi : i < 8
  ·obtain ⟨hG, hwl, hwt⟩ := hlt8 hi
   have g1 : decide ((i : Int) < 8) = true := dT (by omega)
   have hw := wtS_rng i
   rw [← hwt] at hw
   have hst : (G.st != 2) = false := by rw [hG]; rfl
   have htr : (G.tr != (i : Int) + 1) = false := by rw [hG]; simp [tryG]
   have hdue : G.due = now + wt := by rw [hG, hwt]; rfl
   have hdu : (G.due != now + wt) = false := by rw [hdue]; simp
   have e4 : ((ws.length : Int) != (i : Int) + 1) = false := by rw [hwl]; simp
   have hml9 : (ws.map Pkx.row).length = ws.length := List.length_map ..
   have h500 : ws.length ≤ 1000000 := by omega
   have k1 : (⟨L + 1, wn⟩ : Nm) ≠ ⟨L + 1, 20032⟩ := by simp; omega
   obtain ⟨lv, hlv⟩ : ∃ lv : UInt8, lt[i]? = some lv := ⟨lt[i]'(by omega), by simp⟩
   have hlu := lv.toNat_lt
   have hli : (lt.map u8V).getD (i * 1) (.tup []) = .int .u8 lv.toNat := by rw [Nat.mul_one, List.getD_eq_getElem?_getD, List.getElem?_map, hlv]; rfl
   have hA := tryA gh hi (now := now) (by omega) (p := pk0)
   rw [← hG, ← hwt, ← hdue] at hA
   obtain ⟨G1, hG1⟩ : ∃ G1, G1 = tryG g i now (G.due - 1) := ⟨_, rfl⟩
   rw [← hG1] at hA
   simp only [g1, hst, htr, hdu, e4, u3, Nat.add_assoc, Nat.add_zero, go_sem]
   repeat refine sd2 ?_
   refine CallVC.gen0 (args2 := [.ptr ⟨L + 1, 20032⟩ 0 0, .int .i64 0, .agg (.int .i64 4 :: pk0.row)]) (by simp [pk0, Pkx.row, WkL, Wk]) (by simp [wkNL, wkN, pk0, Pkx.row]) (does0Z_ok (L := L + 1) ⟨L + 1, 20032⟩ (.inr ⟨rfl, by simp <;> omega⟩) ⟨G, B, [], ws, G.due - 1⟩ 4 pk0 (by simp [pk0]) (by simp [pk0]) .nilS outs_nil ⟨L + 1, wn⟩ (by simp) G1 hA k1 h500 (by simp [u1, u2]) (by simp [Tk.row])) ?_
   simp only [Tk.row, List.cons_append, List.nil_append, nt, e4, u3, hli, Nat.add_assoc, go_sem]
   repeat refine sd2 ?_
   refine ⟨okDyn_num (fun x => x.i) (by simp only [numF, List.map]; kernel_rfl), ?_⟩
   have tme : G.due - 1 + (1 + (lv.toNat : Int)) = now + wt + lv.toNat := by rw [hdue]; omega
   have wn1 := wtS_next i
   rw [← hwt] at wn1
   by_cases h7 : i < 7
   ·have hB : gStep G1 (G.due - 1 + (1 + (lv.toNat : Int))) 4 pk0 = (tryG g (i + 1) (now + wt + lv.toNat) (now + wt + lv.toNat), [q], 0) := by
     rw [tme, hG1, hdue, hwt, hq]; exact tryB gh h7 ⟨hn0, by omega⟩ ⟨by omega, by omega⟩
    obtain ⟨G2, hG2⟩ : ∃ G2, G2 = tryG g (i + 1) (now + wt + lv.toNat) (now + wt + lv.toNat) := ⟨_, rfl⟩
    rw [← hG2] at hB
    have u4 : (60000 + (10000 * i + 2112) = 20032) = False := eq_false (by omega)
    have u5 : (60000 + (10000 * i + 2112) = wn) = False := eq_false (by omega)
    have u6 : (wn = 60000 + (10000 * i + 2112)) = False := eq_false (by omega)
    have hwl8 := hwl
    refine CallVC.gen0 (args2 := [.ptr ⟨L + 1, 20032⟩ 0 0, .int .i64 0, .agg (.int .i64 4 :: pk0.row)]) (by simp [pk0, Pkx.row, WkL, Wk]) (by simp [wkNL, wkN, pk0, Pkx.row]) (does0P_ok (L := L + 1) ⟨L + 1, 20032⟩ (.inr ⟨rfl, by simp <;> omega⟩) ⟨G1, B, [], ws, G.due - 1 + (1 + (lv.toNat : Int))⟩ 4 pk0 (by simp [pk0]) (by simp [pk0]) .nilS outs_nil ⟨L + 1, wn⟩ (by simp) G2 q hB k1 h500 (by simp [u1, u2]) (by simp [Tk.row])) ?_
    simp only [Tk.row, List.nil_append, nt, u1, u2, u3, u4, u5, Nat.add_assoc, go_sem]
    repeat refine sd2 ?_
    refine ⟨⟨i + 1, G.due - 1 + (1 + (lv.toNat : Int)), 60000 + (10000 * i + 2112), ws ++ [q], G2, min (2 * wt) 6400⟩, ⟨by simp only []; omega, fun _ => ⟨by simp only [tme]; exact hG2, by simp [hwl], by simp only [Int.natCast_add, Int.natCast_one]; exact wn1.symm⟩, fun h => by simp only [] at h; omega, by simp only []; omega, by simp only [Int.natCast_add]; omega, by simp only []; omega, by simp only []; omega⟩, by simp only []; omega, ?_⟩
    exact (so0 hF2 (h1 := by (simp only [go_sem, subT, and_self, Int.natCast_add, Int.natCast_one]; try trivial)) (h2 := by simp [subH, Tx.look, u4, u5, List.length_append]) (h4 := by simp only []; omega))
   ·obtain rfl : i = 7 := by omega
    have hB : gStep G1 (G.due - 1 + (1 + (lv.toNat : Int))) 4 pk0 = (gRest (tryG g 7 now (now + wt + lv.toNat)) 7, [], 0) := by
     rw [tme, hG1, hdue, hwt]; exact tryC gh ⟨hn0, by omega⟩ ⟨by omega, by omega⟩
    obtain ⟨G2, hG2⟩ : ∃ G2, G2 = gRest (tryG g 7 now (now + wt + lv.toNat)) 7 := ⟨_, rfl⟩
    rw [← hG2] at hB
    have u4 : True := trivial
    have u5 : True := trivial
    have u6 : True := trivial
    have hwl8 := hwl
    refine CallVC.gen0 (args2 := [.ptr ⟨L + 1, 20032⟩ 0 0, .int .i64 0, .agg (.int .i64 4 :: pk0.row)]) (by simp [pk0, Pkx.row, WkL, Wk]) (by simp [wkNL, wkN, pk0, Pkx.row]) (does0Z_ok (L := L + 1) ⟨L + 1, 20032⟩ (.inr ⟨rfl, by simp <;> omega⟩) ⟨G1, B, [], ws, G.due - 1 + (1 + (lv.toNat : Int))⟩ 4 pk0 (by simp [pk0]) (by simp [pk0]) .nilS outs_nil ⟨L + 1, wn⟩ (by simp) G2 hB k1 h500 (by simp [u1, u2]) (by simp [Tk.row])) ?_
    simp only [Tk.row, List.nil_append, nt, u3, go_sem]
    repeat refine sd2 ?_
    refine ⟨⟨8, G.due - 1 + (1 + (lv.toNat : Int)), wn, ws, G2, min (2 * wt) 6400⟩, ⟨by simp only []; omega, fun h => absurd h (Nat.lt_irrefl 8), fun _ => ⟨by rw [hG2]; rfl, by rw [hG2]; rfl, by rw [hG2]; rfl, hwl⟩, by simp only []; omega, by simp only []; omega, by simp only []; omega, by simp only []; omega⟩, by simp only []; omega, ?_⟩
    exact (so0 hF2 (h2 := by simp [subH, Tx.look, u1, u2]) (h4 := by simp only []; omega))
  ·obtain rfl : i = 8 := by omega
   have g1 : decide (((8 : Nat) : Int) < 8) = false := dF (by omega)
   have g1' : decide ((8 : Int) < 8) = false := dF (by omega)
   simp only [g1, go_sem]
   repeat refine sd2 ?_
   refine ⟨⟨8, now, wn, ws, G, wt⟩, ⟨⟨by simp, fun h => by simp at h, fun _ => he8 rfl, hn0, hn1, hw0, hw1⟩, rfl⟩, (so0 hF2 (h2 := by simp [subH, Tx.look, u1, u2]))⟩
 rintro ⟨i, now, wn, ws, G, wt⟩ ⟨⟨h8, hlt8, he8, hn0, hn1, hw0, hw1⟩, hi⟩
 simp only at h8 hlt8 he8 hn0 hn1 hw0 hw1 hi ⊢
 obtain ⟨f1, f2, f3, f4⟩ := he8 hi
 have u1 : (wn = 0) = False := eq_false (by omega)
 have u2 : (wn = 20032) = False := eq_false (by omega)
 have u3 : (20032 = wn) = False := eq_false (by omega)
 have c1 : (G.st == 7) = true := by rw [f1]; rfl
 have c2 : (G.due == -1) = true := by rw [f2]; rfl
 have c3 : ((ws.length : Int) == 8) = true := by rw [f4]; rfl
 refine VT.of (cxOk (L + 1)) ?_
 simp only [Tryz.f5, tlC, Option.getD_some, cx, c1, c2, c3, f3, u3, zIni, Nat.add_zero, go_sem, meths]
 repeat refine sd2 ?_
 exact .bool (.inr rfl) rfl rfl (by simp [UpdAll])
end Go.Proofs.YtifhjhbfhdcahaaGreat
end
section
namespace Go.Proofs.YtifhjhbfhdcahaaGreat
open Go.ChangeShapes Go.WideShapes Go.ChangeAt Go.RowKit Go.Tx
theorem ownK32 : ownKnob Tryz.prog.godebug = none := by kernel_rfl
theorem laidOut32 : laidOutB Tryz.prog = true := by kernel_rfl
set_option maxRecDepth 100000
theorem undBool32 : Tryz.prog.underlying 4 = some .bool := by kernel_rfl
theorem wf8 {n : Int} (h : (Lit.int .u8 n).wf = true) : ∃ k : Nat, n = k ∧ k < 256 := by
 have : 0 ≤ n ∧ n ≤ 255 := by simpa [Lit.wf, IntKind.min, IntKind.max, IntKind.signed, IntKind.bits] using h
 exact ⟨n.toNat, by omega, by omega⟩
theorem wf16 {n : Int} (h : (Lit.int .u16 n).wf = true) : ∃ k : Nat, n = k ∧ k < 65536 := by
 have : 0 ≤ n ∧ n ≤ 65535 := by simpa [Lit.wf, IntKind.min, IntKind.max, IntKind.signed, IntKind.bits] using h
 exact ⟨n.toNat, by omega, by omega⟩
theorem undU16g : Tryz.prog.underlying 22 = some (.int .u16) := by kernel_rfl
theorem undArr8 : Tryz.prog.underlying 43 = some (.array 8 5) := by kernel_rfl
theorem u8of {a : Nat} (h : a < 256) : u8V (UInt8.ofNat a) = .int .u8 a := by
 have : (UInt8.ofNat a).toNat = a := by simp [UInt8.toNat_ofNat]; omega
 unfold u8V; rw [this]
theorem shpB8 {n : Nat} {xs : List PV} (h : Shp tys (n + 2) 43 xs) : ∃ l : List UInt8, xs = l.map u8V ∧ l.length = 8 := by
 have h := Shp.array g43 h
 simp only [List.foldr, List.range, List.range.loop] at h
 obtain ⟨_, _, rfl, h0, _, _, rfl, h1, _, _, rfl, h2, _, _, rfl, h3, _, _, rfl, h4, _, _, rfl, h5, _, _, rfl, h6, _, _, rfl, h7, rfl⟩ := h
 obtain ⟨_, rfl, w0⟩ := Shp.int g5 h0
 obtain ⟨_, rfl, w1⟩ := Shp.int g5 h1
 obtain ⟨_, rfl, w2⟩ := Shp.int g5 h2
 obtain ⟨_, rfl, w3⟩ := Shp.int g5 h3
 obtain ⟨_, rfl, w4⟩ := Shp.int g5 h4
 obtain ⟨_, rfl, w5⟩ := Shp.int g5 h5
 obtain ⟨_, rfl, w6⟩ := Shp.int g5 h6
 obtain ⟨_, rfl, w7⟩ := Shp.int g5 h7
 obtain ⟨a0, rfl, b0⟩ := wf8 w0
 obtain ⟨a1, rfl, b1⟩ := wf8 w1
 obtain ⟨a2, rfl, b2⟩ := wf8 w2
 obtain ⟨a3, rfl, b3⟩ := wf8 w3
 obtain ⟨a4, rfl, b4⟩ := wf8 w4
 obtain ⟨a5, rfl, b5⟩ := wf8 w5
 obtain ⟨a6, rfl, b6⟩ := wf8 w6
 obtain ⟨a7, rfl, b7⟩ := wf8 w7
 refine ⟨[UInt8.ofNat a0, UInt8.ofNat a1, UInt8.ofNat a2, UInt8.ofNat a3, UInt8.ofNat a4, UInt8.ofNat a5, UInt8.ofNat a6, UInt8.ofNat a7], ?_, rfl⟩
 simp only [List.map_cons, List.map_nil, u8of b0, u8of b1, u8of b2, u8of b3, u8of b4, u8of b5, u8of b6, u8of b7]
 rfl
end Go.Proofs.YtifhjhbfhdcahaaGreat
end
