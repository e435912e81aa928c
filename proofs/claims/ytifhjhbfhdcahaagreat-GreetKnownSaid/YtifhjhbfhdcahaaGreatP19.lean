/- Lemmas for the walk: GK100, GR57, GD41, GK101, GK103, GK109, GD42. -/
import Derived.Test.YtifhjhbfhdcahaaGreatP18
import Derived.Test.YtifhjhbfhdcahaaGreatP10
import Derived.Test.YtifhjhbfhdcahaaGreatRows
import Derived.ProofKit
import Derived.OpenShut
import Derived.LaidMore
import Derived.Lay
import Derived.Test.YtifhjhbfhdcahaaGreatP13
set_option linter.all false
section
namespace Go.Proofs.YtifhjhbfhdcahaaGreat
open Go.Tx
set_option maxRecDepth 100000
set_option maxHeartbeats 16000000
theorem zJC : ∀ l : List Pkx, nf (zAr l) = true
 | [] => rfl
 | _ :: _ => by simp [zAr, Tx.nf]
theorem zNj {F : SF} {L nx : Nat} (g : Gx) (now kind : Int) (p : Pkx) (hlen : p.cs.length ≤ 1000000) (hb : ∀ c ∈ p.cs, c.bd.length ≤ 1000000) :
  Con Tryz.prog 24 [.agg g.row, .int .i64 now, .agg (.int .i64 kind :: p.row)] F L nx nx (zEG (zAa g now kind p)) [] [] := by
 have hC := fun F L nx => zCB (F := F) (L := L) (nx := nx) g
 have hT := fun F L nx => zFg (F := F) (L := L) (nx := nx) now
 have hP := fun F L nx => zDp (F := F) (L := L) (nx := nx) p hlen hb
 have e330 : ((330 : Int) != 0) = true := rfl;have e320 : ((320 : Int) != 0) = true := rfl;have e0 : ((0 : Int) != 0) = false := rfl;have kz : zAr [] = .nilS := rfl;obtain ⟨q, hq⟩ : ∃ q, q = zAa g now kind p := ⟨_, rfl⟩;rw [← hq];have hrow : g.row = _ := rfl;simp only [Gx.row, Pkx.row] at hC hP ⊢;refine zSm (zCQ (L + 1)) rfl rfl (fn := Tryz.f24) (c := Tryz.f24.body.getD .skip) (by kernel_rfl) (by rfl) (by kernel_rfl) rfl (by simp) ?_;intro F3 hF1 hF2;refine vcu ⟨[none, some (.int .i64 now), none, some (.ptr ⟨L + 1, 0⟩ 0 0), none, some (.ptr ⟨L + 1, 32⟩ 0 0), some (.ptr ⟨L + 1, 64⟩ 0 0), some (.nilS), some (.int .i64 0)] ++ oz 68, [(⟨L + 1, 0⟩, .rows 28 20 true true [(gR g [])]), (⟨L + 1, 32⟩, .rows 40 5 true true [[.int .i64 kind, .int .i64 p.fr, .int .i64 p.tt, .int .i64 p.tg, .fs 3 (p.cs.map Ckx.row)]]), (⟨L + 1, 64⟩, .rows 28 20 true true [[.int .i64 0, .int .i64 0, .int .i64 0, .str [], .int .i64 0, .int .i64 0, .int .i64 0, .int .i64 0, .int .i64 0, .str [], .int .i64 0, .int .i64 0, .int .i64 0, .int .i64 0, .int .i64 0, .str [], .str [], .int .i64 0, .int .i64 0, .int .i64 0]])], 10000⟩ ?_ ?_
 ·simp only [Tryz.f24, go_sem];repeat refine sd2 ?_
  refine ⟨(), (so0 hF2)⟩
 refine vcu ⟨[none, some (.int .i64 now), none, some (.ptr ⟨L + 1, 0⟩ 0 0), none, some (.ptr ⟨L + 1, 32⟩ 0 0), some (.ptr ⟨L + 1, 64⟩ 0 0), some (.nilS), some (.int .i64 0), some (.mp ⟨L + 1, 10000⟩)] ++ oz 67, [(⟨L + 1, 0⟩, .rows 28 20 true true [(gR g [])]), (⟨L + 1, 32⟩, .rows 40 5 true true [[.int .i64 kind, .int .i64 p.fr, .int .i64 p.tt, .int .i64 p.tg, .fs 3 (p.cs.map Ckx.row)]]), (⟨L + 1, 64⟩, .rows 28 20 true true [[.int .i64 0, .int .i64 0, .int .i64 0, .str [], .int .i64 0, .int .i64 0, .int .i64 0, .int .i64 0, .int .i64 0, .str [], .int .i64 0, .int .i64 0, .int .i64 0, .int .i64 0, .int .i64 0, .str [], .str [], .int .i64 0, .int .i64 0, .int .i64 0]]), (⟨L + 1, 10000⟩, .map true true [.int .i64 1, .int .i64 2, .int .i64 3, .int .i64 4, .int .i64 5] [.fn (.func 53) [] [], .fn (.func 54) [] [], .fn (.func 55) [] [], .fn (.func 56) [] [], .fn (.func 57) [] []])], 20000⟩ ?_ ?_
 ·simp only [Tryz.f24, zId, zGX, zDG, Int.reduceEq, wW, zAX, zAO, go_sem];repeat refine sd2 ?_
  refine ⟨(), (so0 hF2)⟩
 cases hok : g.ok
 ·have hq2 : q = (zGx, [], 330) := by rw [hq]; unfold zAa; rw [if_pos hok]
  subst hq2;rw [hok, if_neg (by simp)] at hC;refine VT.of (zCQ (L + 1)) ?_;simp only [Tryz.f24, zDG, zAX, zAO, go_sem];repeat refine sd2 ?_
  refine CallVC.same (hC _ _ _) ?_;simp only [e330, go_sem];repeat refine sd2 ?_
  exact ps0 (by simp only [zEG, kz, Gx.row, zGx, zIni, go_sem]) (hf := by simp [zEG, zAr, Gx.row, zGx, zIni, Tx.nf, nfl])
 rw [hok, if_pos rfl] at hC;cases htm : zGU now
 ·have hq2 : q = (zGx, [], 2) := by rw [hq]; unfold zAa; rw [if_neg (by simp [hok]), if_pos (.inl htm)]
  subst hq2;rw [htm] at hT;refine VT.of (zCQ (L + 1)) ?_;simp only [Tryz.f24, zDG, zAX, zAO, go_sem];repeat refine sd2 ?_
  refine CallVC.same (hC _ _ _) ?_;simp only [e0, go_sem];repeat refine sd2 ?_
  refine CallVC.same (hT _ _ _) ?_;simp only [go_sem];repeat refine sd2 ?_
  exact ps0 (by simp only [zEG, kz, Gx.row, zGx, zIni, go_sem]) (hf := by simp [zEG, zAr, Gx.row, zGx, zIni, Tx.nf, nfl])
 rw [htm] at hT;by_cases hta : now < g.ta
 ·have hq2 : q = (zGx, [], 2) := by rw [hq]; unfold zAa; rw [if_neg (by simp [hok]), if_pos (.inr (.inl hta))]
  subst hq2;have d1 : decide (now < g.ta) = true := dT hta;refine VT.of (zCQ (L + 1)) ?_;simp only [Tryz.f24, zDG, zAX, zAO, go_sem];repeat refine sd2 ?_
  refine CallVC.same (hC _ _ _) ?_;simp only [e0, go_sem];repeat refine sd2 ?_
  refine CallVC.same (hT _ _ _) ?_;simp only [d1, go_sem];repeat refine sd2 ?_
  exact ps0 (by simp only [zEG, kz, Gx.row, zGx, zIni, go_sem]) (hf := by simp [zEG, zAr, Gx.row, zGx, zIni, Tx.nf, nfl])
 have d1 : decide (now < g.ta) = false := dF hta;by_cases hk : 1 ≤ kind ∧ kind ≤ 5;rotate_left
 ·have hq2 : q = (zGx, [], 2) := by rw [hq]; unfold zAa; rw [if_neg (by simp [hok]), if_pos (by omega)]
  subst hq2;have n1 : (1 = kind) = False := by apply eq_false; omega
  have n2 : (2 = kind) = False := by apply eq_false; omega
  have n3 : (3 = kind) = False := by apply eq_false; omega
  have n4 : (4 = kind) = False := by apply eq_false; omega
  have n5 : (5 = kind) = False := by apply eq_false; omega
  refine VT.of (zCQ (L + 1)) ?_;simp only [Tryz.f24, n1, n2, n3, n4, n5, zDG, wW, zAX, zAO, go_sem];repeat refine sd2 ?_
  refine CallVC.same (hC _ _ _) ?_;simp only [e0, go_sem];repeat refine sd2 ?_
  refine CallVC.same (hT _ _ _) ?_;simp only [d1, go_sem];repeat refine sd2 ?_
  exact ps0 (by simp only [zEG, kz, Gx.row, zGx, zIni, go_sem]) (hf := by simp [zEG, zAr, Gx.row, zGx, zIni, Tx.nf, nfl])
 refine vcu ⟨[none, some (.int .i64 now), none, some (.ptr ⟨L + 1, 0⟩ 0 0), none, some (.ptr ⟨L + 1, 32⟩ 0 0), some (.ptr ⟨L + 1, 64⟩ 0 0), some (.nilS), some (.int .i64 0), none, some (.fn (.func (evF kind)) [] []), some (.bool true)] ++ oz 65, [(⟨L + 1, 0⟩, .rows 28 20 true true [(gR g [])]), (⟨L + 1, 32⟩, .rows 40 5 true true [[.int .i64 kind, .int .i64 p.fr, .int .i64 p.tt, .int .i64 p.tg, .fs 3 (p.cs.map Ckx.row)]]), (⟨L + 1, 64⟩, .rows 28 20 true true [[.int .i64 0, .int .i64 0, .int .i64 0, .str [], .int .i64 0, .int .i64 0, .int .i64 0, .int .i64 0, .int .i64 0, .str [], .int .i64 0, .int .i64 0, .int .i64 0, .int .i64 0, .int .i64 0, .str [], .str [], .int .i64 0, .int .i64 0, .int .i64 0]]), (⟨L + 1, 10000⟩, .map true true [.int .i64 1, .int .i64 2, .int .i64 3, .int .i64 4, .int .i64 5] [.fn (.func 53) [] [], .fn (.func 54) [] [], .fn (.func 55) [] [], .fn (.func 56) [] [], .fn (.func 57) [] []])], 30000⟩ ?_ ?_
 ·rcases (show kind = 1 ∨ kind = 2 ∨ kind = 3 ∨ kind = 4 ∨ kind = 5 by omega) with hk9 | hk9 | hk9 | hk9 | hk9
  ·have he : evF kind = 53 := by rw [hk9]; rfl
   rw [he];simp only [Tryz.f24, hk9, zDG, Int.reduceEq, wK, zAX, zAO, go_sem];repeat refine sd2 ?_
   refine ⟨(), (so0 hF2)⟩
  ·have he : evF kind = 54 := by rw [hk9]; rfl
   rw [he];simp only [Tryz.f24, hk9, zDG, Int.reduceEq, wK, zAX, zAO, go_sem];repeat refine sd2 ?_
   refine ⟨(), (so0 hF2)⟩
  ·have he : evF kind = 55 := by rw [hk9]; rfl
   rw [he];simp only [Tryz.f24, hk9, zDG, Int.reduceEq, wK, zAX, zAO, go_sem];repeat refine sd2 ?_
   refine ⟨(), (so0 hF2)⟩
  ·have he : evF kind = 56 := by rw [hk9]; rfl
   rw [he];simp only [Tryz.f24, hk9, zDG, Int.reduceEq, wK, zAX, zAO, go_sem];repeat refine sd2 ?_
   refine ⟨(), (so0 hF2)⟩
  ·have he : evF kind = 57 := by rw [hk9]; rfl
   rw [he];simp only [Tryz.f24, hk9, zDG, Int.reduceEq, wK, zAX, zAO, go_sem];repeat refine sd2 ?_
   refine ⟨(), (so0 hF2)⟩
 have hok' : kind = 5 ∧ p.ok = false → q = (zGx, [], 320) := fun h => by rw [hq]; unfold zAa; rw [if_neg (by simp [hok]), if_neg (by simp [htm]; omega), if_pos h]
 refine VT.cut (zCQ (L + 1)) (by kernel_rfl) (fun _ : Unit => ⟨[none, some (.int .i64 now), none, some (.ptr ⟨L + 1, 0⟩ 0 0), none, some (.ptr ⟨L + 1, 32⟩ 0 0), some (.ptr ⟨L + 1, 64⟩ 0 0), none, none, none, some (.fn (.func (evF kind)) [] [])] ++ oz 66, [(⟨L + 1, 0⟩, .rows 28 20 true true [(gR g [])]), (⟨L + 1, 32⟩, .rows 40 5 true true [[.int .i64 kind, .int .i64 p.fr, .int .i64 p.tt, .int .i64 p.tg, .fs 3 (p.cs.map Ckx.row)]]), (⟨L + 1, 64⟩, .rows 28 20 true true [[.int .i64 0, .int .i64 0, .int .i64 0, .str [], .int .i64 0, .int .i64 0, .int .i64 0, .int .i64 0, .int .i64 0, .str [], .int .i64 0, .int .i64 0, .int .i64 0, .int .i64 0, .int .i64 0, .str [], .str [], .int .i64 0, .int .i64 0, .int .i64 0]])], 40000⟩) (fun _ => kind = 5 → p.ok = true) ?_ ?_
 ·by_cases h5 : kind = 5
  ·have b5 : (kind == 5) = true := by simp; omega
   cases hpo : p.ok
   ·rw [hpo, if_neg (by simp)] at hP;have hq2 := hok' ⟨h5, hpo⟩;subst hq2;simp only [Tryz.f24, go_sem];repeat refine sd2 ?_
    refine CallVC.same (hC _ _ _) ?_;simp only [e0, go_sem];repeat refine sd2 ?_
    refine CallVC.same (hT _ _ _) ?_;simp only [d1, b5, go_sem];repeat refine sd2 ?_
    refine CallVC.same (hP _ _ _) ?_;simp only [e320, go_sem];repeat refine sd2 ?_
    exact ps0 (by simp only [zEG, kz, Gx.row, zGx, zIni, go_sem]) (hf := by simp [zEG, zAr, Gx.row, zGx, zIni, Tx.nf, nfl])
   ·rw [hpo, if_pos rfl] at hP;simp only [Tryz.f24, go_sem];repeat refine sd2 ?_
    refine CallVC.same (hC _ _ _) ?_;simp only [e0, go_sem];repeat refine sd2 ?_
    refine CallVC.same (hT _ _ _) ?_;simp only [d1, b5, go_sem];repeat refine sd2 ?_
    refine CallVC.same (hP _ _ _) ?_;simp only [e0, go_sem];repeat refine sd2 ?_
    refine ⟨(), fun _ => trivial, (so0 hF2)⟩
  ·have b5 : (kind == 5) = false := by simp; omega
   simp only [Tryz.f24, go_sem];repeat refine sd2 ?_
   refine CallVC.same (hC _ _ _) ?_;simp only [e0, go_sem];repeat refine sd2 ?_
   refine CallVC.same (hT _ _ _) ?_;simp only [d1, b5, go_sem];repeat refine sd2 ?_
   refine ⟨(), fun h => absurd h h5, (so0 hF2)⟩
 intro _ hpok;clear hC hT hP;rw [zB2] at htm;refine vcu ⟨[none, some (.int .i64 now), none, some (.ptr ⟨L + 1, 0⟩ 0 0), none, some (.ptr ⟨L + 1, 32⟩ 0 0), some (.ptr ⟨L + 1, 64⟩ 0 0), none, none, none, some (.fn (.func (evF kind)) [] []), none, some (.ptr ⟨L + 1, 40096⟩ 0 0)] ++ oz 64, [(⟨L + 1, 32⟩, .rows 40 5 true true [[.int .i64 kind, .int .i64 p.fr, .int .i64 p.tt, .int .i64 p.tg, .fs 3 (p.cs.map Ckx.row)]]), (⟨L + 1, 64⟩, .rows 28 20 true true [[.int .i64 0, .int .i64 0, .int .i64 0, .str [], .int .i64 0, .int .i64 0, .int .i64 0, .int .i64 0, .int .i64 0, .str [], .int .i64 0, .int .i64 0, .int .i64 0, .int .i64 0, .int .i64 0, .str [], .str [], .int .i64 0, .int .i64 0, .int .i64 0]]), (⟨L + 1, 40096⟩, .rows 123 22 true true [(gR g [.int .i64 now, .nilS])])], 50000⟩ ?_ ?_
 ·simp only [Tryz.f24, go_sem];repeat refine sd2 ?_
  refine ⟨(), (so0 hF2)⟩
 refine vcu ⟨[none, some (.int .i64 now), none, none, none, some (.ptr ⟨L + 1, 32⟩ 0 0), some (.ptr ⟨L + 1, 64⟩ 0 0), none, none, none, some (.fn (.func (evF kind)) [] []), none, some (.ptr ⟨L + 1, 40096⟩ 0 0)] ++ oz 64, [(⟨L + 1, 32⟩, .rows 40 5 true true [[.int .i64 kind, .int .i64 p.fr, .int .i64 p.tt, .int .i64 p.tg, .fs 3 (p.cs.map Ckx.row)]]), (⟨L + 1, 64⟩, .rows 28 20 true true [[.int .i64 0, .int .i64 0, .int .i64 0, .str [], .int .i64 0, .int .i64 0, .int .i64 0, .int .i64 0, .int .i64 0, .str [], .int .i64 0, .int .i64 0, .int .i64 0, .int .i64 0, .int .i64 0, .str [], .str [], .int .i64 0, .int .i64 0, .int .i64 0]]), (⟨L + 1, 40096⟩, .rows 123 22 true true [[.int .i64 g.st, .int .i64 g.fr, .int .i64 g.tt, .str g.sec, .int .i64 g.own.tag, .int .i64 g.own.win, .int .i64 g.own.out, .int .i64 g.own.inn, .int .i64 g.own.tsn, .str g.own.ck, .int .i64 g.peer.tag, .int .i64 g.peer.win, .int .i64 g.peer.out, .int .i64 g.peer.inn, .int .i64 g.peer.tsn, .str g.peer.ck, .str g.ck, .int .i64 now, .int .i64 g.due, .int .i64 g.tr, .int .i64 now, .nilS]])], 60000⟩ ?_ ?_
 ·simp only [Tryz.f24, go_sem];repeat refine sd2 ?_
  refine ⟨(), (so0 hF2)⟩
 obtain ⟨g9, hg9⟩ : ∃ g9 : Gx, g9 = { g with ta := now } := ⟨_, rfl⟩;have hhd : g9.hd = true := by
  have := zTR hok;rw [zSe] at this;rw [hg9, zSe];exact ⟨this.1, this.2.1, this.2.2.1, this.2.2.2.1, this.2.2.2.2.1, this.2.2.2.2.2.1, (zB2 _).2 htm⟩
 have hdt : g9.due < 0 ∨ (0 ≤ g9.due ∧ g9.due ≤ 1099511634176 ∧ 1 ≤ g9.tr ∧ g9.tr ≤ 8) := by rw [hg9]; exact zS1 (g := g) hok
 have hev := fun (F : SF) (nx : Nat) (hF : F ⟨L + 1, 40096⟩ = _) => zQD (F := F) (L := L + 1) (nx := nx) ⟨L + 1, 40096⟩ (by simp) g9 now p kind hk hhd hdt htm (fun h => by
  have := hpok h;unfold Pkx.ok Pkx.hd at this;simp only [zF, decide_eq_true_eq] at this;omega) hb hF
 have hqe : q = (match gEv g9 now kind p with | none => (zGx, [], 8) | some (h, o) => (h, o, 0)) := by
  rw [hq, hg9]; unfold zAa;rw [if_neg (by simp [hok]), if_neg (by simp [zB2, htm]; omega), if_neg (by intro h; rw [hpok h.1] at h; simp at h)];generalize gEv _ now kind p = z;cases z <;> rfl
 refine VT.of (zCQ (L + 1)) ?_;cases hr : gEv g9 now kind p with
 | none =>
  rw [hr] at hqe hev;simp only at hqe;subst hqe;simp only [zO6, hg9, Gx.mrow, Gx.row, Pkx.row, zH, zD] at hev;simp only [Tryz.f24, go_sem];repeat refine sd2 ?_
  refine CallVC.same (hev _ _ (by simp [Tx.look])) ?_;simp only [go_sem];repeat refine sd2 ?_
  exact ps0 (by simp only [zEG, kz, Gx.row, zGx, zIni, go_sem]) (hf := by simp [zEG, zAr, Gx.row, zGx, zIni, Tx.nf, nfl])
 | some r =>
  obtain ⟨h, o⟩ := r;rw [hr] at hqe hev;simp only at hqe;subst hqe;have hkz : nf (zAr o) = true := zJC o;obtain ⟨ov, hov⟩ : ∃ ov, ov = zAr o := ⟨_, rfl⟩;simp only [zO6, ← hov, hg9, Gx.mrow, Gx.row, Pkx.row, zH, zD] at hev;simp only [Tryz.f24, go_sem];repeat refine sd2 ?_
  refine CallVC.same (hev _ _ (by simp [Tx.look])) ?_;simp only [go_sem];repeat refine sd2 ?_
  refine ⟨zAH (fun x => x.i) (by kernel_rfl), ?_⟩;exact ps0 (by simp only [zEG, ← hov, Gx.row, go_sem]) (hf := by simp [zEG, zJC, Gx.row, Tx.nf, nfl])
end Go.Proofs.YtifhjhbfhdcahaaGreat
end
section
namespace Go.Proofs.YtifhjhbfhdcahaaGreat
open Go.ChangeShapes Go.WideShapes Go.ChangeAt Go.RowKit Go.Tx
theorem zQE : ownKnob Tryz.prog.godebug = none := by kernel_rfl
theorem zMH : laidOutB Tryz.prog = true := by kernel_rfl
set_option maxRecDepth 100000
theorem zMI : Tryz.prog.underlying 4 = some .bool := by kernel_rfl
end Go.Proofs.YtifhjhbfhdcahaaGreat
end
section
namespace Go.Proofs.YtifhjhbfhdcahaaGreat
open Go.Tx
set_option maxRecDepth 100000
set_option maxHeartbeats 16000000
theorem zQF {t : Int} (h : zGU t = true) : 0 ≤ t ∧ t ≤ 1099511627776 := by unfold zGU at h; simpa using h
theorem zKc (g : Gx) : g.hd = true ↔ 0 ≤ g.fr ∧ g.fr ≤ 65535 ∧ 0 ≤ g.tt ∧ g.tt ≤ 65535 ∧ g.sec.length = 32 ∧ zAe g.own = true ∧ zGU g.ta = true := by
 unfold Gx.hd;simp only [zF, decide_eq_true_eq, and_assoc]
theorem zGf (g : Gx) : g.ok = true ↔ g.hd = true ∧ g.mid = true ∧ g.cko = true := by unfold Gx.ok; simp only [zF, and_assoc]
theorem zDs {d : Ini} (h : zAe d = true) : d.ok = true ∧ d.ck = [] := by unfold zAe at h; simpa using h
theorem zIK {d : Ini} (h : d.ok = true) : 0 < d.tag ∧ d.tag < 4294967296 ∧ d.ck.length ≤ 200 := by
 unfold Ini.ok zBM at h;simp at h;omega
theorem zMJ (d : Ini) : d.oct.length = 16 + d.ck.length := by
 unfold Ini.oct zKT;simp only [zQ, zAQ]
theorem zE6 {g : Gx} (h : g.mid = true) : g.peer = zIni ∨ zAe g.peer = true := by
 unfold Gx.mid at h;split at h;·simp at h; exact .inl h.1
 split at h;·simp at h; exact .inl h.1
 split at h;·simp at h; exact .inr h.1
 split at h;·simp at h; exact .inr h.1
 split at h;·simp at h; exact h.1
 ·cases h
structure Good (h : Gx) (now : Int) (o : List Pkx) : Prop where
 ok : h.ok = true
 ta : h.ta = now
 len : o.length ≤ 1
 pk : ∀ x ∈ o, x.ok = true ∧ x.fr = h.fr ∧ x.tt = h.tt
theorem zIL {g : Gx} (hg : g.hd = true) {tag : Int} (ht : 0 ≤ tag ∧ tag < 4294967296) {c : Ckx} (hc : 0 ≤ c.kd ∧ c.kd < 256) (hf : c.fl = 0) (hb : c.bd.length ≤ 300) : ∀ x ∈ zBX g tag c, x.ok = true ∧ x.fr = g.fr ∧ x.tt = g.tt := by
 intro x hx;simp only [zBX, wG, vW, or_false] at hx;subst hx;rw [zKc] at hg;refine ⟨?_, rfl, rfl⟩;unfold Pkx.ok Pkx.hd szs Ckx.ok Ckx.sz zBM;simp [hf];omega
theorem zHh {g : Gx} (hm : g.mid = true) : 0 ≤ g.peer.tag ∧ g.peer.tag < 4294967296 := by
 rcases zE6 hm with h | h;·rw [h]; exact ⟨by decide, by decide⟩
 ·have := zIK (zDs h).1; omega
theorem zG4 {g : Gx} (hg : g.hd = true) (ht : 0 ≤ g.peer.tag ∧ g.peer.tag < 4294967296) {k : Int} (hk : 0 ≤ k ∧ k < 256) : ∀ x ∈ zBR g k, x.ok = true ∧ x.fr = g.fr ∧ x.tt = g.tt :=
 zIL hg ht hk rfl (by simp)
theorem zE7 {g : Gx} (hg : g.hd = true) (ht : 0 ≤ g.peer.tag ∧ g.peer.tag < 4294967296) (hc : g.ck.length ≤ 200) : (zA2 g).length ≤ 1 ∧ ∀ x ∈ zA2 g, x.ok = true ∧ x.fr = g.fr ∧ x.tt = g.tt := by
 have ho := zDs ((zKc g).1 hg).2.2.2.2.2.1;unfold zA2;split;·exact ⟨by simp [zBX], zIL hg (by omega) (by simp) rfl (by simp [zMJ, ho.2])⟩
 split;·exact ⟨by simp [zBX], zIL hg ht (by simp) rfl (by simp; omega)⟩
 split;·exact ⟨by simp [zBR, zBX], zG4 hg ht (by simp)⟩
 split;·exact ⟨by simp [zBR, zBX], zG4 hg ht (by simp)⟩
 ·exact ⟨by simp, by simp⟩
theorem zJD {g : Gx} (hg : g.hd = true) {s : Int} (hs : (s = 2 ∧ g.peer = zIni) ∨ ((s = 5 ∨ s = 6) ∧ zAe g.peer = true)) {now : Int} (hn : 0 ≤ now ∧ now ≤ 1099511627776) : (zAL g s now).ok = true := by
 rw [zGf];refine ⟨hg, ?_, ?_⟩
 ·have ht : (zAL g s now).tries = true := by unfold Gx.tries zAL; simp; omega
  unfold Gx.mid;rw [ht];rcases hs with ⟨rfl, hp⟩ | ⟨rfl | rfl, hp⟩ <;> simp [zAL, hp]
 ·unfold Gx.cko zAL;rcases hs with ⟨rfl, _⟩ | ⟨rfl | rfl, _⟩ <;> simp
theorem zJs {g : Gx} (hg : g.hd = true) {s : Int} (hs : (s = 4 ∧ zAe g.peer = true) ∨ (s = 7 ∧ (g.peer = zIni ∨ zAe g.peer = true))) : (zAj g s).ok = true := by
 rw [zGf];refine ⟨hg, ?_, ?_⟩
 ·have ht : (zAj g s).rest = true := by unfold Gx.rest zAj; simp
  unfold Gx.mid;rw [ht];rcases hs with ⟨rfl, hp⟩ | ⟨rfl, hp | hp⟩ <;> simp [zAj, hp]
 ·unfold Gx.cko zAj;rcases hs with ⟨rfl, _⟩ | ⟨rfl, _⟩ <;> simp
theorem zQx {g : Gx} (hm : g.mid = true) (h : g.st = 4 ∨ g.st = 5 ∨ g.st = 6 ∨ g.st = 3) : zAe g.peer = true := by
 unfold Gx.mid at hm;rcases h with h | h | h | h <;> simp [h] at hm <;> exact hm.1
theorem zCT {g : Gx} (hg : g.ok = true) {now : Int} (ht : g.ta = now) {o : List Pkx} (h1 : o.length ≤ 1) (h2 : ∀ x ∈ o, x.ok = true ∧ x.fr = g.fr ∧ x.tt = g.tt) : Good g now o := ⟨hg, ht, h1, h2⟩
theorem zMK {g : Gx} (h : g.cko = true) : g.ck.length ≤ 200 := by
 unfold Gx.cko at h;split at h;·simp at h; exact h.2
 ·simp at h; rw [h]; simp
theorem zML {g : Gx} (hg : g.ok = true) {now : Int} (ht : g.ta = now) (hn : 0 ≤ now ∧ now ≤ 1099511627776) : Good (zDv g now).1 now (zDv g now).2 := by
 obtain ⟨hh, hm, hc⟩ := (zGf g).1 hg;unfold zDv;split;·exact zCT hg ht (by simp) (by simp)
 rename_i hdue;split;·exact ⟨zJs hh (.inr ⟨rfl, zE6 hm⟩), ht, by simp, by simp⟩
 rename_i htr;have ha := zE7 hh (zHh hm) (zMK hc);refine ⟨?_, ht, ha.1, ha.2⟩;have hw := zMA g.tr;have hd := zS1 hg;have htr' : ∀ h : Gx, h.due = now + wtS g.tr → h.tr = g.tr + 1 → h.tries = true := by
  intro h e1 e2;unfold Gx.tries;rw [e1, e2];simp; omega
 have hre : g.rest = false := by
  cases h : g.rest;·rfl
  ·unfold Gx.rest at h; simp at h; omega
 rw [zGf];refine ⟨hh, ?_, hc⟩;unfold Gx.mid at hm ⊢;rw [hre] at hm;simp only [htr' { g with due := now + wtS g.tr, tr := g.tr + 1 } rfl rfl];simp only [uV] at hm;split at hm;·cases hm
 rename_i h1;rw [if_neg h1];split at hm;·rename_i h2; rw [if_pos h2]; simp at hm ⊢; exact hm.1
 rename_i h2;rw [if_neg h2];split at hm;·rename_i h3; rw [if_pos h3]; simp at hm ⊢; exact hm.1
 rename_i h3;rw [if_neg h3];split at hm;·cases hm
 split at hm;·cases hm
 ·cases hm
theorem zMM {g : Gx} (hg : g.ok = true) {now : Int} (ht : g.ta = now) (hn : 0 ≤ now ∧ now ≤ 1099511627776) (tag : Int) (c : Ckx) : Good (zAp g now tag c).1 now (zAp g now tag c).2 := by
 obtain ⟨hh, hm, hc⟩ := (zGf g).1 hg;have hp := zHh hm;have ha := zE7 hh hp (zMK hc);have hsame : Good g now [] := zCT hg ht (by simp) (by simp);have hown := zDs ((zKc g).1 hh).2.2.2.2.2.1;have hrest : ∀ s, (s = 4 ∧ zAe g.peer = true) ∨ (s = 7 ∧ (g.peer = zIni ∨ zAe g.peer = true)) → ∀ o : List Pkx, o.length ≤ 1 → (∀ x ∈ o, x.ok = true ∧ x.fr = g.fr ∧ x.tt = g.tt) → Good (zAj g s) now o := fun s hs o h1 h2 => ⟨zJs hh hs, ht, h1, h2⟩
 unfold zAp;split
 ·rename_i hk;unfold zEb;split
  ·rename_i h;obtain ⟨h1, h2, h3⟩ := h;obtain ⟨i1, i2, i3, _⟩ := zGQ hk h1;have := zIK i1;refine zCT hg ht (by simp [zBX]) (zIL hh (by omega) (by simp) rfl ?_);simp only [zMJ, zHg];omega
  ·exact hsame
 split;·exact hsame
 split
 ·rename_i hk;unfold zEc;split
  ·rename_i h;obtain ⟨h1, h2⟩ := h;unfold zCG at h1;simp only [zF, decide_eq_true_eq] at h1;obtain ⟨_, i1, i2, _⟩ := h1;have hne : (zBu c).ck ≠ [] := by
    intro h; unfold zEi at i2; rw [if_pos h, hk] at i2; cases i2
   have htg := zIK i1;have hpl : zAe { zBu c with ck := [] } = true := by
    unfold zAe;rw [zMB i1 (by simp)]; rfl
   have hok : Gx.ok { zAL g 3 now with ck := (zBu c).ck, peer := { zBu c with ck := [] } } = true := by
    rw [zGf];refine ⟨hh, ?_, ?_⟩
    ·have ht : Gx.tries { zAL g 3 now with ck := (zBu c).ck, peer := { zBu c with ck := [] } } = true := by unfold Gx.tries zAL; simp; omega
     unfold Gx.mid;rw [ht];simp [zAL, hpl]
    ·unfold Gx.cko zAL;simp [hne];omega
   have ha2 := zE7 (g := { zAL g 3 now with ck := (zBu c).ck, peer := { zBu c with ck := [] } }) hh (by show 0 ≤ (zBu c).tag ∧ _; exact ⟨by omega, htg.2.1⟩) htg.2.2;exact ⟨hok, ht, ha2.1, ha2.2⟩
  ·exact hsame
 split
 ·unfold zE3;simp only;split
  ·rename_i h;obtain ⟨_, h1, _, _⟩ := h;obtain ⟨i1, i2, _, _⟩ := zGQ (c := ⟨1, 0, (c.bd.drop 6).take 16⟩) rfl h1;have htg := zIK i1;have hpl : zAe (zBu ⟨1, 0, (c.bd.drop 6).take 16⟩) = true := by unfold zAe; rw [i1, i2]; rfl
   split;·exact zCT hg ht (by simp [zBX]) (zIL hh (by omega) (by simp) rfl (by simp))
   split
   ·refine ⟨zJs (g := { g with peer := zBu ⟨1, 0, (c.bd.drop 6).take 16⟩ }) hh (.inl ⟨rfl, hpl⟩), ht, by simp [zBR, zBX], zG4 (g := { zAj g 4 with peer := zBu ⟨1, 0, (c.bd.drop 6).take 16⟩ }) hh ?_ (by simp)⟩;exact ⟨by show 0 ≤ (zBu _).tag; omega, htg.2.1⟩
   split;·exact zCT hg ht (by simp [zBR, zBX]) (zG4 hh hp (by simp))
   ·exact hsame
  ·exact hsame
 split
 ·split;·rename_i h; exact hrest 4 (.inl ⟨rfl, zQx hm (.inr (.inr (.inr h)))⟩) [] (by simp) (by simp)
  ·exact hsame
 split
 ·unfold zIB;split
  ·rename_i h;have hpl := zQx hm (by omega);have ha2 := zE7 (g := zAL g 6 now) hh hp (by simp [zAL]);exact ⟨zJD hh (.inr ⟨.inr rfl, hpl⟩) hn, ht, ha2.1, ha2.2⟩
  split;·exact zCT hg ht ha.1 ha.2
  ·exact hsame
 split
 ·unfold zFM;split;·exact hrest 7 (.inr ⟨rfl, zE6 hm⟩) _ (by simp [zBR, zBX]) (zG4 hh hp (by simp))
  ·exact hsame
 split
 ·split;·exact hrest 7 (.inr ⟨rfl, zE6 hm⟩) [] (by simp) (by simp)
  ·exact hsame
 split
 ·split;·exact hsame
  ·exact hrest 7 (.inr ⟨rfl, zE6 hm⟩) [] (by simp) (by simp)
 ·exact hsame
theorem zO7 {g : Gx} (hg : g.ok = true) {now : Int} (ht : g.ta = now) (hn : 0 ≤ now ∧ now ≤ 1099511627776) (kind : Int) (p : Pkx) {h : Gx} {o : List Pkx} (he : gEv g now kind p = some (h, o)) : Good h now o := by
 obtain ⟨hh, hm, hc⟩ := (zGf g).1 hg;have hp := zHh hm;unfold gEv at he;split at he
 ·unfold zOs at he;split at he
  ·rename_i h1;injection he with he; injection he with e1 e2; subst e1; subst e2;have hz : g.peer = zIni := by unfold Gx.mid at hm; rw [if_pos h1] at hm; simp at hm; exact hm.1
   have ha := zE7 (g := zAL g 2 now) hh hp (by simp [zAL]);exact ⟨zJD hh (.inl ⟨rfl, hz⟩) hn, ht, ha.1, ha.2⟩
  ·cases he
 split at he
 ·unfold zLh at he;split at he
  ·rename_i h1;injection he with he; injection he with e1 e2; subst e1; subst e2;have ha := zE7 (g := zAL g 5 now) hh hp (by simp [zAL]);exact ⟨zJD hh (.inr ⟨.inl rfl, zQx hm (.inl h1)⟩) hn, ht, ha.1, ha.2⟩
  ·cases he
 split at he
 ·unfold zLi at he;split at he;·cases he
  ·injection he with he; injection he with e1 e2; subst e1; subst e2;refine ⟨zJs hh (.inr ⟨rfl, zE6 hm⟩), ht, ?_, ?_⟩
   ·split <;> simp [zBR, zBX]
   ·split;·simp
    ·exact zG4 hh hp (by simp)
 split at he
 ·injection he with he;have := zML hg ht hn;rw [he] at this;exact this
 ·injection he with he;unfold zFX at he;split at he
  ·have := zMM hg ht hn p.tg p.hdC;rw [he] at this;exact this
  ·injection he with e1 e2; subst e1; subst e2;exact zCT hg ht (by simp) (by simp)
theorem zAl {g : Gx} {now kind : Int} {p : Pkx} {h : Gx} {o : List Pkx} (he : zAa g now kind p = (h, o, 0)) : Good h now o := by
 unfold zAa at he;split at he;·simp at he
 rename_i hg;split at he;·simp at he
 rename_i h2;split at he;·simp at he
 split at he;·simp at he
 ·rename_i h' o' he';simp at he;obtain ⟨e1, e2⟩ := he;subst e1; subst e2;have hok : g.ok = true := by simpa using hg
  have hn : zGU now = true := by
   cases h : zGU now;·exact absurd (.inl h) h2
   ·rfl
  obtain ⟨hh, hm, hc⟩ := (zGf g).1 hok;refine zO7 (g := { g with ta := now }) ?_ rfl (zQF hn) kind p he';rw [zGf];refine ⟨?_, hm, hc⟩;rw [zKc] at hh ⊢;exact ⟨hh.1, hh.2.1, hh.2.2.1, hh.2.2.2.1, hh.2.2.2.2.1, hh.2.2.2.2.2.1, hn⟩
structure Tk where
 g0 : Gx
 g1 : Gx
 w0 : List Pkx
 w1 : List Pkx
 now : Int
def Tk.row (k : Tk) (a b : PV) : List PV := (gR k.g0 (gR k.g1 [a, b, .int .i64 k.now]))
noncomputable def cxc (L : Nat) : Cx := ⟨Tryz.prog, tys, meths, false, L, none, [], [], false, [{ v := .bool false, recovered := false }, { v := .bool false, recovered := false }], fun _ => False⟩
theorem zDw (L : Nat) : (cxc L).Ok := ⟨zNC, zFe, zHU, zHV⟩
theorem zDD {F : SF} {L nx : Nat} {g : Gx} {now kind : Int} {p : Pkx} {h : Gx} {o : List Pkx} {e : Int} (hs : zAa g now kind p = (h, o, e)) (hlen : p.cs.length ≤ 1000000) (hb : ∀ c ∈ p.cs, c.bd.length ≤ 1000000) :
  Con Tryz.prog 24 [.agg g.row, .int .i64 now, .agg (.int .i64 kind :: p.row)] F L nx nx (.tup [.agg h.row, zAr o, .int .i64 e]) [] [] := by
 have := zNj (F := F) (L := L) (nx := nx) g now kind p hlen hb;rw [hs] at this;exact this
def zO8 (L : Nat) (v : PV) : Prop := ∀ nx news, nmA (Dn L news) v ∧ rn (sg L nx news) v = v
theorem zB4 {L : Nat} : zO8 L .nilS := fun nx news => ⟨by simp [nmA], by simp [Tx.rn]⟩
theorem zO9 {L : Nat} {a : Nm} {i j : Nat} (h : a.l ≤ L) : zO8 L (.sl a i j) := fun nx news => ⟨by simp [nmA, Dn]; omega, by simp [Tx.rn, zDc h]⟩
theorem zGR {F : SF} {L nx : Nat} (m : Nm) (hm0 : m.l < L ∨ (m.l = L ∧ m.i < nx)) (k : Tk) (kind : Int) (p : Pkx) (hlen : p.cs.length ≤ 1000000) (hb : ∀ c ∈ p.cs, c.bd.length ≤ 1000000) (va : PV) (hva : zO8 L va) (b : Nm) (hbL : b.l ≤ L) (h : Gx) (hst : zAa k.g0 k.now kind p = (h, [], 0)) (hbm : b ≠ m) (hwl : k.w1.length ≤ 1000000) (hFb : F b = some (.rows 38 4 true true (k.w1.map Pkx.row))) (hF : F m = some (.rows 33 43 true false [k.row va (.sl b 0 k.w1.length)])) :
  Con Tryz.prog 12 [.ptr m 0 0, .int .i64 0, .agg (.int .i64 kind :: p.row)] F L nx nx (.bool true) [(m, .rows 33 43 true false [(Tk.row { k with g0 := h } va (.sl b 0 k.w1.length))])] [m, b] := by
 have hm : m.l ≤ L := by omega
 have m1 : ∀ k, (m = (⟨L + 1, k⟩ : Nm)) = False := zAF hm;have m2 : ∀ k, ((⟨L + 1, k⟩ : Nm) = m) = False := zAE hm;have b1 : ∀ k, (b = (⟨L + 1, k⟩ : Nm)) = False := zAF (by omega);have b2 : ∀ k, ((⟨L + 1, k⟩ : Nm) = b) = False := zAE (by omega);have c1 : (b = m) = False := eq_false hbm;have c2 : (m = b) = False := eq_false (Ne.symm hbm);have hS := fun F L nx => zDD (F := F) (L := L) (nx := nx) hst hlen hb
 have hG := zAl hst;have hC := fun F L nx => zCB (F := F) (L := L) (nx := nx) h
 rw [hG.ok, if_pos rfl] at hC;have hta := hG.ta;have t1 : (h.ta != k.now) = false := by simp; omega
 have e0 : ((0 : Int) == 8) = false := rfl;have n0 : ((0 : Int) != 0) = false := rfl;have z1 : ((1 : Int) - 0) = 1 := rfl;have z2 : ((1 : Int) - 1) = 0 := rfl;have kz : zAr [] = .nilS := rfl;clear hG hst;simp only [Tk.row, Gx.row, Pkx.row, kz] at hF hS hC ⊢;show Con _ _ _ F L nx (nx + 0) _ _ _;refine zSk (zCQ (L + 1)) rfl rfl (fn := Tryz.f12) (c := Tryz.f12.body.getD .skip) (by kernel_rfl) (by rfl) (by kernel_rfl) rfl  (by simp; omega) ?_;intro F3 hF1 hF2;have kq := (hF1 m (by simp)).trans hF;have kb := (hF1 b (by simp)).trans hFb;refine vcu ⟨[some (.ptr m 0 0), some (.int .i64 0), none, none, none, some (.ptr ⟨L + 1, 0⟩ 0 0)] ++ oz 103, [(⟨L + 1, 0⟩, .rows 40 5 true true [[.int .i64 kind, .int .i64 p.fr, .int .i64 p.tt, .int .i64 p.tg, .fs 3 (p.cs.map Ckx.row)]])], 10000⟩ ?_ ?_
 ·simp only [Tryz.f12, go_sem];repeat refine sd2 ?_
  refine ⟨(), (so0 hF2)⟩
 refine vcu ⟨[some (.ptr m 0 0), some (.int .i64 0), none, none, none, none, none, some (.ptr ⟨L + 1, 10480⟩ 0 0), some (.nilS), some (.int .i64 0)] ++ oz 99, [(⟨L + 1, 10480⟩, .rows 28 20 true true [(gR h [])])], 20000⟩ ?_ ?_
 ·simp only [Tryz.f12, kq, m1, go_sem];repeat refine sd2 ?_
  refine CallVC.same (hS _ _ _) ?_;simp only [go_sem];repeat refine sd2 ?_
  refine ⟨zDn m2, (), (so0 hF2)⟩
 clear hS;refine vcu ⟨[some (.ptr m 0 0), some (.int .i64 0), none, none, none, none, none, some (.ptr ⟨L + 1, 10480⟩ 0 0), some (.nilS), some (.int .i64 0)] ++ oz 99, [(⟨L + 1, 10480⟩, .rows 28 20 true true [(gR h [])])], 30000⟩ ?_ ?_
 ·simp only [Tryz.f12, e0, go_sem];repeat refine sd2 ?_
  refine ⟨(), (so0 hF2)⟩
 have g1 : decide ((0 : Int) > 1) = false := rfl;have g2 : decide ((1 : Int) > 1) = false := rfl;have g1' : decide ((1 : Int) < 0) = false := rfl;have g2' : decide ((1 : Int) < 1) = false := rfl;have g3' : decide ((1 : Int) < ((1 : Nat) : Int)) = false := rfl;refine vcu ⟨[some (.ptr m 0 0), some (.int .i64 0), none, none, none, none, none, some (.ptr ⟨L + 1, 10480⟩ 0 0), some (.nilS)] ++ oz 100, [(⟨L + 1, 10480⟩, .rows 28 20 true true [(gR h [])])], 40000⟩ ?_ ?_
 ·simp only [Tryz.f12, n0, go_sem];repeat refine sd2 ?_
  refine CallVC.same (hC _ _ _) ?_;simp only [kq, m1, n0, t1, g1, go_sem];repeat refine sd2 ?_
  refine ⟨zDn m2, (), (so0 hF2)⟩
 clear hC;refine vcu ⟨[some (.ptr m 0 0), some (.int .i64 0), none, none, none, none, none, some (.ptr ⟨L + 1, 10480⟩ 0 0), some (.nilS)] ++ oz 100, [(⟨L + 1, 10480⟩, .rows 28 20 true true [(gR h [])])], 70000⟩ ?_ ?_
 ·simp only [Tryz.f12, go_sem];repeat refine sd2 ?_
  refine zSy ?_;have q2 : decide ((0 : Int) < 0) = false := rfl;simp only [q2, go_sem];repeat refine sd2 ?_
  refine ⟨(), (so0 hF2)⟩
 refine vcu ⟨[some (.ptr m 0 0), some (.int .i64 0), none, none, none, none, none, none, some (.nilS)] ++ oz 100, [(m, .rows 33 43 true false [(gR h (gR k.g1 [va, (.sl b 0 k.w1.length), .int .i64 k.now]))])], 80000⟩ ?_ ?_
 ·simp only [Tryz.f12, kq, m1, go_sem];repeat refine sd2 ?_
  refine ⟨zDn m2, (), (so0 hF2 (h2 := by simp [zA7, Tx.look, m1]) (h3 := by simp [zBL, keys, m2]))⟩
 refine VT.of (zCQ (L + 1)) ?_;simp only [Tryz.f12, kq, c1, kb, z1, zL, go_sem];repeat refine sd2 ?_
 refine ⟨zAH (fun x => if x = m then 1 else if x = b then 1 else x.i + 2) (by simp only [zDN, List.map, if_true]; kernel_rfl), .now (PostN.val [] (.inr rfl) (by simp) (p := True) (v0 := .bool true) ?_ trivial ?_ ?_ ⟨by omega, ?_, trivial⟩ ?_)⟩;·simp only [go_sem]
 ·simp [nmA]
 ·simp [Tx.rn]
 ·rw [zFL];exact .ren (by simp [Tx.look]; rfl) (by simp [zBm, nmA, zDJ, Dn, (hva nx []).1, hbL]) (by simp [Tx.rn, Tx.rnL, (hva nx []).2, zDc hbL]; try simp [sg])
 ·simp [UpdAll, keys]
def Pkx.sm (p : Pkx) : Prop := p.cs.length ≤ 1000000 ∧ ∀ c ∈ p.cs, c.bd.length ≤ 1000000
theorem zMN (w z : List Pkx) {i : Nat} (h : i < w.length) : (((w ++ z).map Pkx.row).take i) ++ (((w ++ z).map Pkx.row).drop (i + 1)).take (w.length - (i + 1)) = (w.eraseIdx i).map Pkx.row := by
 rw [← List.map_take, ← List.map_drop, ← List.map_take, ← uC, uD (by omega), qA (by omega), uD (by simp), zU (l := List.drop _ _) (by simp), List.eraseIdx_eq_take_drop_succ]
theorem zKd {p : Pkx} (h : p.ok = true) : p.sm := by
 unfold Pkx.ok Pkx.hd at h;simp only [zF, decide_eq_true_eq, zY] at h;refine ⟨by omega, fun c hc => ?_⟩;have := h.1.2 c hc;unfold Ckx.ok at this; simp only [zF, decide_eq_true_eq] at this; omega
theorem zSb {P : Program} {f : FuncId} {args args2 : List PV} {F : SF} {L nx top : Nat} {K : PV → List (Nm × SBlk) → List Nm → Nat → Prop} {v : PV} {upd : List (Nm × SBlk)} {rd : List Nm} (hw : WkL F args args2) (h0 : zAw args args2 = []) (hc : Con P f args2 F L nx top v upd rd) (hk : K v upd rd top) : CallVC P f args F L nx K :=
 CallVC.gen hw (by rw [h0]; exact hc) (by rw [h0]; exact hk)
theorem zTN {a b : Ini} (h : a.row = b.row) : a = b := by
 obtain ⟨a1, a2, a3, a4, a5, a6⟩ := a;obtain ⟨b1, b2, b3, b4, b5, b6⟩ := b;simp only [Ini.row, List.cons.injEq, PV.int.injEq, PV.str.injEq, true_and, and_true] at h;obtain ⟨rfl, rfl, rfl, rfl, rfl, rfl⟩ := h;rfl
theorem zJt {d : Ini} (h : d.ok = true) : zCG ⟨zEi d.ck, 0, d.oct⟩ = true ∧ zBu ⟨zEi d.ck, 0, d.oct⟩ = d := by
 have hb := zOq h;unfold zBi at hb;have hk : zEi d.ck = 1 ∨ zEi d.ck = 2 := by unfold zEi; split <;> simp
 rw [if_pos hk] at hb;cases ho : zCG ⟨zEi d.ck, 0, d.oct⟩
 ·rw [ho, if_neg (by simp)] at hb;simp at hb
 ·rw [ho, if_pos rfl] at hb;simp only [PV.tup.injEq, List.cons.injEq, PV.agg.injEq, and_true] at hb;exact ⟨rfl, zTN hb⟩
theorem zIM {d : Ini} (h : zAe d = true) : zCG ⟨1, 0, d.oct⟩ = true ∧ zBu ⟨1, 0, d.oct⟩ = d := by
 obtain ⟨h1, h2⟩ := zDs h;have := zJt h1;rw [show zEi d.ck = 1 by rw [h2]; rfl] at this;exact this
theorem zMO {d : Ini} (h : d.ok = true) (hc : d.ck ≠ []) : zCG ⟨2, 0, d.oct⟩ = true ∧ zBu ⟨2, 0, d.oct⟩ = d := by
 have := zJt h;rw [show zEi d.ck = 2 by unfold zEi; rw [if_neg hc]] at this;exact this
theorem zJu (g : Gx) {d : Ini} (hd : zAe d = true) {t : Int} (ht : 0 ≤ t ∧ t ≤ 1099511627776) : (ckS g d.oct t).length = 62 ∧ (zBz ((ckS g d.oct t).take 6) : Int) = t ∧ ((ckS g d.oct t).drop 6).take 16 = d.oct := by
 have ho : d.oct.length = 16 := by rw [zMJ, (zDs hd).2]; rfl
 have hp : (zAd 6 t.toNat).length = 6 := zAQ 6 _;refine ⟨by rw [zHg]; omega, ?_, ?_⟩
 ·unfold ckS;simp only [vR];rw [uD (by omega), zU (by omega), zH8 (by omega)];omega
 ·unfold ckS;simp only [vR];rw [qA (by omega), vV (by omega), zD, uD (by omega), zU (by omega)]
theorem zJv (g : Gx) {d : Ini} (hd : zAe d = true) {t : Int} (ht : 0 ≤ t ∧ t ≤ 1099511627776) (now : Int) : zE3 g now (ckS g d.oct t) =
  (if g.st ≤ 3 ∧ (now < t ∨ 60000 < now - t) then (g, zBX g d.tag ⟨6, 0, []⟩)
  else if g.st ≤ 3 then ({ zAj g 4 with peer := d }, zBR { zAj g 4 with peer := d } 11)
  else if g.st = 4 ∧ d = g.peer then (g, zBR g 11) else (g, [])) := by
 obtain ⟨h1, h2, h3⟩ := zJu g hd ht;obtain ⟨i1, i2⟩ := zIM hd;unfold zE3;simp only [h1, h2, h3, i1, i2, (zB2 t).2 ht, and_self, if_true]
theorem zMP {g h : Gx} (h1 : h.own.tag = g.own.tag) (h2 : h.fr = g.fr) (h3 : h.tt = g.tt) (h4 : h.sec = g.sec) (b : List UInt8) (t : Int) : ckS h b t = ckS g b t := by
 unfold ckS; rw [h1, h2, h3, h4]
end Go.Proofs.YtifhjhbfhdcahaaGreat
end
