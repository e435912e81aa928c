/- Lemmas for the walk: GK100, GR57, GD41, GD42, GK101, GK102. -/
import Derived.Test.YtifhjhbfhdcahaaGreatP18
import Derived.Test.YtifhjhbfhdcahaaGreatP10
import Derived.Test.YtifhjhbfhdcahaaGreatRows
import Derived.ProofKit
import Derived.OpenShut
import Derived.LaidMore
import Derived.Lay
import Derived.Test.YtifhjhbfhdcahaaGreatP13
set_option linter.all false
section
namespace Go.Proofs.YtifhjhbfhdcahaaGreat
open Go.Tx
set_option maxRecDepth 100000
set_option maxHeartbeats 16000000
theorem zMc : ∀ l : List Pkx, nf (zAu l) = true
 | [] => rfl
 | _ :: _ => by simp [zAu, Tx.nf]
theorem zN3 {F : SF} {L nx : Nat} (g : Gx) (now kind : Int) (p : Pkx) (hlen : p.cs.length ≤ 1000000) (hb : ∀ c ∈ p.cs, c.bd.length ≤ 1000000) :
  Con Tryz.prog 24 [.agg g.row, .int .i64 now, .agg (.int .i64 kind :: p.row)] F L nx nx (zEJ (zAh g now kind p)) [] [] := by
 have hC := fun F L nx => zCU (F := F) (L := L) (nx := nx) g
 have hT := fun F L nx => zFl (F := F) (L := L) (nx := nx) now
 have hP := fun F L nx => zDt (F := F) (L := L) (nx := nx) p hlen hb
 have e330 : ((330 : Int) != 0) = true := rfl;have e320 : ((320 : Int) != 0) = true := rfl;have e0 : ((0 : Int) != 0) = false := rfl;have kz : zAu [] = .nilS := rfl;obtain ⟨q, hq⟩ : ∃ q, q = zAh g now kind p := ⟨_, rfl⟩;rw [← hq];have hrow : g.row = _ := rfl;simp only [Gx.row, Pkx.row] at hC hP ⊢;refine zS0 (zBP (L + 1)) rfl rfl (fn := Tryz.f24) (c := Tryz.f24.body.getD .skip) (by kernel_rfl) (by rfl) (by kernel_rfl) rfl (by simp) ?_;intro F3 hF1 hF2;refine vcu ⟨[none, some (.int .i64 now), none, some (.ptr ⟨L + 1, 0⟩ 0 0), none, some (.ptr ⟨L + 1, 32⟩ 0 0), some (.ptr ⟨L + 1, 64⟩ 0 0), some (.nilS), some (.int .i64 0)] ++ oz 68, [(⟨L + 1, 0⟩, .rows 28 20 true true [(gR g [])]), (⟨L + 1, 32⟩, .rows 40 5 true true [[.int .i64 kind, .int .i64 p.fr, .int .i64 p.tt, .int .i64 p.tg, .fs 3 (p.cs.map Ckx.row)]]), (⟨L + 1, 64⟩, .rows 28 20 true true [[.int .i64 0, .int .i64 0, .int .i64 0, .str [], .int .i64 0, .int .i64 0, .int .i64 0, .int .i64 0, .int .i64 0, .str [], .int .i64 0, .int .i64 0, .int .i64 0, .int .i64 0, .int .i64 0, .str [], .str [], .int .i64 0, .int .i64 0, .int .i64 0]])], 10000⟩ ?_ ?_
 ·simp only [Tryz.f24, go_sem];repeat refine sd2 ?_
  refine ⟨(), (so0 hF2)⟩
 refine vcu ⟨[none, some (.int .i64 now), none, some (.ptr ⟨L + 1, 0⟩ 0 0), none, some (.ptr ⟨L + 1, 32⟩ 0 0), some (.ptr ⟨L + 1, 64⟩ 0 0), some (.nilS), some (.int .i64 0), some (.mp ⟨L + 1, 10000⟩)] ++ oz 67, [(⟨L + 1, 0⟩, .rows 28 20 true true [(gR g [])]), (⟨L + 1, 32⟩, .rows 40 5 true true [[.int .i64 kind, .int .i64 p.fr, .int .i64 p.tt, .int .i64 p.tg, .fs 3 (p.cs.map Ckx.row)]]), (⟨L + 1, 64⟩, .rows 28 20 true true [[.int .i64 0, .int .i64 0, .int .i64 0, .str [], .int .i64 0, .int .i64 0, .int .i64 0, .int .i64 0, .int .i64 0, .str [], .int .i64 0, .int .i64 0, .int .i64 0, .int .i64 0, .int .i64 0, .str [], .str [], .int .i64 0, .int .i64 0, .int .i64 0]]), (⟨L + 1, 10000⟩, .map true true [.int .i64 1, .int .i64 2, .int .i64 3, .int .i64 4, .int .i64 5] [.fn (.func 53) [] [], .fn (.func 54) [] [], .fn (.func 55) [] [], .fn (.func 56) [] [], .fn (.func 57) [] []])], 20000⟩ ?_ ?_
 ·simp only [Tryz.f24, zIx, zGe, zDL, Int.reduceEq, wZ, zAX, zAP, go_sem];repeat refine sd2 ?_
  refine ⟨(), (so0 hF2)⟩
 cases hok : g.ok
 ·have hq2 : q = (zGx, [], 330) := by rw [hq]; unfold zAh; rw [if_pos hok]
  subst hq2;rw [hok, if_neg (by simp)] at hC;refine VT.of (zBP (L + 1)) ?_;simp only [Tryz.f24, zDL, zAX, zAP, go_sem];repeat refine sd2 ?_
  refine CallVC.same (hC _ _ _) ?_;simp only [e330, go_sem];repeat refine sd2 ?_
  exact ps0 (by simp only [zEJ, kz, Gx.row, zGx, zIni, go_sem]) (hf := by simp [zEJ, zAu, Gx.row, zGx, zIni, Tx.nf, nfl])
 rw [hok, if_pos rfl] at hC;cases htm : zGS now
 ·have hq2 : q = (zGx, [], 2) := by rw [hq]; unfold zAh; rw [if_neg (by simp [hok]), if_pos (.inl htm)]
  subst hq2;rw [htm] at hT;refine VT.of (zBP (L + 1)) ?_;simp only [Tryz.f24, zDL, zAX, zAP, go_sem];repeat refine sd2 ?_
  refine CallVC.same (hC _ _ _) ?_;simp only [e0, go_sem];repeat refine sd2 ?_
  refine CallVC.same (hT _ _ _) ?_;simp only [go_sem];repeat refine sd2 ?_
  exact ps0 (by simp only [zEJ, kz, Gx.row, zGx, zIni, go_sem]) (hf := by simp [zEJ, zAu, Gx.row, zGx, zIni, Tx.nf, nfl])
 rw [htm] at hT;by_cases hta : now < g.ta
 ·have hq2 : q = (zGx, [], 2) := by rw [hq]; unfold zAh; rw [if_neg (by simp [hok]), if_pos (.inr (.inl hta))]
  subst hq2;have d1 : decide (now < g.ta) = true := dT hta;refine VT.of (zBP (L + 1)) ?_;simp only [Tryz.f24, zDL, zAX, zAP, go_sem];repeat refine sd2 ?_
  refine CallVC.same (hC _ _ _) ?_;simp only [e0, go_sem];repeat refine sd2 ?_
  refine CallVC.same (hT _ _ _) ?_;simp only [d1, go_sem];repeat refine sd2 ?_
  exact ps0 (by simp only [zEJ, kz, Gx.row, zGx, zIni, go_sem]) (hf := by simp [zEJ, zAu, Gx.row, zGx, zIni, Tx.nf, nfl])
 have d1 : decide (now < g.ta) = false := dF hta;by_cases hk : 1 ≤ kind ∧ kind ≤ 5;rotate_left
 ·have hq2 : q = (zGx, [], 2) := by rw [hq]; unfold zAh; rw [if_neg (by simp [hok]), if_pos (by omega)]
  subst hq2;have n1 : (1 = kind) = False := by apply eq_false; omega
  have n2 : (2 = kind) = False := by apply eq_false; omega
  have n3 : (3 = kind) = False := by apply eq_false; omega
  have n4 : (4 = kind) = False := by apply eq_false; omega
  have n5 : (5 = kind) = False := by apply eq_false; omega
  refine VT.of (zBP (L + 1)) ?_;simp only [Tryz.f24, n1, n2, n3, n4, n5, zDL, wZ, zAX, zAP, go_sem];repeat refine sd2 ?_
  refine CallVC.same (hC _ _ _) ?_;simp only [e0, go_sem];repeat refine sd2 ?_
  refine CallVC.same (hT _ _ _) ?_;simp only [d1, go_sem];repeat refine sd2 ?_
  exact ps0 (by simp only [zEJ, kz, Gx.row, zGx, zIni, go_sem]) (hf := by simp [zEJ, zAu, Gx.row, zGx, zIni, Tx.nf, nfl])
 refine vcu ⟨[none, some (.int .i64 now), none, some (.ptr ⟨L + 1, 0⟩ 0 0), none, some (.ptr ⟨L + 1, 32⟩ 0 0), some (.ptr ⟨L + 1, 64⟩ 0 0), some (.nilS), some (.int .i64 0), none, some (.fn (.func (evF kind)) [] []), some (.bool true)] ++ oz 65, [(⟨L + 1, 0⟩, .rows 28 20 true true [(gR g [])]), (⟨L + 1, 32⟩, .rows 40 5 true true [[.int .i64 kind, .int .i64 p.fr, .int .i64 p.tt, .int .i64 p.tg, .fs 3 (p.cs.map Ckx.row)]]), (⟨L + 1, 64⟩, .rows 28 20 true true [[.int .i64 0, .int .i64 0, .int .i64 0, .str [], .int .i64 0, .int .i64 0, .int .i64 0, .int .i64 0, .int .i64 0, .str [], .int .i64 0, .int .i64 0, .int .i64 0, .int .i64 0, .int .i64 0, .str [], .str [], .int .i64 0, .int .i64 0, .int .i64 0]]), (⟨L + 1, 10000⟩, .map true true [.int .i64 1, .int .i64 2, .int .i64 3, .int .i64 4, .int .i64 5] [.fn (.func 53) [] [], .fn (.func 54) [] [], .fn (.func 55) [] [], .fn (.func 56) [] [], .fn (.func 57) [] []])], 30000⟩ ?_ ?_
 ·rcases (show kind = 1 ∨ kind = 2 ∨ kind = 3 ∨ kind = 4 ∨ kind = 5 by omega) with hk9 | hk9 | hk9 | hk9 | hk9
  ·have he : evF kind = 53 := by rw [hk9]; rfl
   rw [he];simp only [Tryz.f24, hk9, zDL, Int.reduceEq, wP, zAX, zAP, go_sem];repeat refine sd2 ?_
   refine ⟨(), (so0 hF2)⟩
  ·have he : evF kind = 54 := by rw [hk9]; rfl
   rw [he];simp only [Tryz.f24, hk9, zDL, Int.reduceEq, wP, zAX, zAP, go_sem];repeat refine sd2 ?_
   refine ⟨(), (so0 hF2)⟩
  ·have he : evF kind = 55 := by rw [hk9]; rfl
   rw [he];simp only [Tryz.f24, hk9, zDL, Int.reduceEq, wP, zAX, zAP, go_sem];repeat refine sd2 ?_
   refine ⟨(), (so0 hF2)⟩
  ·have he : evF kind = 56 := by rw [hk9]; rfl
   rw [he];simp only [Tryz.f24, hk9, zDL, Int.reduceEq, wP, zAX, zAP, go_sem];repeat refine sd2 ?_
   refine ⟨(), (so0 hF2)⟩
  ·have he : evF kind = 57 := by rw [hk9]; rfl
   rw [he];simp only [Tryz.f24, hk9, zDL, Int.reduceEq, wP, zAX, zAP, go_sem];repeat refine sd2 ?_
   refine ⟨(), (so0 hF2)⟩
 have hok' : kind = 5 ∧ p.ok = false → q = (zGx, [], 320) := fun h => by rw [hq]; unfold zAh; rw [if_neg (by simp [hok]), if_neg (by simp [htm]; omega), if_pos h]
 refine VT.cut (zBP (L + 1)) (by kernel_rfl) (fun _ : Unit => ⟨[none, some (.int .i64 now), none, some (.ptr ⟨L + 1, 0⟩ 0 0), none, some (.ptr ⟨L + 1, 32⟩ 0 0), some (.ptr ⟨L + 1, 64⟩ 0 0), none, none, none, some (.fn (.func (evF kind)) [] [])] ++ oz 66, [(⟨L + 1, 0⟩, .rows 28 20 true true [(gR g [])]), (⟨L + 1, 32⟩, .rows 40 5 true true [[.int .i64 kind, .int .i64 p.fr, .int .i64 p.tt, .int .i64 p.tg, .fs 3 (p.cs.map Ckx.row)]]), (⟨L + 1, 64⟩, .rows 28 20 true true [[.int .i64 0, .int .i64 0, .int .i64 0, .str [], .int .i64 0, .int .i64 0, .int .i64 0, .int .i64 0, .int .i64 0, .str [], .int .i64 0, .int .i64 0, .int .i64 0, .int .i64 0, .int .i64 0, .str [], .str [], .int .i64 0, .int .i64 0, .int .i64 0]])], 40000⟩) (fun _ => kind = 5 → p.ok = true) ?_ ?_
 ·by_cases h5 : kind = 5
  ·have b5 : (kind == 5) = true := by simp; omega
   cases hpo : p.ok
   ·rw [hpo, if_neg (by simp)] at hP;have hq2 := hok' ⟨h5, hpo⟩;subst hq2;simp only [Tryz.f24, go_sem];repeat refine sd2 ?_
    refine CallVC.same (hC _ _ _) ?_;simp only [e0, go_sem];repeat refine sd2 ?_
    refine CallVC.same (hT _ _ _) ?_;simp only [d1, b5, go_sem];repeat refine sd2 ?_
    refine CallVC.same (hP _ _ _) ?_;simp only [e320, go_sem];repeat refine sd2 ?_
    exact ps0 (by simp only [zEJ, kz, Gx.row, zGx, zIni, go_sem]) (hf := by simp [zEJ, zAu, Gx.row, zGx, zIni, Tx.nf, nfl])
   ·rw [hpo, if_pos rfl] at hP;simp only [Tryz.f24, go_sem];repeat refine sd2 ?_
    refine CallVC.same (hC _ _ _) ?_;simp only [e0, go_sem];repeat refine sd2 ?_
    refine CallVC.same (hT _ _ _) ?_;simp only [d1, b5, go_sem];repeat refine sd2 ?_
    refine CallVC.same (hP _ _ _) ?_;simp only [e0, go_sem];repeat refine sd2 ?_
    refine ⟨(), fun _ => trivial, (so0 hF2)⟩
  ·have b5 : (kind == 5) = false := by simp; omega
   simp only [Tryz.f24, go_sem];repeat refine sd2 ?_
   refine CallVC.same (hC _ _ _) ?_;simp only [e0, go_sem];repeat refine sd2 ?_
   refine CallVC.same (hT _ _ _) ?_;simp only [d1, b5, go_sem];repeat refine sd2 ?_
   refine ⟨(), fun h => absurd h h5, (so0 hF2)⟩
 intro _ hpok;clear hC hT hP;rw [zBm] at htm;refine vcu ⟨[none, some (.int .i64 now), none, some (.ptr ⟨L + 1, 0⟩ 0 0), none, some (.ptr ⟨L + 1, 32⟩ 0 0), some (.ptr ⟨L + 1, 64⟩ 0 0), none, none, none, some (.fn (.func (evF kind)) [] []), none, some (.ptr ⟨L + 1, 40096⟩ 0 0)] ++ oz 64, [(⟨L + 1, 32⟩, .rows 40 5 true true [[.int .i64 kind, .int .i64 p.fr, .int .i64 p.tt, .int .i64 p.tg, .fs 3 (p.cs.map Ckx.row)]]), (⟨L + 1, 64⟩, .rows 28 20 true true [[.int .i64 0, .int .i64 0, .int .i64 0, .str [], .int .i64 0, .int .i64 0, .int .i64 0, .int .i64 0, .int .i64 0, .str [], .int .i64 0, .int .i64 0, .int .i64 0, .int .i64 0, .int .i64 0, .str [], .str [], .int .i64 0, .int .i64 0, .int .i64 0]]), (⟨L + 1, 40096⟩, .rows 123 22 true true [(gR g [.int .i64 now, .nilS])])], 50000⟩ ?_ ?_
 ·simp only [Tryz.f24, go_sem];repeat refine sd2 ?_
  refine ⟨(), (so0 hF2)⟩
 refine vcu ⟨[none, some (.int .i64 now), none, none, none, some (.ptr ⟨L + 1, 32⟩ 0 0), some (.ptr ⟨L + 1, 64⟩ 0 0), none, none, none, some (.fn (.func (evF kind)) [] []), none, some (.ptr ⟨L + 1, 40096⟩ 0 0)] ++ oz 64, [(⟨L + 1, 32⟩, .rows 40 5 true true [[.int .i64 kind, .int .i64 p.fr, .int .i64 p.tt, .int .i64 p.tg, .fs 3 (p.cs.map Ckx.row)]]), (⟨L + 1, 64⟩, .rows 28 20 true true [[.int .i64 0, .int .i64 0, .int .i64 0, .str [], .int .i64 0, .int .i64 0, .int .i64 0, .int .i64 0, .int .i64 0, .str [], .int .i64 0, .int .i64 0, .int .i64 0, .int .i64 0, .int .i64 0, .str [], .str [], .int .i64 0, .int .i64 0, .int .i64 0]]), (⟨L + 1, 40096⟩, .rows 123 22 true true [[.int .i64 g.st, .int .i64 g.fr, .int .i64 g.tt, .str g.sec, .int .i64 g.own.tag, .int .i64 g.own.win, .int .i64 g.own.out, .int .i64 g.own.inn, .int .i64 g.own.tsn, .str g.own.ck, .int .i64 g.peer.tag, .int .i64 g.peer.win, .int .i64 g.peer.out, .int .i64 g.peer.inn, .int .i64 g.peer.tsn, .str g.peer.ck, .str g.ck, .int .i64 now, .int .i64 g.due, .int .i64 g.tr, .int .i64 now, .nilS]])], 60000⟩ ?_ ?_
 ·simp only [Tryz.f24, go_sem];repeat refine sd2 ?_
  refine ⟨(), (so0 hF2)⟩
 obtain ⟨g9, hg9⟩ : ∃ g9 : Gx, g9 = { g with ta := now } := ⟨_, rfl⟩;have hhd : g9.hd = true := by
  have := zTh hok;rw [zSs] at this;rw [hg9, zSs];exact ⟨this.1, this.2.1, this.2.2.1, this.2.2.2.1, this.2.2.2.2.1, this.2.2.2.2.2.1, (zBm _).2 htm⟩
 have hdt : g9.due < 0 ∨ (0 ≤ g9.due ∧ g9.due ≤ 1099511634176 ∧ 1 ≤ g9.tr ∧ g9.tr ≤ 8) := by rw [hg9]; exact zTG (g := g) hok
 have hev := fun (F : SF) (nx : Nat) (hF : F ⟨L + 1, 40096⟩ = _) => zQd (F := F) (L := L + 1) (nx := nx) ⟨L + 1, 40096⟩ (by simp) g9 now p kind hk hhd hdt htm (fun h => by
  have := hpok h;unfold Pkx.ok Pkx.hd at this;simp only [zF, decide_eq_true_eq] at this;omega) hb hF
 have hqe : q = (match gEv g9 now kind p with | none => (zGx, [], 8) | some (h, o) => (h, o, 0)) := by
  rw [hq, hg9]; unfold zAh;rw [if_neg (by simp [hok]), if_neg (by simp [zBm, htm]; omega), if_neg (by intro h; rw [hpok h.1] at h; simp at h)];generalize gEv _ now kind p = z;cases z <;> rfl
 refine VT.of (zBP (L + 1)) ?_;cases hr : gEv g9 now kind p with
 | none =>
  rw [hr] at hqe hev;simp only at hqe;subst hqe;simp only [zPT, hg9, Gx.mrow, Gx.row, Pkx.row, zH, zC] at hev;simp only [Tryz.f24, go_sem];repeat refine sd2 ?_
  refine CallVC.same (hev _ _ (by simp [Tx.look])) ?_;simp only [go_sem];repeat refine sd2 ?_
  exact ps0 (by simp only [zEJ, kz, Gx.row, zGx, zIni, go_sem]) (hf := by simp [zEJ, zAu, Gx.row, zGx, zIni, Tx.nf, nfl])
 | some r =>
  obtain ⟨h, o⟩ := r;rw [hr] at hqe hev;simp only at hqe;subst hqe;have hkz : nf (zAu o) = true := zMc o;obtain ⟨ov, hov⟩ : ∃ ov, ov = zAu o := ⟨_, rfl⟩;simp only [zPT, ← hov, hg9, Gx.mrow, Gx.row, Pkx.row, zH, zC] at hev;simp only [Tryz.f24, go_sem];repeat refine sd2 ?_
  refine CallVC.same (hev _ _ (by simp [Tx.look])) ?_;simp only [go_sem];repeat refine sd2 ?_
  refine ⟨zAH (fun x => x.i) (by kernel_rfl), ?_⟩;exact ps0 (by simp only [zEJ, ← hov, Gx.row, go_sem]) (hf := by simp [zEJ, zMc, Gx.row, Tx.nf, nfl])
end Go.Proofs.YtifhjhbfhdcahaaGreat
end
section
namespace Go.Proofs.YtifhjhbfhdcahaaGreat
open Go.ChangeShapes Go.WideShapes Go.ChangeAt Go.RowKit Go.Tx
theorem zQe : ownKnob Tryz.prog.godebug = none := by kernel_rfl
theorem zMd : laidOutB Tryz.prog = true := by kernel_rfl
set_option maxRecDepth 100000
theorem zMe : Tryz.prog.underlying 4 = some .bool := by kernel_rfl
theorem wf8 {n : Int} (h : (Lit.int .u8 n).wf = true) : ∃ k : Nat, n = k ∧ k < 256 := by
 have : 0 ≤ n ∧ n ≤ 255 := by simpa [Lit.wf, IntKind.min, IntKind.max, IntKind.signed, IntKind.bits] using h
 exact ⟨n.toNat, by omega, by omega⟩
theorem zSi {n : Int} (h : (Lit.int .u16 n).wf = true) : ∃ k : Nat, n = k ∧ k < 65536 := by
 have : 0 ≤ n ∧ n ≤ 65535 := by simpa [Lit.wf, IntKind.min, IntKind.max, IntKind.signed, IntKind.bits] using h
 exact ⟨n.toNat, by omega, by omega⟩
theorem zPU : Tryz.prog.underlying 22 = some (.int .u16) := by kernel_rfl
end Go.Proofs.YtifhjhbfhdcahaaGreat
end
section
namespace Go.Proofs.YtifhjhbfhdcahaaGreat
open Go.Tx
set_option maxRecDepth 100000
set_option maxHeartbeats 16000000
theorem zQf {t : Int} (h : zGS t = true) : 0 ≤ t ∧ t ≤ 1099511627776 := by unfold zGS at h; simpa using h
theorem zIZ (g : Gx) : g.hd = true ↔ 0 ≤ g.fr ∧ g.fr ≤ 65535 ∧ 0 ≤ g.tt ∧ g.tt ≤ 65535 ∧ g.sec.length = 32 ∧ zAa g.own = true ∧ zGS g.ta = true := by
 unfold Gx.hd;simp only [zF, decide_eq_true_eq, and_assoc]
theorem zFc (g : Gx) : g.ok = true ↔ g.hd = true ∧ g.mid = true ∧ g.cko = true := by unfold Gx.ok; simp only [zF, and_assoc]
theorem zCL {d : Ini} (h : zAa d = true) : d.ok = true ∧ d.ck = [] := by unfold zAa at h; simpa using h
theorem zIa {d : Ini} (h : d.ok = true) : 0 < d.tag ∧ d.tag < 4294967296 ∧ d.ck.length ≤ 200 := by
 unfold Ini.ok zBQ at h;simp at h;omega
theorem zGX (d : Ini) : d.oct.length = 16 + d.ck.length := by
 unfold Ini.oct zKp;simp only [zQ, zAR]
theorem zE8 {g : Gx} (h : g.mid = true) : g.peer = zIni ∨ zAa g.peer = true := by
 unfold Gx.mid at h;split at h;·simp at h; exact .inl h.1
 split at h;·simp at h; exact .inl h.1
 split at h;·simp at h; exact .inr h.1
 split at h;·simp at h; exact .inr h.1
 split at h;·simp at h; exact h.1
 ·cases h
structure Good (h : Gx) (now : Int) (o : List Pkx) : Prop where
 ok : h.ok = true
 ta : h.ta = now
 len : o.length ≤ 1
 pk : ∀ x ∈ o, x.ok = true ∧ x.fr = h.fr ∧ x.tt = h.tt
theorem zG9 {g : Gx} (hg : g.hd = true) {tag : Int} (ht : 0 ≤ tag ∧ tag < 4294967296) {c : Ckx} (hc : 0 ≤ c.kd ∧ c.kd < 256) (hf : c.fl = 0) (hb : c.bd.length ≤ 300) : ∀ x ∈ zBM g tag c, x.ok = true ∧ x.fr = g.fr ∧ x.tt = g.tt := by
 intro x hx;simp only [zBM, wJ, uB, or_false] at hx;subst hx;rw [zIZ] at hg;refine ⟨?_, rfl, rfl⟩;unfold Pkx.ok Pkx.hd szs Ckx.ok Ckx.sz zBQ;simp [hf];omega
theorem zHp {g : Gx} (hm : g.mid = true) : 0 ≤ g.peer.tag ∧ g.peer.tag < 4294967296 := by
 rcases zE8 hm with h | h;·rw [h]; exact ⟨by decide, by decide⟩
 ·have := zIa (zCL h).1; omega
theorem zHA {g : Gx} (hg : g.hd = true) (ht : 0 ≤ g.peer.tag ∧ g.peer.tag < 4294967296) {k : Int} (hk : 0 ≤ k ∧ k < 256) : ∀ x ∈ zBV g k, x.ok = true ∧ x.fr = g.fr ∧ x.tt = g.tt :=
 zG9 hg ht hk rfl (by simp)
theorem zE9 {g : Gx} (hg : g.hd = true) (ht : 0 ≤ g.peer.tag ∧ g.peer.tag < 4294967296) (hc : g.ck.length ≤ 200) : (zA4 g).length ≤ 1 ∧ ∀ x ∈ zA4 g, x.ok = true ∧ x.fr = g.fr ∧ x.tt = g.tt := by
 have ho := zCL ((zIZ g).1 hg).2.2.2.2.2.1;unfold zA4;split;·exact ⟨by simp [zBM], zG9 hg (by omega) (by simp) rfl (by simp [zGX, ho.2])⟩
 split;·exact ⟨by simp [zBM], zG9 hg ht (by simp) rfl (by simp; omega)⟩
 split;·exact ⟨by simp [zBV, zBM], zHA hg ht (by simp)⟩
 split;·exact ⟨by simp [zBV, zBM], zHA hg ht (by simp)⟩
 ·exact ⟨by simp, by simp⟩
theorem zJX {g : Gx} (hg : g.hd = true) {s : Int} (hs : (s = 2 ∧ g.peer = zIni) ∨ ((s = 5 ∨ s = 6) ∧ zAa g.peer = true)) {now : Int} (hn : 0 ≤ now ∧ now ≤ 1099511627776) : (zAK g s now).ok = true := by
 rw [zFc];refine ⟨hg, ?_, ?_⟩
 ·have ht : (zAK g s now).tries = true := by unfold Gx.tries zAK; simp; omega
  unfold Gx.mid;rw [ht];rcases hs with ⟨rfl, hp⟩ | ⟨rfl | rfl, hp⟩ <;> simp [zAK, hp]
 ·unfold Gx.cko zAK;rcases hs with ⟨rfl, _⟩ | ⟨rfl | rfl, _⟩ <;> simp
theorem zKC {g : Gx} (hg : g.hd = true) {s : Int} (hs : (s = 4 ∧ zAa g.peer = true) ∨ (s = 7 ∧ (g.peer = zIni ∨ zAa g.peer = true))) : (zAl g s).ok = true := by
 rw [zFc];refine ⟨hg, ?_, ?_⟩
 ·have ht : (zAl g s).rest = true := by unfold Gx.rest zAl; simp
  unfold Gx.mid;rw [ht];rcases hs with ⟨rfl, hp⟩ | ⟨rfl, hp | hp⟩ <;> simp [zAl, hp]
 ·unfold Gx.cko zAl;rcases hs with ⟨rfl, _⟩ | ⟨rfl, _⟩ <;> simp
theorem zRQ {g : Gx} (hm : g.mid = true) (h : g.st = 4 ∨ g.st = 5 ∨ g.st = 6 ∨ g.st = 3) : zAa g.peer = true := by
 unfold Gx.mid at hm;rcases h with h | h | h | h <;> simp [h] at hm <;> exact hm.1
theorem zCW {g : Gx} (hg : g.ok = true) {now : Int} (ht : g.ta = now) {o : List Pkx} (h1 : o.length ≤ 1) (h2 : ∀ x ∈ o, x.ok = true ∧ x.fr = g.fr ∧ x.tt = g.tt) : Good g now o := ⟨hg, ht, h1, h2⟩
theorem zMf {g : Gx} (h : g.cko = true) : g.ck.length ≤ 200 := by
 unfold Gx.cko at h;split at h;·simp at h; exact h.2
 ·simp at h; rw [h]; simp
theorem zMg {g : Gx} (hg : g.ok = true) {now : Int} (ht : g.ta = now) (hn : 0 ≤ now ∧ now ≤ 1099511627776) : Good (zDy g now).1 now (zDy g now).2 := by
 obtain ⟨hh, hm, hc⟩ := (zFc g).1 hg;unfold zDy;split;·exact zCW hg ht (by simp) (by simp)
 rename_i hdue;split;·exact ⟨zKC hh (.inr ⟨rfl, zE8 hm⟩), ht, by simp, by simp⟩
 rename_i htr;have ha := zE9 hh (zHp hm) (zMf hc);refine ⟨?_, ht, ha.1, ha.2⟩;have hw := zMW g.tr;have hd := zTG hg;have htr' : ∀ h : Gx, h.due = now + wtS g.tr → h.tr = g.tr + 1 → h.tries = true := by
  intro h e1 e2;unfold Gx.tries;rw [e1, e2];simp; omega
 have hre : g.rest = false := by
  cases h : g.rest;·rfl
  ·unfold Gx.rest at h; simp at h; omega
 rw [zFc];refine ⟨hh, ?_, hc⟩;unfold Gx.mid at hm ⊢;rw [hre] at hm;simp only [htr' { g with due := now + wtS g.tr, tr := g.tr + 1 } rfl rfl];simp only [uU] at hm;split at hm;·cases hm
 rename_i h1;rw [if_neg h1];split at hm;·rename_i h2; rw [if_pos h2]; simp at hm ⊢; exact hm.1
 rename_i h2;rw [if_neg h2];split at hm;·rename_i h3; rw [if_pos h3]; simp at hm ⊢; exact hm.1
 rename_i h3;rw [if_neg h3];split at hm;·cases hm
 split at hm;·cases hm
 ·cases hm
theorem zMh {g : Gx} (hg : g.ok = true) {now : Int} (ht : g.ta = now) (hn : 0 ≤ now ∧ now ≤ 1099511627776) (tag : Int) (c : Ckx) : Good (zAm g now tag c).1 now (zAm g now tag c).2 := by
 obtain ⟨hh, hm, hc⟩ := (zFc g).1 hg;have hp := zHp hm;have ha := zE9 hh hp (zMf hc);have hsame : Good g now [] := zCW hg ht (by simp) (by simp);have hown := zCL ((zIZ g).1 hh).2.2.2.2.2.1;have hrest : ∀ s, (s = 4 ∧ zAa g.peer = true) ∨ (s = 7 ∧ (g.peer = zIni ∨ zAa g.peer = true)) → ∀ o : List Pkx, o.length ≤ 1 → (∀ x ∈ o, x.ok = true ∧ x.fr = g.fr ∧ x.tt = g.tt) → Good (zAl g s) now o := fun s hs o h1 h2 => ⟨zKC hh hs, ht, h1, h2⟩
 unfold zAm;split
 ·rename_i hk;unfold zEf;split
  ·rename_i h;obtain ⟨h1, h2, h3⟩ := h;obtain ⟨i1, i2, i3, _⟩ := zGW hk h1;have := zIa i1;refine zCW hg ht (by simp [zBM]) (zG9 hh (by omega) (by simp) rfl ?_);simp only [zGX, zHo];omega
  ·exact hsame
 split;·exact hsame
 split
 ·rename_i hk;unfold zEg;split
  ·rename_i h;obtain ⟨h1, h2⟩ := h;unfold zCD at h1;simp only [zF, decide_eq_true_eq] at h1;obtain ⟨_, i1, i2, _⟩ := h1;have hne : (zBq c).ck ≠ [] := by
    intro h; unfold zEm at i2; rw [if_pos h, hk] at i2; cases i2
   have htg := zIa i1;have hpl : zAa { zBq c with ck := [] } = true := by
    unfold zAa;rw [zJV i1 (by simp)]; rfl
   have hok : Gx.ok { zAK g 3 now with ck := (zBq c).ck, peer := { zBq c with ck := [] } } = true := by
    rw [zFc];refine ⟨hh, ?_, ?_⟩
    ·have ht : Gx.tries { zAK g 3 now with ck := (zBq c).ck, peer := { zBq c with ck := [] } } = true := by unfold Gx.tries zAK; simp; omega
     unfold Gx.mid;rw [ht];simp [zAK, hpl]
    ·unfold Gx.cko zAK;simp [hne];omega
   have ha2 := zE9 (g := { zAK g 3 now with ck := (zBq c).ck, peer := { zBq c with ck := [] } }) hh (by show 0 ≤ (zBq c).tag ∧ _; exact ⟨by omega, htg.2.1⟩) htg.2.2;exact ⟨hok, ht, ha2.1, ha2.2⟩
  ·exact hsame
 split
 ·unfold zDR;simp only;split
  ·rename_i h;obtain ⟨_, h1, _, _⟩ := h;obtain ⟨i1, i2, _, _⟩ := zGW (c := ⟨1, 0, (c.bd.drop 6).take 16⟩) rfl h1;have htg := zIa i1;have hpl : zAa (zBq ⟨1, 0, (c.bd.drop 6).take 16⟩) = true := by unfold zAa; rw [i1, i2]; rfl
   split;·exact zCW hg ht (by simp [zBM]) (zG9 hh (by omega) (by simp) rfl (by simp))
   split
   ·refine ⟨zKC (g := { g with peer := zBq ⟨1, 0, (c.bd.drop 6).take 16⟩ }) hh (.inl ⟨rfl, hpl⟩), ht, by simp [zBV, zBM], zHA (g := { zAl g 4 with peer := zBq ⟨1, 0, (c.bd.drop 6).take 16⟩ }) hh ?_ (by simp)⟩;exact ⟨by show 0 ≤ (zBq _).tag; omega, htg.2.1⟩
   split;·exact zCW hg ht (by simp [zBV, zBM]) (zHA hh hp (by simp))
   ·exact hsame
  ·exact hsame
 split
 ·split;·rename_i h; exact hrest 4 (.inl ⟨rfl, zRQ hm (.inr (.inr (.inr h)))⟩) [] (by simp) (by simp)
  ·exact hsame
 split
 ·unfold zIQ;split
  ·rename_i h;have hpl := zRQ hm (by omega);have ha2 := zE9 (g := zAK g 6 now) hh hp (by simp [zAK]);exact ⟨zJX hh (.inr ⟨.inr rfl, hpl⟩) hn, ht, ha2.1, ha2.2⟩
  split;·exact zCW hg ht ha.1 ha.2
  ·exact hsame
 split
 ·unfold zFP;split;·exact hrest 7 (.inr ⟨rfl, zE8 hm⟩) _ (by simp [zBV, zBM]) (zHA hh hp (by simp))
  ·exact hsame
 split
 ·split;·exact hrest 7 (.inr ⟨rfl, zE8 hm⟩) [] (by simp) (by simp)
  ·exact hsame
 split
 ·split;·exact hsame
  ·exact hrest 7 (.inr ⟨rfl, zE8 hm⟩) [] (by simp) (by simp)
 ·exact hsame
theorem zPV {g : Gx} (hg : g.ok = true) {now : Int} (ht : g.ta = now) (hn : 0 ≤ now ∧ now ≤ 1099511627776) (kind : Int) (p : Pkx) {h : Gx} {o : List Pkx} (he : gEv g now kind p = some (h, o)) : Good h now o := by
 obtain ⟨hh, hm, hc⟩ := (zFc g).1 hg;have hp := zHp hm;unfold gEv at he;split at he
 ·unfold zNn at he;split at he
  ·rename_i h1;injection he with he; injection he with e1 e2; subst e1; subst e2;have hz : g.peer = zIni := by unfold Gx.mid at hm; rw [if_pos h1] at hm; simp at hm; exact hm.1
   have ha := zE9 (g := zAK g 2 now) hh hp (by simp [zAK]);exact ⟨zJX hh (.inl ⟨rfl, hz⟩) hn, ht, ha.1, ha.2⟩
  ·cases he
 split at he
 ·unfold zL3 at he;split at he
  ·rename_i h1;injection he with he; injection he with e1 e2; subst e1; subst e2;have ha := zE9 (g := zAK g 5 now) hh hp (by simp [zAK]);exact ⟨zJX hh (.inr ⟨.inl rfl, zRQ hm (.inl h1)⟩) hn, ht, ha.1, ha.2⟩
  ·cases he
 split at he
 ·unfold zL4 at he;split at he;·cases he
  ·injection he with he; injection he with e1 e2; subst e1; subst e2;refine ⟨zKC hh (.inr ⟨rfl, zE8 hm⟩), ht, ?_, ?_⟩
   ·split <;> simp [zBV, zBM]
   ·split;·simp
    ·exact zHA hh hp (by simp)
 split at he
 ·injection he with he;have := zMg hg ht hn;rw [he] at this;exact this
 ·injection he with he;unfold zFb at he;split at he
  ·have := zMh hg ht hn p.tg p.hdC;rw [he] at this;exact this
  ·injection he with e1 e2; subst e1; subst e2;exact zCW hg ht (by simp) (by simp)
theorem zAi {g : Gx} {now kind : Int} {p : Pkx} {h : Gx} {o : List Pkx} (he : zAh g now kind p = (h, o, 0)) : Good h now o := by
 unfold zAh at he;split at he;·simp at he
 rename_i hg;split at he;·simp at he
 rename_i h2;split at he;·simp at he
 split at he;·simp at he
 ·rename_i h' o' he';simp at he;obtain ⟨e1, e2⟩ := he;subst e1; subst e2;have hok : g.ok = true := by simpa using hg
  have hn : zGS now = true := by
   cases h : zGS now;·exact absurd (.inl h) h2
   ·rfl
  obtain ⟨hh, hm, hc⟩ := (zFc g).1 hok;refine zPV (g := { g with ta := now }) ?_ rfl (zQf hn) kind p he';rw [zFc];refine ⟨?_, hm, hc⟩;rw [zIZ] at hh ⊢;exact ⟨hh.1, hh.2.1, hh.2.2.1, hh.2.2.2.1, hh.2.2.2.2.1, hh.2.2.2.2.2.1, hn⟩
theorem zTd {a b : Ini} (h : a.row = b.row) : a = b := by
 obtain ⟨a1, a2, a3, a4, a5, a6⟩ := a;obtain ⟨b1, b2, b3, b4, b5, b6⟩ := b;simp only [Ini.row, List.cons.injEq, PV.int.injEq, PV.str.injEq, true_and, and_true] at h;obtain ⟨rfl, rfl, rfl, rfl, rfl, rfl⟩ := h;rfl
theorem zKD {d : Ini} (h : d.ok = true) : zCD ⟨zEm d.ck, 0, d.oct⟩ = true ∧ zBq ⟨zEm d.ck, 0, d.oct⟩ = d := by
 have hb := zPE h;unfold zBa at hb;have hk : zEm d.ck = 1 ∨ zEm d.ck = 2 := by unfold zEm; split <;> simp
 rw [if_pos hk] at hb;cases ho : zCD ⟨zEm d.ck, 0, d.oct⟩
 ·rw [ho, if_neg (by simp)] at hb;simp at hb
 ·rw [ho, if_pos rfl] at hb;simp only [PV.tup.injEq, List.cons.injEq, PV.agg.injEq, and_true] at hb;exact ⟨rfl, zTd hb⟩
theorem zIb {d : Ini} (h : zAa d = true) : zCD ⟨1, 0, d.oct⟩ = true ∧ zBq ⟨1, 0, d.oct⟩ = d := by
 obtain ⟨h1, h2⟩ := zCL h;have := zKD h1;rw [show zEm d.ck = 1 by rw [h2]; rfl] at this;exact this
theorem zIc {d : Ini} (h : d.ok = true) (hc : d.ck ≠ []) : zCD ⟨2, 0, d.oct⟩ = true ∧ zBq ⟨2, 0, d.oct⟩ = d := by
 have := zKD h;rw [show zEm d.ck = 2 by unfold zEm; rw [if_neg hc]] at this;exact this
theorem zHq (g : Gx) {d : Ini} (hd : zAa d = true) {t : Int} (ht : 0 ≤ t ∧ t ≤ 1099511627776) : (ckS g d.oct t).length = 62 ∧ (zBy ((ckS g d.oct t).take 6) : Int) = t ∧ ((ckS g d.oct t).drop 6).take 16 = d.oct := by
 have ho : d.oct.length = 16 := by rw [zGX, (zCL hd).2]; rfl
 have hp : (zAd 6 t.toNat).length = 6 := zAR 6 _;refine ⟨by rw [zHo]; omega, ?_, ?_⟩
 ·unfold ckS;simp only [vQ];rw [uH (by omega), zU (by omega), zIN (by omega)];omega
 ·unfold ckS;simp only [vQ];rw [qC (by omega), vX (by omega), zC, uH (by omega), zU (by omega)]
theorem zHr (g : Gx) {d : Ini} (hd : zAa d = true) {t : Int} (ht : 0 ≤ t ∧ t ≤ 1099511627776) (now : Int) : zDR g now (ckS g d.oct t) =
  (if g.st ≤ 3 ∧ (now < t ∨ 60000 < now - t) then (g, zBM g d.tag ⟨6, 0, []⟩)
  else if g.st ≤ 3 then ({ zAl g 4 with peer := d }, zBV { zAl g 4 with peer := d } 11)
  else if g.st = 4 ∧ d = g.peer then (g, zBV g 11) else (g, [])) := by
 obtain ⟨h1, h2, h3⟩ := zHq g hd ht;obtain ⟨i1, i2⟩ := zIb hd;unfold zDR;simp only [h1, h2, h3, i1, i2, (zBm t).2 ht, and_self, if_true]
theorem zId {g h : Gx} (h1 : h.own.tag = g.own.tag) (h2 : h.fr = g.fr) (h3 : h.tt = g.tt) (h4 : h.sec = g.sec) (b : List UInt8) (t : Int) : ckS h b t = ckS g b t := by
 unfold ckS; rw [h1, h2, h3, h4]
structure Tk where
 g0 : Gx
 g1 : Gx
 w0 : List Pkx
 w1 : List Pkx
 now : Int
def Tk.row (k : Tk) (a b : PV) : List PV := (gR k.g0 (gR k.g1 [a, b, .int .i64 k.now]))
noncomputable def cxc (L : Nat) : Cx := ⟨Tryz.prog, tys, meths, false, L, none, [], [], false, [{ v := .bool false, recovered := false }, { v := .bool false, recovered := false }], fun _ => False⟩
theorem zDz (L : Nat) : (cxc L).Ok := ⟨zIJ, zFj, zHc, zHd⟩
theorem zB6 {F : SF} {L nx : Nat} {g : Gx} {now kind : Int} {p : Pkx} {h : Gx} {o : List Pkx} {e : Int} (hs : zAh g now kind p = (h, o, e)) (hlen : p.cs.length ≤ 1000000) (hb : ∀ c ∈ p.cs, c.bd.length ≤ 1000000) :
  Con Tryz.prog 24 [.agg g.row, .int .i64 now, .agg (.int .i64 kind :: p.row)] F L nx nx (.tup [.agg h.row, zAu o, .int .i64 e]) [] [] := by
 have := zN3 (F := F) (L := L) (nx := nx) g now kind p hlen hb;rw [hs] at this;exact this
def zPW (L : Nat) (v : PV) : Prop := ∀ nx news, nmA (Dn L news) v ∧ rn (sg L nx news) v = v
theorem zBn {L : Nat} : zPW L .nilS := fun nx news => ⟨by simp [nmA], by simp [Tx.rn]⟩
theorem zMi {L : Nat} {a : Nm} {i j : Nat} (h : a.l ≤ L) : zPW L (.sl a i j) := fun nx news => ⟨by simp [nmA, Dn]; omega, by simp [Tx.rn, zDO h]⟩
theorem zGY {F : SF} {L nx : Nat} (m : Nm) (hm0 : m.l < L ∨ (m.l = L ∧ m.i < nx)) (k : Tk) (kind : Int) (p : Pkx) (hlen : p.cs.length ≤ 1000000) (hb : ∀ c ∈ p.cs, c.bd.length ≤ 1000000) (va : PV) (hva : zPW L va) (b : Nm) (hbL : b.l ≤ L) (h : Gx) (hst : zAh k.g0 k.now kind p = (h, [], 0)) (hbm : b ≠ m) (hwl : k.w1.length ≤ 1000000) (hFb : F b = some (.rows 38 4 true true (k.w1.map Pkx.row))) (hF : F m = some (.rows 33 43 true false [k.row va (.sl b 0 k.w1.length)])) :
  Con Tryz.prog 12 [.ptr m 0 0, .int .i64 0, .agg (.int .i64 kind :: p.row)] F L nx nx (.bool true) [(m, .rows 33 43 true false [(Tk.row { k with g0 := h } va (.sl b 0 k.w1.length))])] [m, b] := by
 have hm : m.l ≤ L := by omega
 have m1 : ∀ k, (m = (⟨L + 1, k⟩ : Nm)) = False := zAF hm;have m2 : ∀ k, ((⟨L + 1, k⟩ : Nm) = m) = False := zAE hm;have b1 : ∀ k, (b = (⟨L + 1, k⟩ : Nm)) = False := zAF (by omega);have b2 : ∀ k, ((⟨L + 1, k⟩ : Nm) = b) = False := zAE (by omega);have c1 : (b = m) = False := eq_false hbm;have c2 : (m = b) = False := eq_false (Ne.symm hbm);have hS := fun F L nx => zB6 (F := F) (L := L) (nx := nx) hst hlen hb
 have hG := zAi hst;have hC := fun F L nx => zCU (F := F) (L := L) (nx := nx) h
 rw [hG.ok, if_pos rfl] at hC;have hta := hG.ta;have t1 : (h.ta != k.now) = false := by simp; omega
 have e0 : ((0 : Int) == 8) = false := rfl;have n0 : ((0 : Int) != 0) = false := rfl;have z1 : ((1 : Int) - 0) = 1 := rfl;have z2 : ((1 : Int) - 1) = 0 := rfl;have kz : zAu [] = .nilS := rfl;clear hG hst;simp only [Tk.row, Gx.row, Pkx.row, kz] at hF hS hC ⊢;show Con _ _ _ F L nx (nx + 0) _ _ _;refine zSx (zBP (L + 1)) rfl rfl (fn := Tryz.f12) (c := Tryz.f12.body.getD .skip) (by kernel_rfl) (by rfl) (by kernel_rfl) rfl  (by simp; omega) ?_;intro F3 hF1 hF2;have kq := (hF1 m (by simp)).trans hF;have kb := (hF1 b (by simp)).trans hFb;refine vcu ⟨[some (.ptr m 0 0), some (.int .i64 0), none, none, none, some (.ptr ⟨L + 1, 0⟩ 0 0)] ++ oz 103, [(⟨L + 1, 0⟩, .rows 40 5 true true [[.int .i64 kind, .int .i64 p.fr, .int .i64 p.tt, .int .i64 p.tg, .fs 3 (p.cs.map Ckx.row)]])], 10000⟩ ?_ ?_
 ·simp only [Tryz.f12, go_sem];repeat refine sd2 ?_
  refine ⟨(), (so0 hF2)⟩
 refine vcu ⟨[some (.ptr m 0 0), some (.int .i64 0), none, none, none, none, none, some (.ptr ⟨L + 1, 10480⟩ 0 0), some (.nilS), some (.int .i64 0)] ++ oz 99, [(⟨L + 1, 10480⟩, .rows 28 20 true true [(gR h [])])], 20000⟩ ?_ ?_
 ·simp only [Tryz.f12, kq, m1, go_sem];repeat refine sd2 ?_
  refine CallVC.same (hS _ _ _) ?_;simp only [go_sem];repeat refine sd2 ?_
  refine ⟨zDr m2, (), (so0 hF2)⟩
 clear hS;refine vcu ⟨[some (.ptr m 0 0), some (.int .i64 0), none, none, none, none, none, some (.ptr ⟨L + 1, 10480⟩ 0 0), some (.nilS), some (.int .i64 0)] ++ oz 99, [(⟨L + 1, 10480⟩, .rows 28 20 true true [(gR h [])])], 30000⟩ ?_ ?_
 ·simp only [Tryz.f12, e0, go_sem];repeat refine sd2 ?_
  refine ⟨(), (so0 hF2)⟩
 have g1 : decide ((0 : Int) > 1) = false := rfl;have g2 : decide ((1 : Int) > 1) = false := rfl;have g1' : decide ((1 : Int) < 0) = false := rfl;have g2' : decide ((1 : Int) < 1) = false := rfl;have g3' : decide ((1 : Int) < ((1 : Nat) : Int)) = false := rfl;refine vcu ⟨[some (.ptr m 0 0), some (.int .i64 0), none, none, none, none, none, some (.ptr ⟨L + 1, 10480⟩ 0 0), some (.nilS)] ++ oz 100, [(⟨L + 1, 10480⟩, .rows 28 20 true true [(gR h [])])], 40000⟩ ?_ ?_
 ·simp only [Tryz.f12, n0, go_sem];repeat refine sd2 ?_
  refine CallVC.same (hC _ _ _) ?_;simp only [kq, m1, n0, t1, g1, go_sem];repeat refine sd2 ?_
  refine ⟨zDr m2, (), (so0 hF2)⟩
 clear hC;refine vcu ⟨[some (.ptr m 0 0), some (.int .i64 0), none, none, none, none, none, some (.ptr ⟨L + 1, 10480⟩ 0 0), some (.nilS)] ++ oz 100, [(⟨L + 1, 10480⟩, .rows 28 20 true true [(gR h [])])], 70000⟩ ?_ ?_
 ·simp only [Tryz.f12, go_sem];repeat refine sd2 ?_
  refine zTD ?_;have q2 : decide ((0 : Int) < 0) = false := rfl;simp only [q2, go_sem];repeat refine sd2 ?_
  refine ⟨(), (so0 hF2)⟩
 refine vcu ⟨[some (.ptr m 0 0), some (.int .i64 0), none, none, none, none, none, none, some (.nilS)] ++ oz 100, [(m, .rows 33 43 true false [(gR h (gR k.g1 [va, (.sl b 0 k.w1.length), .int .i64 k.now]))])], 80000⟩ ?_ ?_
 ·simp only [Tryz.f12, kq, m1, go_sem];repeat refine sd2 ?_
  refine ⟨zDr m2, (), (so0 hF2 (h2 := by simp [zA0, Tx.look, m1]) (h3 := by simp [zBK, keys, m2]))⟩
 refine VT.of (zBP (L + 1)) ?_;simp only [Tryz.f12, kq, c1, kb, z1, zL, go_sem];repeat refine sd2 ?_
 refine ⟨zAH (fun x => if x = m then 1 else if x = b then 1 else x.i + 2) (by simp only [zDS, List.map, if_true]; kernel_rfl), .now (PostN.val [] (.inr rfl) (by simp) (p := True) (v0 := .bool true) ?_ trivial ?_ ?_ ⟨by omega, ?_, trivial⟩ ?_)⟩;·simp only [go_sem]
 ·simp [nmA]
 ·simp [Tx.rn]
 ·rw [zFO];exact .ren (by simp [Tx.look]; rfl) (by simp [zBk, nmA, zDH, Dn, (hva nx []).1, hbL]) (by simp [Tx.rn, Tx.rnL, (hva nx []).2, zDO hbL]; try simp [sg])
 ·simp [UpdAll, keys]
def zK2 (fr tt : Int) (sec : List UInt8) (own : Ini) : Gx := ⟨1, fr, tt, sec, own, zIni, [], 0, -1, 0⟩
theorem zMj {F : SF} {L nx : Nat} (fr tt : Int) (sec : List UInt8) (own : Ini) :
  Con Tryz.prog 29 [.int .i64 fr, .int .i64 tt, .str sec, .agg own.row] F L nx nx (if (zK2 fr tt sec own).ok then .tup [.agg (zK2 fr tt sec own).row, .int .i64 0] else .tup [.agg zGx.row, .int .i64 2]) [] [] := by
 have hC := fun F L nx => zCU (F := F) (L := L) (nx := nx) (zK2 fr tt sec own)
 have e330 : ((330 : Int) != 0) = true := rfl;have e0 : ((0 : Int) != 0) = false := rfl;cases hok : (zK2 fr tt sec own).ok
 ·rw [hok, if_neg (by simp)] at hC;rw [if_neg (by simp)];simp only [zK2, Gx.row, Ini.row, zGx, zIni] at hC ⊢;refine bdy Tryz.f29 ?_;intro F3 hF1 hF2;simp only [Tryz.f29, go_sem];repeat refine sd2 ?_
  refine CallVC.same (hC _ _ _) ?_;simp only [e330, go_sem];repeat refine sd2 ?_
  exact ps0
 ·rw [hok, if_pos rfl] at hC;rw [if_pos rfl];simp only [zK2, Gx.row, Ini.row, zIni] at hC ⊢;refine bdy Tryz.f29 ?_;intro F3 hF1 hF2;simp only [Tryz.f29, go_sem];repeat refine sd2 ?_
  refine CallVC.same (hC _ _ _) ?_;simp only [e0, go_sem];repeat refine sd2 ?_
  exact ps0
def zAe (second : Bool) (n : Nat) : Gx :=
 ⟨1, if second then 2 else 1, if second then 1 else 2, List.replicate 32 (if second then 98 else 97), ⟨if second then 70000 + (n : Int) else 1 + (n : Int), 1000 + (n : Int), 1 + ((n % 9 : Nat) : Int), 1 + ((n / 9 % 9 : Nat) : Int), 65536 * (n : Int), []⟩, zIni, [], 0, -1, 0⟩
def sdB (c : UInt8) (i : Nat) : List UInt8 := List.replicate i c ++ List.replicate (32 - i) 0
theorem zPX (c : UInt8) {i : Nat} (h : i ≤ 32) : (sdB c i).length = 32 := by simp [sdB]; omega
theorem zMk (c d : UInt8) {i : Nat} (h : i < 32) : ((sdB c i).set i d).set i c = sdB c (i + 1) := by
 rw [List.set_set];unfold sdB;rw [List.set_append_right _ _ (by simp), List.length_replicate, Nat.sub_self, show 32 - i = (32 - (i + 1)) + 1 by omega, List.replicate_succ, List.set_cons_zero, List.replicate_succ' (n := i), vQ];rfl
theorem zN4 (c : UInt8) {i : Nat} (h : i < 32) : (sdB c i).set i c = sdB c (i + 1) := by
 have := zMk c c h
 rwa [List.set_set] at this
theorem zGZ (l : List UInt8) (i : Nat) : List.drop 1 ((l.map zBW).getD i []) = [] := by
 rw [zG, zS];cases l[i]? <;> rfl
theorem zQg {n : Nat} (h : n < 2 ^ 62) : IntKind.i64.wrap (n : Int) = n := by simp [IntKind.wrap, IntKind.signed, IntKind.bits]; omega
theorem zKE {F : SF} {L nx : Nat} (second : Bool) (n : Nat) (hn : n < 65536) : Con Tryz.prog 40 [.bool second, .int .u16 n] F L nx nx (.agg (zAe second n).row) [] [] := by
 have wn := zQg (n := n) (by omega);have d9 : (n : Int).tmod 9 = ((n % 9 : Nat) : Int) := by rw [uR (by omega)]; rfl
 have q9 : (n : Int).tdiv 9 = ((n / 9 : Nat) : Int) := by rw [Int.tdiv_eq_ediv_of_nonneg (by omega)]; rfl
 have e9 : ((n / 9 : Nat) : Int).tmod 9 = ((n / 9 % 9 : Nat) : Int) := by rw [uR (by omega)]; rfl
 have u9 : IntKind.u16.wrap ((n / 9 : Nat) : Int) = ((n / 9 : Nat) : Int) := by simp [IntKind.wrap, IntKind.signed, IntKind.bits]; omega
 have v9 := zQg (n := n % 9) (by omega);have w9 := zQg (n := n / 9 % 9) (by omega);refine zS0 (zBP (L + 1)) rfl rfl (fn := Tryz.f40) (c := Tryz.f40.body.getD .skip) (by kernel_rfl) (by rfl) (by kernel_rfl) rfl (by simp) ?_;intro F3 hF1 hF2;refine vcu ⟨[some (.bool second), some (.int .u16 n), none, none, some (.ptr ⟨L + 1, 0⟩ 0 0)] ++ oz 48, [(⟨L + 1, 0⟩, .rows 28 20 true true [zGx.row])], 10000⟩ ?_ ?_
 ·simp only [Tryz.f40, go_sem];repeat refine sd2 ?_
  refine ⟨(), (so0 hF2 (h2 := by simp [zA0, Tx.look, zGx, Gx.row, zIni]))⟩
 refine vcu ⟨[some (.bool second), some (.int .u16 n), none, none, some (.ptr ⟨L + 1, 0⟩ 0 0), some (.sl ⟨L + 1, 10000⟩ 0 32)] ++ oz 47, [(⟨L + 1, 0⟩, .rows 28 20 true true [zGx.row]), (⟨L + 1, 10000⟩, .rows 5 1 true true ((sdB 0 0).map zBW))], 20000⟩ ?_ ?_
 ·simp only [Tryz.f40, go_sem];repeat refine sd2 ?_
  refine ⟨(), (so0 hF2 (h2 := by simp [zA0, Tx.look, sdB, List.replicate, zBW]))⟩
 obtain ⟨c, hc⟩ : ∃ c : UInt8, c = if second then 98 else 97 := ⟨_, rfl⟩
 have hz0 : sdB 0 0 = sdB c 0 := by simp [sdB]
 rw [hz0];refine vcu ⟨[some (.bool second), some (.int .u16 n), none, none, some (.ptr ⟨L + 1, 0⟩ 0 0), some (.sl ⟨L + 1, 10000⟩ 0 32)] ++ oz 47, [(⟨L + 1, 0⟩, .rows 28 20 true true [zGx.row]), (⟨L + 1, 10000⟩, .rows 5 1 true true ((sdB c 32).map zBW))], 10000000⟩ ?_ ?_
 ·simp only [Tryz.f40, go_sem];repeat refine sd2 ?_
  refine loopK.intro _ _ (I := fun i : Nat => ⟨[some (.bool second), some (.int .u16 n), none, none, some (.ptr ⟨L + 1, 0⟩ 0 0), some (.sl ⟨L + 1, 10000⟩ 0 32), some (.int .i64 i)] ++ oz 46, [(⟨L + 1, 0⟩, .rows 28 20 true true [zGx.row]), (⟨L + 1, 10000⟩, .rows 5 1 true true ((sdB c i).map zBW))], 10000 * (i + 3)⟩) (pre := fun i => i ≤ 32) (μ := fun i => 32 - i) 0 (by omega) ?_ ?_
  ·refine Sub.of (hfz hF2) (by simp only [go_sem, zBG, and_self, wT]; try trivial) ?_ (by simp [zBK, keys]) (by simp);simp [zA0, Tx.look]
  intro i hi;have hl := zPX c hi;have hml : ((sdB c i).map zBW).length = 32 := by rw [zL, hl]
  by_cases hlt : i < 32
  ·have g1 : decide ((i : Int) < 32) = true := dT (by omega);cases second with
   | false =>
    rw [if_neg (by simp)] at hc;have s1 := zEj (sdB c i) i c;rw [zN4 c hlt] at s1;have c97 : ((c.toNat : Nat) : Int) = 97 := by rw [hc]; rfl
    rw [c97] at s1;have gd := zGZ (sdB c i) i;simp only [g1, s1, gd, hml, zI, go_sem];repeat refine sd2 ?_
    refine ⟨i + 1, by omega, by omega, ?_⟩;refine Sub.of (hfz hF2) (by simp only [go_sem, zBG, and_self, wQ]; try trivial) ?_ (by simp [zBK, keys]) (by simp only []; omega);simp only [zA0, Tx.look, zKd, if_true, if_false, and_true, Nat.reduceEqDiff]
   | true =>
    rw [if_pos rfl] at hc;have s0 := zEj (sdB c i) i 97;have s1 := zEj ((sdB c i).set i 97) i c;rw [zMk c 97 hlt] at s1;have c98 : ((c.toNat : Nat) : Int) = 98 := by rw [hc]; rfl
    have c97 : (((97 : UInt8).toNat : Nat) : Int) = 97 := rfl;rw [c98] at s1;rw [c97] at s0;have hml2 : (((sdB c i).set i 97).map zBW).length = 32 := by rw [zL, uS, hl]
    have gd := zGZ (sdB c i) i;have gd2 := zGZ ((sdB c i).set i 97) i;simp only [g1, s0, s1, gd, gd2, hml, hml2, zI, go_sem];repeat refine sd2 ?_
    refine ⟨i + 1, by omega, by omega, ?_⟩;refine Sub.of (hfz hF2) (by simp only [go_sem, zBG, and_self, wQ]; try trivial) ?_ (by simp [zBK, keys]) (by simp only []; omega);simp only [zA0, Tx.look, zKd, if_true, if_false, and_true, Nat.reduceEqDiff]
  ·obtain rfl : i = 32 := by omega
   have g1 : decide (((32 : Nat) : Int) < 32) = false := dF (by omega);have g1' : decide ((32 : Int) < 32) = false := dF (by omega);simp only [g1, go_sem];repeat refine sd2 ?_
   refine ⟨(), (so0 hF2)⟩
 have hs32 : sdB c 32 = List.replicate 32 c := by simp [sdB]
 rw [hs32];obtain ⟨S, hS⟩ : ∃ S, S = List.replicate 32 c := ⟨_, rfl⟩;rw [← hS];have hSl : S.length = 32 := by rw [hS]; simp
 have hrb := zBL S;have htk : List.take 32 (S.map zBW) = S.map zBW := zU (by simp [hSl]);have hlm : (S.map zBW).length = 32 := by simp [hSl]
 have hib := zEh S;refine VT.of (zBP (L + 1)) ?_;cases second with
 | false =>
  have hgS : zAe false n = ⟨1, 1, 2, S, ⟨1 + (n : Int), 1000 + (n : Int), 1 + ((n % 9 : Nat) : Int), 1 + ((n / 9 % 9 : Nat) : Int), 65536 * (n : Int), []⟩, zIni, [], 0, -1, 0⟩ := by rw [hS, hc]; rfl
  rw [hgS];simp only [Tryz.f40, wn, d9, q9, e9, u9, v9, w9, hrb, htk, hlm, zGx, Gx.row, zIni, go_sem];repeat refine sd2 ?_
  exact ps0
 | true =>
  have hgS : zAe true n = ⟨1, 2, 1, S, ⟨70000 + (n : Int), 1000 + (n : Int), 1 + ((n % 9 : Nat) : Int), 1 + ((n / 9 % 9 : Nat) : Int), 65536 * (n : Int), []⟩, zIni, [], 0, -1, 0⟩ := by rw [hS, hc]; rfl
  rw [hgS];simp only [Tryz.f40, wn, d9, q9, e9, u9, v9, w9, hrb, htk, hlm, zGx, Gx.row, zIni, go_sem];repeat refine sd2 ?_
  exact ps0
theorem zKy {F : SF} {L nx : Nat} (n : Nat) (hn : n < 65536) : Con Tryz.prog 16 [.agg [.nilS, .nilS], .int .u16 n, .bool false, .nilS] F L nx nx (.agg ((Tk.mk (zAe false n) (zAe true (n / 2)) [] [] 0).row .nilS .nilS)) [] [] := by
 have s0 := fun F L nx => zKE (F := F) (L := L) (nx := nx) false n hn
 have s1 := fun F L nx => zKE (F := F) (L := L) (nx := nx) true (n / 2) (by omega)
 have q2 : (n : Int).tdiv 2 = ((n / 2 : Nat) : Int) := by rw [Int.tdiv_eq_ediv_of_nonneg (by omega)]; rfl
 have u2 : IntKind.u16.wrap ((n / 2 : Nat) : Int) = ((n / 2 : Nat) : Int) := by simp [IntKind.wrap, IntKind.signed, IntKind.bits]; omega
 obtain ⟨a, ha⟩ : ∃ a, a = zAe false n := ⟨_, rfl⟩;obtain ⟨b, hb⟩ : ∃ b, b = zAe true (n / 2) := ⟨_, rfl⟩;simp only [← ha, ← hb, Gx.row] at s0 s1;rw [← ha, ← hb];simp only [Tk.row];have g0 : decide ((0 : Int) < 0) = false := rfl;refine bdy Tryz.f16 ?_;intro F3 hF1 hF2;simp only [Tryz.f16, go_sem];repeat refine sd2 ?_
 refine CallVC.same (s0 _ _ _) ?_;simp only [q2, u2, go_sem];repeat refine sd2 ?_
 refine CallVC.same (s1 _ _ _) ?_;simp only [go_sem];repeat refine sd2 ?_
 refine zTD ?_;simp only [g0, go_sem];repeat refine sd2 ?_
 exact ps0
def zPY (n : Nat) : Tk := ⟨zAe false n, zAe true (n / 2), [], [], 0⟩
theorem zMl {F : SF} {L nx : Nat} (n : Nat) (hn : n < 65536) : Con Tryz.prog 11 [.int .u16 n] F L nx nx (.agg ((zPY n).row .nilS .nilS)) [] [] := by
 have s0 := fun F L nx => zKy (F := F) (L := L) (nx := nx) n hn
 unfold zPY;obtain ⟨a, ha⟩ : ∃ a, a = zAe false n := ⟨_, rfl⟩;obtain ⟨b, hb⟩ : ∃ b, b = zAe true (n / 2) := ⟨_, rfl⟩;rw [← ha, ← hb] at s0 ⊢;simp only [Tk.row] at s0 ⊢;refine bdy Tryz.f11 ?_;intro F3 hF1 hF2;simp only [Tryz.f11, go_sem];repeat refine sd2 ?_
 refine CallVC.same (s0 _ _ _) ?_;simp only [go_sem];repeat refine sd2 ?_
 exact ps0
end Go.Proofs.YtifhjhbfhdcahaaGreat
end
