/- Lemmas for the walk: GK127. -/
import Derived.Test.YtifhjhbfhdcahaaGreatP20
import Derived.Test.YtifhjhbfhdcahaaGreatP22
import Derived.Test.YtifhjhbfhdcahaaGreatP24
set_option linter.all false
section
namespace Go.Proofs.YtifhjhbfhdcahaaGreat
open Go.Tx
set_option maxRecDepth 100000
set_option maxHeartbeats 16000000
theorem zND {F : SF} {L nx : Nat} (n : Nat) (hn : n < 65536) (both : Bool) (ms : List Mv) (hms : (∀ m ∈ ms, m.Ok) ∧ ms.length ≤ maxLen) : Con Tryz.prog 3 [.int .u16 n, .bool both, .fs 3 (ms.map Mv.row)] F L nx nx (.bool true) [] [] := by
 have hW := fun F L nx => zLB (F := F) (L := L) (nx := nx)
 have hS := fun F L nx => zMy (F := F) (L := L) (nx := nx) n hn
 have st0 := zIp false hn;have st1 := zIp true (n := n / 2) (by omega);have hlt : (ms.take 12).length ≤ 12 := by simp; omega
 have hmt : ∀ m ∈ ms.take 12, m.later ≤ 255 := fun m hm => by have := (hms.1 m (List.mem_of_mem_take hm)).2.2; omega
 have nt : (!true) = false := rfl;have hR1 := zKV hn (.inl rfl) (ms.take 12) hlt hmt;have hR2 := zKV hn (.inr rfl) (ms.take 12) hlt hmt;unfold zMx at hS;obtain ⟨A, hA⟩ : ∃ A, A = zBc false n := ⟨_, rfl⟩;obtain ⟨B, hB⟩ : ∃ B, B = zBc true (n / 2) := ⟨_, rfl⟩;unfold tk1 at hR1;unfold tk2 at hR2;rw [← hA] at st0;rw [← hB] at st1;simp only [← hA, ← hB] at hS hR1 hR2;obtain ⟨A1, hA1⟩ : ∃ A1, A1 = zM0 A 0 0 0 := ⟨_, rfl⟩;obtain ⟨B1, hB1⟩ : ∃ B1, B1 = zM0 B 0 0 0 := ⟨_, rfl⟩;obtain ⟨x0, hx0⟩ : ∃ x, x = zLF A := ⟨_, rfl⟩;obtain ⟨x1, hx1⟩ : ∃ x, x = zLF B := ⟨_, rfl⟩;rw [← hA1, ← hx0] at st0;rw [← hB1, ← hx1] at st1;rw [← hA1, ← hx0] at hR1;rw [← hA1, ← hx0, ← hB1, ← hx1] at hR2;simp only [Tk.row] at hS;refine zTT (zBp (L + 1)) rfl rfl (fn := Tryz.f3) (c := Tryz.f3.body.getD .skip) (by kernel_rfl) (by rfl) (by kernel_rfl) rfl (by simp) ?_;intro F3 hF1 hF2;refine vcu ⟨[some (.int .u16 n), some (.bool both), some (.fs 3 (ms.map Mv.row))] ++ oz 63, [], 10000⟩ ?_ ?_
 ·simp only [Tryz.f3, go_sem];repeat refine sd2 ?_
  refine ⟨(), (so0 hF2)⟩
 refine vcu ⟨[some (.int .u16 n), some (.bool both), some (.fs 3 (ms.map Mv.row))] ++ oz 63, [], 20000⟩ ?_ ?_
 ·simp only [Tryz.f3, go_sem];repeat refine sd2 ?_
  refine CallVC.same (hW _ _ _) ?_;simp only [nt, go_sem];repeat refine sd2 ?_
  refine ⟨(), (so0 hF2)⟩
 refine vcu ⟨[some (.int .u16 n), some (.bool both), some (.fs 3 (ms.map Mv.row)), none, none, none, none, some (.ptr ⟨L + 1, 20032⟩ 0 0)] ++ oz 58, [(⟨L + 1, 20032⟩, .rows 33 43 true true [(gR A (gR B [.nilS, .nilS, .int .i64 0]))])], 30000⟩ ?_ ?_
 ·simp only [Tryz.f3, go_sem];repeat refine sd2 ?_
  refine CallVC.same (hS _ _ _) ?_;simp only [go_sem];repeat refine sd2 ?_
  refine ⟨(), (so0 hF2)⟩
 refine VT.cut (zBp (L + 1)) (by kernel_rfl) (fun x : TlI => ⟨[some (.int .u16 n), some (.bool both), some (.fs 3 (ms.map Mv.row)), none, none, none, none, some (.ptr ⟨L + 1, 20032⟩ 0 0)] ++ oz 58, [(⟨L + 1, 20032⟩, .rows 33 43 true false [(gR x.k.g0 (gR x.k.g1 [.sl ⟨L + 1, x.q0⟩ 0 x.k.w0.length, .sl ⟨L + 1, x.q1⟩ 0 x.k.w1.length, .int .i64 x.k.now]))])], 100000⟩) (fun x => Know (CC n) x.k) ?_ ?_
 ·cases both with
  | false =>
   obtain ⟨k3, w, k4, r1, r2, r3, r4, r5⟩ := hR1;simp only [Tryz.f3, go_sem];repeat refine sd2 ?_
   refine zTH (args2 := [.ptr ⟨L + 1, 20032⟩ 0 0, .int .i64 0, .agg (.int .i64 1 :: pk0.row)]) (by simp [pk0, Pkx.row, WkL, Wk]) (by simp [zAt, wkN, pk0, Pkx.row]) (zFt (pu := true) (L := L + 1) ⟨L + 1, 20032⟩ (.inr ⟨rfl, by simp⟩) false ⟨A, B, [], [], 0⟩ 1 pk0 (by simp [pk0]) (by simp [pk0]) .nilS zBV A1 [x0] st0 rfl (by simp [Tk.rw, Tk.row])) ?_;simp only [Tk.ev, Tk.rw, Tk.w, Bool.not_false, List.length_nil, Nat.zero_add, List.map_cons, Tk.row, List.cons_append, List.nil_append, nt, go_sem];repeat refine sd2 ?_
   refine CallVC.same (zNA (L := L + 1) ⟨L + 1, 20032⟩ (.inr ⟨rfl, by simp⟩) ⟨A1, B, [], [x0], 0⟩ k3 ms hms ⟨w, r1⟩ ⟨by simp, by simp⟩ (r4.le (by omega)) ⟨L + 1, 30033⟩ (Nat.le_refl _) (by simp) (by simp) (by simp [Tx.look]) rfl (by simp [Tk.row])) ?_;simp only [Tk.rw, Nat.zero_add, Tk.row, List.cons_append, List.nil_append, nt, go_sem];repeat refine sd2 ?_
   refine CallVC.same (zIq (L := L + 1) ⟨L + 1, 20032⟩ (.inr ⟨rfl, by simp⟩) k3 k4 r2 (r5.le (by omega)) ⟨L + 1, 30292⟩ (Nat.le_refl _) (by simp) (by simp [Tx.look]) ⟨L + 1, 30291⟩ (Nat.le_refl _) (by simp) (by simp) (by simp [Tx.look]) (by simp [Tk.row])) ?_;simp only [Tk.row, List.nil_append, nt, go_sem];repeat refine sd2 ?_
   refine ⟨⟨0, 30389, 30390, k4, 0⟩, r3, (so0 hF2)⟩
  | true =>
   obtain ⟨k3, w, k4, r1, r2, r3, r4, r5⟩ := hR2;simp only [Tryz.f3, go_sem];repeat refine sd2 ?_
   refine zTH (args2 := [.ptr ⟨L + 1, 20032⟩ 0 0, .int .i64 0, .agg (.int .i64 1 :: pk0.row)]) (by simp [pk0, Pkx.row, WkL, Wk]) (by simp [zAt, wkN, pk0, Pkx.row]) (zFt (pu := true) (L := L + 1) ⟨L + 1, 20032⟩ (.inr ⟨rfl, by simp⟩) false ⟨A, B, [], [], 0⟩ 1 pk0 (by simp [pk0]) (by simp [pk0]) .nilS zBV A1 [x0] st0 rfl (by simp [Tk.rw, Tk.row])) ?_;simp only [Tk.ev, Tk.rw, Tk.w, Bool.not_false, List.length_nil, Nat.zero_add, List.map_cons, Tk.row, List.cons_append, List.nil_append, nt, go_sem];repeat refine sd2 ?_
   refine zTH (args2 := [.ptr ⟨L + 1, 20032⟩ 0 0, .int .i64 1, .agg (.int .i64 1 :: pk0.row)]) (by simp [pk0, Pkx.row, WkL, Wk]) (by simp [zAt, wkN, pk0, Pkx.row]) (zFt (pu := false) (L := L + 1) ⟨L + 1, 20032⟩ (.inr ⟨rfl, by simp⟩) true ⟨A1, B, [], [x0], 0⟩ 1 pk0 (by simp [pk0]) (by simp [pk0]) (.sl ⟨L + 1, 30033⟩ 0 1) (zER (Nat.le_refl _)) B1 [x1] st1 rfl (by simp [Tk.rw, Tk.row])) ?_;simp only [Tk.ev, Tk.rw, Tk.w, List.length_nil, Nat.zero_add, List.map_cons, Tk.row, List.cons_append, List.nil_append, nt, go_sem];repeat refine sd2 ?_
   refine CallVC.same (zIr (L := L + 1) ⟨L + 1, 20032⟩ (.inr ⟨rfl, by simp⟩) ⟨A1, B1, [x1], [x0], 0⟩ k3 ms hms ⟨w, r1⟩ ⟨by simp, by simp⟩ (r4.le (by omega)) ⟨L + 1, 30033⟩ (Nat.le_refl _) (by simp) (by simp [Tx.look]) ⟨L + 1, 30195⟩ (Nat.le_refl _) (by simp) (by simp) (by simp [Tx.look]) (by simp [Tk.row])) ?_;simp only [Tk.row, List.cons_append, List.nil_append, nt, go_sem];repeat refine sd2 ?_
   refine CallVC.same (zIq (L := L + 1) ⟨L + 1, 20032⟩ (.inr ⟨rfl, by simp⟩) k3 k4 r2 (r5.le (by omega)) ⟨L + 1, 30357⟩ (Nat.le_refl _) (by simp) (by simp [Tx.look]) ⟨L + 1, 30356⟩ (Nat.le_refl _) (by simp) (by simp) (by simp [Tx.look]) (by simp [Tk.row])) ?_;simp only [Tk.row, List.nil_append, nt, go_sem];repeat refine sd2 ?_
   refine ⟨⟨0, 30454, 30455, k4, 0⟩, r3, (so0 hF2)⟩
 rintro ⟨i, q0, q1, k4, w⟩ hk
 simp only at hk ⊢;have c0 : (k4.g0.st == 4) = true := by have := (hk false).1; rw [show k4.g0.st = 4 from this]; rfl
 have c1 : (k4.g1.st == 4) = true := by have := (hk true).1; rw [show k4.g1.st = 4 from this]; rfl
 have i0 : k4.g0.peer = k4.g1.own := by have h1 := (hk false).2.1; have h2 := (hk true).2.2; exact (show k4.g0.peer = _ from h1).trans (show k4.g1.own = _ from h2).symm
 have i1 : k4.g1.peer = k4.g0.own := by have h1 := (hk true).2.1; have h2 := (hk false).2.2; exact (show k4.g1.peer = _ from h1).trans (show k4.g0.own = _ from h2).symm
 refine VT.of (zBp (L + 1)) ?_;simp only [Tryz.f3, c0, c1, i0, i1, go_sem];repeat refine sd2 ?_
 exact .bool (.inr rfl) rfl rfl (by simp [UpdAll])
end Go.Proofs.YtifhjhbfhdcahaaGreat
end
