/- Lemmas for the walk: GK128. -/
import Derived.Test.YtifhjhbfhdcahaaGreatP20
import Derived.Test.YtifhjhbfhdcahaaGreatP21
import Derived.Test.YtifhjhbfhdcahaaGreatP23
import Derived.Test.YtifhjhbfhdcahaaGreatP25
set_option linter.all false
section
namespace Go.Proofs.YtifhjhbfhdcahaaGreat
open Go.Tx
set_option maxRecDepth 100000
set_option maxHeartbeats 16000000
theorem zNK {F : SF} {L nx : Nat} (n : Nat) (hn : n < 65536) (both : Bool) (ms : List Mv) (hms : (∀ m ∈ ms, m.Ok) ∧ ms.length ≤ maxLen) : Con Tryz.prog 4 [.int .u16 n, .bool both, .fs 3 (ms.map Mv.row)] F L nx nx (.bool true) [] [] := by
 have hW := fun F L nx => zLG (F := F) (L := L) (nx := nx)
 have hS := fun F L nx => zM1 (F := F) (L := L) (nx := nx) n hn
 have st0 := zIu false hn;have st1 := zIu true (n := n / 2) (by omega);have hlt : (ms.take 12).length ≤ 12 := by simp; omega
 have hmt : ∀ m ∈ ms.take 12, m.later ≤ 255 := fun m hm => by have := (hms.1 m (vD hm)).2.2; omega
 have nt : (!true) = false := rfl;obtain ⟨ka, h1, p1, h0, p0, qa, sa, za0, za1, na, wya, l1, l0, hR⟩ := zOf hn;have hR1 := hR _ (.inl rfl);have hR2 := hR _ (.inr rfl);unfold zM0 at hS;obtain ⟨A, hA⟩ : ∃ A, A = zB0 false n := ⟨_, rfl⟩;obtain ⟨B, hB⟩ : ∃ B, B = zB0 true (n / 2) := ⟨_, rfl⟩;unfold tk1 at qa wya;rw [← hA] at st0;rw [← hB] at st1;simp only [← hA, ← hB] at hS qa wya;obtain ⟨A1, hA1⟩ : ∃ A1, A1 = zOV A 0 0 0 := ⟨_, rfl⟩;obtain ⟨B1, hB1⟩ : ∃ B1, B1 = zOV B 0 0 0 := ⟨_, rfl⟩;obtain ⟨x0, hx0⟩ : ∃ x, x = zM3 A := ⟨_, rfl⟩;obtain ⟨x1, hx1⟩ : ∃ x, x = zM3 B := ⟨_, rfl⟩;rw [← hA1, ← hx0] at st0;rw [← hB1, ← hx1] at st1;rw [← hA1, ← hx0] at qa wya;simp only [Tk.row] at hS;refine zTk (zBp (L + 1)) rfl rfl (fn := Tryz.f4) (c := Tryz.f4.body.getD .skip) (by kernel_rfl) (by rfl) (by kernel_rfl) rfl (by simp) ?_;intro F3 hF1 hF2;refine vcu ⟨[some (.int .u16 n), some (.bool both), some (.fs 3 (ms.map Mv.row))] ++ oz 84, [], 10000⟩ ?_ ?_
 ·simp only [Tryz.f4, go_sem];repeat refine sd2 ?_
  refine ⟨(), (so0 hF2)⟩
 refine vcu ⟨[some (.int .u16 n), some (.bool both), some (.fs 3 (ms.map Mv.row))] ++ oz 84, [], 20000⟩ ?_ ?_
 ·simp only [Tryz.f4, go_sem];repeat refine sd2 ?_
  refine CallVC.same (hW _ _ _) ?_;simp only [nt, go_sem];repeat refine sd2 ?_
  refine ⟨(), (so0 hF2)⟩
 refine vcu ⟨[some (.int .u16 n), some (.bool both), some (.fs 3 (ms.map Mv.row)), none, none, none, none, some (.ptr ⟨L + 1, 20032⟩ 0 0)] ++ oz 79, [(⟨L + 1, 20032⟩, .rows 33 43 true true [(gR A (gR B [.nilS, .nilS, .int .i64 0]))])], 30000⟩ ?_ ?_
 ·simp only [Tryz.f4, go_sem];repeat refine sd2 ?_
  refine CallVC.same (hS _ _ _) ?_;simp only [go_sem];repeat refine sd2 ?_
  refine ⟨(), (so0 hF2)⟩
 obtain ⟨G0, G1, w0', w1', nw⟩ := ka;simp only at za0 za1 na;subst za0 za1 na;have n0 : (G0.st != 4) = false := by have := sa false; rw [show G0.st = 4 from this]; rfl
 have n1 : (G1.st != 4) = false := by have := sa true; rw [show G1.st = 4 from this]; rfl
 simp only at l1 l0 hR1 hR2;refine vcu ⟨[some (.int .u16 n), some (.bool both), some (.fs 3 (ms.map Mv.row)), none, none, none, none, some (.ptr ⟨L + 1, 20032⟩ 0 0)] ++ oz 79, [(⟨L + 1, 20032⟩, .rows 33 43 true false [(gR G0 (gR G1 [.sl ⟨L + 1, 30099⟩ 0 0, .sl ⟨L + 1, 30100⟩ 0 0, .int .i64 0]))]), (⟨L + 1, 30099⟩, .rows 38 4 true true []), (⟨L + 1, 30100⟩, .rows 38 4 true true [])], 40000⟩ ?_ ?_
 ·simp only [Tryz.f4, go_sem];repeat refine sd2 ?_
  refine zTV (args2 := [.ptr ⟨L + 1, 20032⟩ 0 0, .int .i64 0, .agg (.int .i64 1 :: pk0.row)]) (by simp [pk0, Pkx.row, WkL, Wk]) (by simp [zAu, wkN, pk0, Pkx.row]) (zKY (pu := true) (L := L + 1) ⟨L + 1, 20032⟩ (.inr ⟨rfl, by simp⟩) false ⟨A, B, [], [], 0⟩ 1 pk0 (by simp [pk0]) (by simp [pk0]) .nilS zBo A1 [x0] st0 rfl (by simp [Tk.rw, Tk.row])) ?_;simp only [Tk.ev, Tk.rw, Tk.w, wB, wE, zM, zJ, Tk.row, zI, zC, nt, go_sem];repeat refine sd2 ?_
  refine CallVC.same (zNH (L := L + 1) ⟨L + 1, 20032⟩ (.inr ⟨rfl, by simp⟩) ⟨A1, B, [], [x0], 0⟩ ⟨G0, G1, [], [], 0⟩ qa (wya.le (by omega)) ⟨L + 1, 30033⟩ (zA _) (by simp) (by simp) (by simp [Tx.look]) rfl (by simp [Tk.row])) ?_;simp only [Tk.rw, wB, zM, Tk.row, zC, nt, n0, n1, go_sem];repeat refine sd2 ?_
  refine ⟨(), (so0 hF2)⟩
 refine VT.cut (zBp (L + 1)) (by kernel_rfl) (fun x : TlI => ⟨[some (.int .u16 n), some (.bool both), some (.fs 3 (ms.map Mv.row)), none, none, none, none, some (.ptr ⟨L + 1, 20032⟩ 0 0)] ++ oz 79, [(⟨L + 1, 20032⟩, .rows 33 43 true false [(gR x.k.g0 (gR x.k.g1 [.sl ⟨L + 1, x.q0⟩ 0 x.k.w0.length, .sl ⟨L + 1, x.q1⟩ 0 x.k.w1.length, .int .i64 x.k.now]))])], 100000⟩) (fun x => Gone (CC n) x.k) ?_ ?_
 ·cases both with
  | false =>
   obtain ⟨hy, hR3⟩ := hR1;obtain ⟨k3, w, k4, r1, r2, r3, r5⟩ := hR3 (ms.take 12) hlt hmt;simp only [Tryz.f4, go_sem];repeat refine sd2 ?_
   refine zTV (args2 := [.ptr ⟨L + 1, 20032⟩ 0 0, .int .i64 1, .agg (.int .i64 2 :: pk0.row)]) (by simp [pk0, Pkx.row, WkL, Wk]) (by simp [zAu, wkN, pk0, Pkx.row]) (zCC (L := L + 1) ⟨L + 1, 20032⟩ (.inr ⟨rfl, by simp⟩) true ⟨G0, G1, [], [], 0⟩ 2 pk0 (by simp [pk0]) (by simp [pk0]) (.sl ⟨L + 1, 30100⟩ 0 0) (zDN (zA _)) ⟨L + 1, 30099⟩ (zA _) h1 [p1] l1 (by simp) (by simp [Tk.w]) (by simp [Tk.w]) (by simp [Tk.rw, Tk.w, Tk.row])) ?_;simp only [Tk.ev, Tk.rw, Tk.w, wE, zM, zJ, Tk.row, zI, zC, nt, wE, zM, zC, zJ, go_sem];repeat refine sd2 ?_
   refine CallVC.same (zIv (L := L + 1) ⟨L + 1, 20032⟩ (.inr ⟨rfl, by simp⟩) ⟨G0, h1, [p1], [], 0⟩ k3 ms hms ⟨w, r1⟩ ⟨by simp, by simp⟩ (hy.le (by omega)) ⟨L + 1, 30100⟩ (zA _) (by simp) (by simp [Tx.look]) ⟨L + 1, 40032⟩ (zA _) (by simp) (by simp) (by simp [Pkx.row]) (by simp [Tk.row])) ?_;simp only [Tk.row, zI, zC, nt, go_sem];repeat refine sd2 ?_
   refine CallVC.same (zGq (L := L + 1) ⟨L + 1, 20032⟩ (.inr ⟨rfl, by simp⟩) k3 k4 r2 (r5.le (by omega)) ⟨L + 1, 40290⟩ (zA _) (by simp) (by simp [Tx.look]) ⟨L + 1, 40289⟩ (zA _) (by simp) (by simp) (by simp [Tx.look]) (by simp [Tk.row])) ?_;simp only [Tk.row, zC, nt, go_sem];repeat refine sd2 ?_
   refine ⟨⟨0, 40387, 40388, k4, 0⟩, r3, (so0 hF2)⟩
  | true =>
   obtain ⟨hy, hR3⟩ := hR2;obtain ⟨k3, w, k4, r1, r2, r3, r5⟩ := hR3 (ms.take 12) hlt hmt;simp only [Tryz.f4, go_sem];repeat refine sd2 ?_
   refine zTV (args2 := [.ptr ⟨L + 1, 20032⟩ 0 0, .int .i64 1, .agg (.int .i64 2 :: pk0.row)]) (by simp [pk0, Pkx.row, WkL, Wk]) (by simp [zAu, wkN, pk0, Pkx.row]) (zCC (L := L + 1) ⟨L + 1, 20032⟩ (.inr ⟨rfl, by simp⟩) true ⟨G0, G1, [], [], 0⟩ 2 pk0 (by simp [pk0]) (by simp [pk0]) (.sl ⟨L + 1, 30100⟩ 0 0) (zDN (zA _)) ⟨L + 1, 30099⟩ (zA _) h1 [p1] l1 (by simp) (by simp [Tk.w]) (by simp [Tk.w]) (by simp [Tk.rw, Tk.w, Tk.row])) ?_;simp only [Tk.ev, Tk.rw, Tk.w, wE, zM, zJ, Tk.row, zI, zC, nt, wE, zM, zC, zJ, go_sem];repeat refine sd2 ?_
   refine zTV (args2 := [.ptr ⟨L + 1, 20032⟩ 0 0, .int .i64 0, .agg (.int .i64 2 :: pk0.row)]) (by simp [pk0, Pkx.row, WkL, Wk]) (by simp [zAu, wkN, pk0, Pkx.row]) (zCC (L := L + 1) ⟨L + 1, 20032⟩ (.inr ⟨rfl, by simp⟩) false ⟨G0, h1, [p1], [], 0⟩ 2 pk0 (by simp [pk0]) (by simp [pk0]) (.sl ⟨L + 1, 40032⟩ 0 1) (zDN (zA _)) ⟨L + 1, 30100⟩ (zA _) h0 [p0] l0 (by simp) (by simp [Tk.w]) (by simp [Tk.w]) (by simp [Tk.rw, Tk.w, Tk.row])) ?_;simp only [Tk.ev, Tk.rw, Tk.w, wB, wE, zM, zJ, Tk.row, zI, zC, nt, wE, zM, zC, zJ, go_sem];repeat refine sd2 ?_
   refine CallVC.same (zIv (L := L + 1) ⟨L + 1, 20032⟩ (.inr ⟨rfl, by simp⟩) ⟨h0, h1, [p1], [p0], 0⟩ k3 ms hms ⟨w, r1⟩ ⟨by simp, by simp⟩ (hy.le (by omega)) ⟨L + 1, 40193⟩ (zA _) (by simp) (by simp [Pkx.row]) ⟨L + 1, 40032⟩ (zA _) (by simp) (by simp) (by simp [Pkx.row]) (by simp [Tk.row])) ?_;simp only [Tk.row, zI, zC, nt, go_sem];repeat refine sd2 ?_
   refine CallVC.same (zGq (L := L + 1) ⟨L + 1, 20032⟩ (.inr ⟨rfl, by simp⟩) k3 k4 r2 (r5.le (by omega)) ⟨L + 1, 40355⟩ (zA _) (by simp) (by simp [Tx.look]) ⟨L + 1, 40354⟩ (zA _) (by simp) (by simp) (by simp [Tx.look]) (by simp [Tk.row])) ?_;simp only [Tk.row, zC, nt, go_sem];repeat refine sd2 ?_
   refine ⟨⟨0, 40452, 40453, k4, 0⟩, r3, (so0 hF2)⟩
 rintro ⟨i, q0, q1, k4, w⟩ hk
 simp only at hk ⊢;have c0 : (k4.g0.st == 7) = true := by have := (hk false).1; rw [show k4.g0.st = 7 from this]; rfl
 have c1 : (k4.g1.st == 7) = true := by have := (hk true).1; rw [show k4.g1.st = 7 from this]; rfl
 have i0 : k4.g0.peer = k4.g1.own := by have h1 := (hk false).2.1; have h2 := (hk true).2.2; exact (show k4.g0.peer = _ from h1).trans (show k4.g1.own = _ from h2).symm
 have i1 : k4.g1.peer = k4.g0.own := by have h1 := (hk true).2.1; have h2 := (hk false).2.2; exact (show k4.g1.peer = _ from h1).trans (show k4.g0.own = _ from h2).symm
 refine VT.of (zBp (L + 1)) ?_;simp only [Tryz.f4, c0, c1, i0, i1, go_sem];repeat refine sd2 ?_
 exact .bool (.inr rfl) rfl rfl (by simp [UpdAll])
end Go.Proofs.YtifhjhbfhdcahaaGreat
end
