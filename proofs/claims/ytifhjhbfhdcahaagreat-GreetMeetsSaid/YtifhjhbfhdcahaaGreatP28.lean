/- Lemmas for the walk: GK116, GK112. -/
import Derived.Test.YtifhjhbfhdcahaaGreatP26
import Derived.Test.YtifhjhbfhdcahaaGreatP27
import Derived.Test.YtifhjhbfhdcahaaGreatP22
import Derived.Test.YtifhjhbfhdcahaaGreatP25
import Derived.Test.YtifhjhbfhdcahaaGreatP24
set_option linter.all false
section
namespace Go.Proofs.YtifhjhbfhdcahaaGreat
open Go.Tx
set_option maxRecDepth 100000
set_option maxHeartbeats 16000000
theorem Con.rds {P : Program} {f : FuncId} {args : List PV} {F : SF} {L nx top : Nat} {v : PV} {upd : List (Nm × SBlk)} {rd rd2 : List Nm} (h : Con P f args F L nx top v upd rd) (hs : ∀ n ∈ rd, n ∈ rd2) : Con P f args F L nx top v upd rd2 :=
 ⟨h.1, fun F2 hF => h.2 F2 (fun n hn => hF n (hs n hn))⟩
theorem tkNil {F : SF} {L nx top : Nat} {f : FuncId} {args : List PV} {v : PV} {upd : List (Nm × SBlk)} (m : Nm) (hm0 : m.l < L ∨ (m.l = L ∧ m.i < nx)) (k : Tk) (b : Nm) (hF : F m = some (.rows 33 43 true false [k.row .nilS (.sl b 0 k.w1.length)]))
  (h : Con Tryz.prog f args ((F.set ⟨L, nx⟩ (.rows 38 4 true true (([] : List Pkx).map Pkx.row))).set m (.rows 33 43 true false [k.row (.sl ⟨L, nx⟩ 0 0) (.sl b 0 k.w1.length)])) L (nx + 1) top v upd [m, b, ⟨L, nx⟩]) :
  Con Tryz.prog f args F L nx top v ((⟨L, nx⟩, .rows 38 4 true true (([] : List Pkx).map Pkx.row)) :: (m, .rows 33 43 true false [k.row (.sl ⟨L, nx⟩ 0 0) (.sl b 0 k.w1.length)]) :: upd) [m, b] := by
 refine Con.nilCell (by omega) hF (by simp) (by intro h; rw [h] at hm0; simp at hm0) rfl ?_ (Con.rds h (fun n hn => by simp at hn ⊢; rcases hn with h | h | h <;> simp [h]))
 intro c
 simp only [Tk.row]
 by_cases hc : c = 40
 ·subst hc; exact .inr ⟨rfl, rfl⟩
 ·refine .inl ?_
  rcases Nat.lt_or_ge c 40 with h | h
  ·rw [show ((gR k.g0 (gR k.g1 [.sl ⟨L, nx⟩ 0 0, .sl b 0 k.w1.length, .int .i64 k.now])) : List PV) = (gR k.g0 (gR k.g1 [])) ++ [.sl ⟨L, nx⟩ 0 0, .sl b 0 k.w1.length, .int .i64 k.now] from rfl, List.getElem?_append_left (by simpa using h), show ((gR k.g0 (gR k.g1 [.nilS, .sl b 0 k.w1.length, .int .i64 k.now])) : List PV) = (gR k.g0 (gR k.g1 [])) ++ [.nilS, .sl b 0 k.w1.length, .int .i64 k.now] from rfl, List.getElem?_append_left (by simpa using h)]
  ·rw [show ((gR k.g0 (gR k.g1 [.sl ⟨L, nx⟩ 0 0, .sl b 0 k.w1.length, .int .i64 k.now])) : List PV) = (gR k.g0 (gR k.g1 [.sl ⟨L, nx⟩ 0 0])) ++ [.sl b 0 k.w1.length, .int .i64 k.now] from rfl, List.getElem?_append_right (by simp; omega), show ((gR k.g0 (gR k.g1 [.nilS, .sl b 0 k.w1.length, .int .i64 k.now])) : List PV) = (gR k.g0 (gR k.g1 [.nilS])) ++ [.sl b 0 k.w1.length, .int .i64 k.now] from rfl, List.getElem?_append_right (by simp; omega)]
   rfl
theorem movesN_ok {F : SF} {L nx : Nat} (m : Nm) (hm0 : m.l < L ∨ (m.l = L ∧ m.i < nx)) (k k' : Tk) (ms : List Mv) (hms : (∀ m ∈ ms, m.Ok) ∧ ms.length ≤ maxLen) (hrun : ∃ w, mvR (ms.take 12) (k, 0) = some (k', w)) (hnow : 0 ≤ k.now ∧ k.now ≤ 1099511627776 + 255 * (0 : Nat)) (hwy : Wy k 500) (b : Nm) (hbL : b.l ≤ L) (hbm : b ≠ m) (hbx : b ≠ ⟨L, nx⟩) (hFb : F b = some (.rows 38 4 true true (k.w1.map Pkx.row))) (hnil : k.w0 = []) (hF : F m = some (.rows 33 43 true false [k.row .nilS (.sl b 0 k.w1.length)])) :
  Con Tryz.prog 13 [.ptr m 0 0, .fs 3 (ms.map Mv.row)] F L nx (nx + 1 + 2) (.bool true) ((⟨L, nx⟩, .rows 38 4 true true (([] : List Pkx).map Pkx.row)) :: (m, .rows 33 43 true false [k.row (.sl ⟨L, nx⟩ 0 0) (.sl b 0 k.w1.length)]) :: [(m, .rows 33 43 true false [k'.row (.sl ⟨L, nx + 1⟩ 0 k'.w0.length) (.sl ⟨L, nx + 1 + 1⟩ 0 k'.w1.length)]), (⟨L, nx⟩, .dead), (b, .dead), (⟨L, nx + 1⟩, .rows 38 4 true true (k'.w0.map Pkx.row)), (⟨L, nx + 1 + 1⟩, .rows 38 4 true true (k'.w1.map Pkx.row))]) [m, b] := by
 have hmx : m ≠ ⟨L, nx⟩ := by intro h; rw [h] at hm0; simp at hm0
 have hmx' : (⟨L, nx⟩ : Nm) ≠ m := Ne.symm hmx
 have hbx' : (⟨L, nx⟩ : Nm) ≠ b := Ne.symm hbx
 have hwl : k.w0.length = 0 := by rw [hnil]; rfl
 refine tkNil m hm0 k b hF (movesS_ok (nx := nx + 1) m (by omega) k k' ms hms hrun hnow hwy b hbL hbm (by simp only [SF.set, if_neg hbm, if_neg hbx]; exact hFb) ⟨L, nx⟩ (Nat.le_refl _) hmx' hbx' (by simp only [SF.set, if_neg hmx', if_true, hnil]) (by simp only [SF.set, if_true, hwl]))
theorem lMeets_ok {F : SF} {L nx : Nat} (n : Nat) (hn : n < 65536) (both : Bool) (ms : List Mv) (hms : (∀ m ∈ ms, m.Ok) ∧ ms.length ≤ maxLen) : Con Tryz.prog 3 [.int .u16 n, .bool both, .fs 3 (ms.map Mv.row)] F L nx nx (.bool true) [] [] := by
 have hW := fun F L nx => works33_ok (F := F) (L := L) (nx := nx)
 have hS := fun F L nx => lSides_ok (F := F) (L := L) (nx := nx) n hn
 have st0 := sideG_try false hn
 have st1 := sideG_try true (n := n / 2) (by omega)
 have hlt : (ms.take 12).length ≤ 12 := by simp; omega
 have hmt : ∀ m ∈ ms.take 12, m.later ≤ 255 := fun m hm => by have := (hms.1 m (List.mem_of_mem_take hm)).2.2; omega
 have nt : (!true) = false := rfl
 have hR1 := meet_run hn (.inl rfl) (ms.take 12) hlt hmt
 have hR2 := meet_run hn (.inr rfl) (ms.take 12) hlt hmt
 unfold side0 at hS
 obtain ⟨A, hA⟩ : ∃ A, A = sideG false n := ⟨_, rfl⟩
 obtain ⟨B, hB⟩ : ∃ B, B = sideG true (n / 2) := ⟨_, rfl⟩
 unfold tk1 at hR1
 unfold tk2 at hR2
 rw [← hA] at st0
 rw [← hB] at st1
 simp only [← hA, ← hB] at hS hR1 hR2
 obtain ⟨A1, hA1⟩ : ∃ A1, A1 = tryG A 0 0 0 := ⟨_, rfl⟩
 obtain ⟨B1, hB1⟩ : ∃ B1, B1 = tryG B 0 0 0 := ⟨_, rfl⟩
 obtain ⟨x0, hx0⟩ : ∃ x, x = tryP A := ⟨_, rfl⟩
 obtain ⟨x1, hx1⟩ : ∃ x, x = tryP B := ⟨_, rfl⟩
 rw [← hA1, ← hx0] at st0
 rw [← hB1, ← hx1] at st1
 rw [← hA1, ← hx0] at hR1
 rw [← hA1, ← hx0, ← hB1, ← hx1] at hR2
 simp only [Tk.row] at hS
 refine Con.bodyT (cxOk (L + 1)) rfl rfl (fn := Tryz.f3) (c := Tryz.f3.body.getD .skip) (by kernel_rfl) (by rfl) (by kernel_rfl) rfl (by simp) ?_
 intro F3 hF1 hF2
 refine vcu ⟨[some (.int .u16 n), some (.bool both), some (.fs 3 (ms.map Mv.row))] ++ oz 63, [], 10000⟩ ?_ ?_
 ·simp only [Tryz.f3, hdC, Option.getD_some, cx, go_sem, meths]
  repeat refine sd2 ?_
  refine ⟨(), (so0 hF2)⟩
 refine vcu ⟨[some (.int .u16 n), some (.bool both), some (.fs 3 (ms.map Mv.row))] ++ oz 63, [], 20000⟩ ?_ ?_
 ·simp only [Tryz.f3, hdC, tlC, Option.getD_some, cx, go_sem, meths]
  repeat refine sd2 ?_
  refine CallVC.same (hW _ _ _) ?_
  simp only [nt, go_sem]
  repeat refine sd2 ?_
  refine ⟨(), (so0 hF2)⟩
 refine vcu ⟨[some (.int .u16 n), some (.bool both), some (.fs 3 (ms.map Mv.row)), none, none, none, none, some (.ptr ⟨L + 1, 20032⟩ 0 0)] ++ oz 58, [(⟨L + 1, 20032⟩, .rows 33 43 true true [(gR A (gR B [.nilS, .nilS, .int .i64 0]))])], 30000⟩ ?_ ?_
 ·simp only [Tryz.f3, hdC, tlC, Option.getD_some, cx, go_sem, meths]
  repeat refine sd2 ?_
  refine CallVC.same (hS _ _ _) ?_
  simp only [go_sem]
  repeat refine sd2 ?_
  refine ⟨(), (so0 hF2)⟩
 refine VT.cut (cxOk (L + 1)) (by kernel_rfl) (fun x : TlI => ⟨[some (.int .u16 n), some (.bool both), some (.fs 3 (ms.map Mv.row)), none, none, none, none, some (.ptr ⟨L + 1, 20032⟩ 0 0)] ++ oz 58, [(⟨L + 1, 20032⟩, .rows 33 43 true false [(gR x.k.g0 (gR x.k.g1 [.sl ⟨L + 1, x.q0⟩ 0 x.k.w0.length, .sl ⟨L + 1, x.q1⟩ 0 x.k.w1.length, .int .i64 x.k.now]))])], 100000⟩) (fun x => Know (CC n) x.k) ?_ ?_
 ·cases both with
  | false =>
   obtain ⟨k3, w, k4, r1, r2, r3, r4, r5⟩ := hR1
   simp only [Tryz.f3, hdC, tlC, Option.getD_some, cx, go_sem, meths]
   repeat refine sd2 ?_
   refine CallVC.gen0 (args2 := [.ptr ⟨L + 1, 20032⟩ 0 0, .int .i64 0, .agg (.int .i64 1 :: pk0.row)]) (by simp [pk0, Pkx.row, WkL, Wk]) (by simp [wkNL, wkN, pk0, Pkx.row]) (does0P0_ok (pu := true) (L := L + 1) ⟨L + 1, 20032⟩ (.inr ⟨rfl, by simp⟩) ⟨A, B, [], [], 0⟩ 1 pk0 (by simp [pk0]) (by simp [pk0]) .nilS outs_nil A1 x0 st0 (by simp [Tk.row])) ?_
   simp only [Tk.row, List.cons_append, List.nil_append, nt, go_sem]
   repeat refine sd2 ?_
   refine CallVC.same (movesN_ok (L := L + 1) ⟨L + 1, 20032⟩ (.inr ⟨rfl, by simp⟩) ⟨A1, B, [], [x0], 0⟩ k3 ms hms ⟨w, r1⟩ ⟨by simp, by simp⟩ (r4.le (by omega)) ⟨L + 1, 30032⟩ (Nat.le_refl _) (by simp) (by simp) (by simp [Tx.look]) rfl (by simp [Tk.row])) ?_
   simp only [Tk.row, List.cons_append, List.nil_append, nt, go_sem]
   repeat refine sd2 ?_
   refine CallVC.same (quietS_ok (L := L + 1) ⟨L + 1, 20032⟩ (.inr ⟨rfl, by simp⟩) k3 k4 r2 (r5.le (by omega)) ⟨L + 1, 30291⟩ (Nat.le_refl _) (by simp) (by simp [Tx.look]) ⟨L + 1, 30290⟩ (Nat.le_refl _) (by simp) (by simp) (by simp [Tx.look]) (by simp [Tk.row])) ?_
   simp only [Tk.row, List.nil_append, nt, go_sem]
   repeat refine sd2 ?_
   refine ⟨⟨0, 30388, 30389, k4, 0⟩, r3, (so0 hF2)⟩
  | true =>
   obtain ⟨k3, w, k4, r1, r2, r3, r4, r5⟩ := hR2
   simp only [Tryz.f3, hdC, tlC, Option.getD_some, cx, go_sem, meths]
   repeat refine sd2 ?_
   refine CallVC.gen0 (args2 := [.ptr ⟨L + 1, 20032⟩ 0 0, .int .i64 0, .agg (.int .i64 1 :: pk0.row)]) (by simp [pk0, Pkx.row, WkL, Wk]) (by simp [wkNL, wkN, pk0, Pkx.row]) (does0P0_ok (pu := true) (L := L + 1) ⟨L + 1, 20032⟩ (.inr ⟨rfl, by simp⟩) ⟨A, B, [], [], 0⟩ 1 pk0 (by simp [pk0]) (by simp [pk0]) .nilS outs_nil A1 x0 st0 (by simp [Tk.row])) ?_
   simp only [Tk.row, List.cons_append, List.nil_append, nt, go_sem]
   repeat refine sd2 ?_
   refine CallVC.gen0 (args2 := [.ptr ⟨L + 1, 20032⟩ 0 0, .int .i64 1, .agg (.int .i64 1 :: pk0.row)]) (by simp [pk0, Pkx.row, WkL, Wk]) (by simp [wkNL, wkN, pk0, Pkx.row]) (does1P0_ok (pu := false) (L := L + 1) ⟨L + 1, 20032⟩ (.inr ⟨rfl, by simp⟩) ⟨A1, B, [], [x0], 0⟩ 1 pk0 (by simp [pk0]) (by simp [pk0]) (.sl ⟨L + 1, 30032⟩ 0 1) (outs_sl (Nat.le_refl _)) B1 x1 st1 (by simp [Tk.row])) ?_
   simp only [Tk.row, List.cons_append, List.nil_append, nt, go_sem]
   repeat refine sd2 ?_
   refine CallVC.same (movesS_ok (L := L + 1) ⟨L + 1, 20032⟩ (.inr ⟨rfl, by simp⟩) ⟨A1, B1, [x1], [x0], 0⟩ k3 ms hms ⟨w, r1⟩ ⟨by simp, by simp⟩ (r4.le (by omega)) ⟨L + 1, 30032⟩ (Nat.le_refl _) (by simp) (by simp [Tx.look]) ⟨L + 1, 30193⟩ (Nat.le_refl _) (by simp) (by simp) (by simp [Tx.look]) (by simp [Tk.row])) ?_
   simp only [Tk.row, List.cons_append, List.nil_append, nt, go_sem]
   repeat refine sd2 ?_
   refine CallVC.same (quietS_ok (L := L + 1) ⟨L + 1, 20032⟩ (.inr ⟨rfl, by simp⟩) k3 k4 r2 (r5.le (by omega)) ⟨L + 1, 30355⟩ (Nat.le_refl _) (by simp) (by simp [Tx.look]) ⟨L + 1, 30354⟩ (Nat.le_refl _) (by simp) (by simp) (by simp [Tx.look]) (by simp [Tk.row])) ?_
   simp only [Tk.row, List.nil_append, nt, go_sem]
   repeat refine sd2 ?_
   refine ⟨⟨0, 30452, 30453, k4, 0⟩, r3, (so0 hF2)⟩
 rintro ⟨i, q0, q1, k4, w⟩ hk
 simp only at hk ⊢
 have c0 : (k4.g0.st == 4) = true := by have := (hk false).1; rw [show k4.g0.st = 4 from this]; rfl
 have c1 : (k4.g1.st == 4) = true := by have := (hk true).1; rw [show k4.g1.st = 4 from this]; rfl
 have i0 : k4.g0.peer = k4.g1.own := by have h1 := (hk false).2.1; have h2 := (hk true).2.2; exact (show k4.g0.peer = _ from h1).trans (show k4.g1.own = _ from h2).symm
 have i1 : k4.g1.peer = k4.g0.own := by have h1 := (hk true).2.1; have h2 := (hk false).2.2; exact (show k4.g1.peer = _ from h1).trans (show k4.g0.own = _ from h2).symm
 refine VT.of (cxOk (L + 1)) ?_
 simp only [Tryz.f3, tlC, Option.getD_some, cx, c0, c1, i0, i1, Nat.add_zero, go_sem, meths]
 repeat refine sd2 ?_
 exact .bool (.inr rfl) rfl rfl (by simp [UpdAll])
end Go.Proofs.YtifhjhbfhdcahaaGreat
end
