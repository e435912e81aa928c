/- Lemmas for the walk: GK122. -/
import Derived.Test.YtifhjhbfhdcahaaGreatP20
import Derived.Test.YtifhjhbfhdcahaaGreatP21
set_option linter.all false
section
namespace Go.Proofs.YtifhjhbfhdcahaaGreat
open Go.Tx
set_option maxRecDepth 100000
set_option maxHeartbeats 16000000
structure TlI where
 i : Nat
 q0 : Nat
 q1 : Nat
 k : Tk
 w : Nat
theorem quietU_ok {F : SF} {L nx : Nat} (m : Nm) (hm0 : m.l < L ∨ (m.l = L ∧ m.i < nx)) (k k' : Tk) (hrun : qR 200 k = some k') (hwy : Wy k 500) (b : Nm) (hbL : b.l ≤ L) (hbm : b ≠ m) (hFb : F b = some (.rows 38 4 true true (k.w1.map Pkx.row))) (a : Nm) (haL : a.l ≤ L) (ham : a ≠ m) (hab : a ≠ b) (hFa : F a = some (.rows 38 4 true true (k.w0.map Pkx.row))) (hF : F m = some (.rows 33 43 true false [k.row (.sl a 0 k.w0.length) (.sl b 0 k.w1.length)])) :
  Con Tryz.prog 14 [.ptr m 0 0] F L nx (nx + 2) (.bool true) [(m, .rows 33 43 true false [k'.row (.sl ⟨L, nx⟩ 0 k'.w0.length) (.sl ⟨L, nx + 1⟩ 0 k'.w1.length)]), (a, .dead), (b, .dead), (⟨L, nx⟩, .rows 38 4 true true (k'.w0.map Pkx.row)), (⟨L, nx + 1⟩, .rows 38 4 true true (k'.w1.map Pkx.row))] [m, b, a] := by
 have hm : m.l ≤ L := by omega
 have m1 : ∀ k, (m = (⟨L + 1, k⟩ : Nm)) = False := nm_out hm
 have m2 : ∀ k, ((⟨L + 1, k⟩ : Nm) = m) = False := nm_out' hm
 have b1 : ∀ k, (b = (⟨L + 1, k⟩ : Nm)) = False := nm_out hbL
 have b2 : ∀ k, ((⟨L + 1, k⟩ : Nm) = b) = False := nm_out' hbL
 have c1 : (b = m) = False := eq_false hbm
 have c2 : (m = b) = False := eq_false (Ne.symm hbm)
 have a1 : ∀ k, (a = (⟨L + 1, k⟩ : Nm)) = False := nm_out haL
 have a2 : ∀ k, ((⟨L + 1, k⟩ : Nm) = a) = False := nm_out' haL
 have d1 : (a = m) = False := eq_false ham
 have d2 : (m = a) = False := eq_false (Ne.symm ham)
 have d3 : (a = b) = False := eq_false hab
 have d4 : (b = a) = False := eq_false (Ne.symm hab)
 simp only [Tk.row] at hF ⊢
 refine Con.bodyNT (cxOk (L + 1)) rfl rfl (fn := Tryz.f14) (c := Tryz.f14.body.getD .skip) (by kernel_rfl) (by rfl) (by kernel_rfl) rfl  (by simp; omega) ?_
 intro F3 hF1 hF2
 have kq := (hF1 m (by simp)).trans hF
 have kb := (hF1 b (by simp)).trans hFb
 have ka := (hF1 a (by simp)).trans hFa
 refine VT.sub (Sub.rename (L := L + 1) b m (e := 33) (wd := 43) (o := true) (p := false) (row := (gR k.g0 (gR k.g1 [.sl a 0 k.w0.length, .sl b 0 k.w1.length, .int .i64 k.now]))) (row1 := (gR k.g0 (gR k.g1 [.sl a 0 k.w0.length, .sl ⟨L + 1, 0⟩ 0 k.w1.length, .int .i64 k.now]))) (by simpa [Tx.look] using kb) (by simpa [Tx.look] using kq) (by simp [c2]) (by simp [m1]) rfl ?_) ?_
 ·intro c
  by_cases hc : c = 41
  ·subst hc; exact .inr ⟨0, _, rfl, rfl⟩
  ·refine .inl ?_
   rcases Nat.lt_or_ge c 41 with h | h
   ·rw [show ((gR k.g0 (gR k.g1 [.sl a 0 k.w0.length, .sl ⟨L + 1, 0⟩ 0 k.w1.length, .int .i64 k.now])) : List PV) = (gR k.g0 (gR k.g1 [.sl a 0 k.w0.length])) ++ [.sl ⟨L + 1, 0⟩ 0 k.w1.length, .int .i64 k.now] from rfl, List.getElem?_append_left (by simpa using h), show ((gR k.g0 (gR k.g1 [.sl a 0 k.w0.length, .sl b 0 k.w1.length, .int .i64 k.now])) : List PV) = (gR k.g0 (gR k.g1 [.sl a 0 k.w0.length])) ++ [.sl b 0 k.w1.length, .int .i64 k.now] from rfl, List.getElem?_append_left (by simpa using h)]
   ·rw [show ((gR k.g0 (gR k.g1 [.sl a 0 k.w0.length, .sl ⟨L + 1, 0⟩ 0 k.w1.length, .int .i64 k.now])) : List PV) = (gR k.g0 (gR k.g1 [.sl a 0 k.w0.length, .sl ⟨L + 1, 0⟩ 0 k.w1.length])) ++ [.int .i64 k.now] from rfl, List.getElem?_append_right (by simp; omega), show ((gR k.g0 (gR k.g1 [.sl a 0 k.w0.length, .sl b 0 k.w1.length, .int .i64 k.now])) : List PV) = (gR k.g0 (gR k.g1 [.sl a 0 k.w0.length, .sl b 0 k.w1.length])) ++ [.int .i64 k.now] from rfl, List.getElem?_append_right (by simp; omega)]
    rfl
 refine VT.sub (Sub.rename (L := L + 1) a m (e := 33) (wd := 43) (o := true) (p := false) (row := (gR k.g0 (gR k.g1 [.sl a 0 k.w0.length, .sl ⟨L + 1, 0⟩ 0 k.w1.length, .int .i64 k.now]))) (row1 := (gR k.g0 (gR k.g1 [.sl ⟨L + 1, 1⟩ 0 k.w0.length, .sl ⟨L + 1, 0⟩ 0 k.w1.length, .int .i64 k.now]))) (by simpa [Tx.look, updH, setH, m1, m2, b1, b2, c1, c2, a1, a2, d1, d2, d3, d4] using ka) (by simp [Tx.look, updH, setH, m1, b2, c2]) (by simp [d2]) (by simp [m1]) rfl ?_) ?_
 ·intro c
  by_cases hc : c = 40
  ·subst hc; exact .inr ⟨0, _, rfl, rfl⟩
  ·refine .inl ?_
   rcases Nat.lt_or_ge c 40 with h | h
   ·rw [show ((gR k.g0 (gR k.g1 [.sl ⟨L + 1, 1⟩ 0 k.w0.length, .sl ⟨L + 1, 0⟩ 0 k.w1.length, .int .i64 k.now])) : List PV) = (gR k.g0 (gR k.g1 [])) ++ [.sl ⟨L + 1, 1⟩ 0 k.w0.length, .sl ⟨L + 1, 0⟩ 0 k.w1.length, .int .i64 k.now] from rfl, List.getElem?_append_left (by simpa using h), show ((gR k.g0 (gR k.g1 [.sl a 0 k.w0.length, .sl ⟨L + 1, 0⟩ 0 k.w1.length, .int .i64 k.now])) : List PV) = (gR k.g0 (gR k.g1 [])) ++ [.sl a 0 k.w0.length, .sl ⟨L + 1, 0⟩ 0 k.w1.length, .int .i64 k.now] from rfl, List.getElem?_append_left (by simpa using h)]
   ·rw [show ((gR k.g0 (gR k.g1 [.sl ⟨L + 1, 1⟩ 0 k.w0.length, .sl ⟨L + 1, 0⟩ 0 k.w1.length, .int .i64 k.now])) : List PV) = (gR k.g0 (gR k.g1 [.sl ⟨L + 1, 1⟩ 0 k.w0.length])) ++ [.sl ⟨L + 1, 0⟩ 0 k.w1.length, .int .i64 k.now] from rfl, List.getElem?_append_right (by simp; omega), show ((gR k.g0 (gR k.g1 [.sl a 0 k.w0.length, .sl ⟨L + 1, 0⟩ 0 k.w1.length, .int .i64 k.now])) : List PV) = (gR k.g0 (gR k.g1 [.sl a 0 k.w0.length])) ++ [.sl ⟨L + 1, 0⟩ 0 k.w1.length, .int .i64 k.now] from rfl, List.getElem?_append_right (by simp; omega)]
    rfl
 refine vcu ⟨[some (.ptr m 0 0), none, some (.bool false)] ++ oz 77, [(m, .rows 33 43 true false [(gR k.g0 (gR k.g1 [.sl ⟨L + 1, 1⟩ 0 k.w0.length, .sl ⟨L + 1, 0⟩ 0 k.w1.length, .int .i64 k.now]))]), (a, .dead), (b, .dead), (⟨L + 1, 1⟩, .rows 38 4 true true (k.w0.map Pkx.row)), (⟨L + 1, 0⟩, .rows 38 4 true true (k.w1.map Pkx.row))], 1000⟩ ?_ ?_
 ·simp only [Tryz.f14, hdC, Option.getD_some, cx, m1, m2, b2, c2, a1, a2, d1, d2, d3, go_sem, meths]
  repeat refine sd2 ?_
  refine ⟨(), (so0 hF2 (h2 := by simp [subH, Tx.look, m1, m2, b2, c2, a1, a2, d1, d3]) (h3 := by simp [subK, keys, m1, m2, b1, b2, c1, c2, a1, a2, d1, d2, d3, d4]))⟩
 refine VT.of (cxOk (L + 1)) ?_
 simp only [Tryz.f14, tlC, Option.getD_some, cx, go_sem, meths]
 repeat refine sd2 ?_
 refine loopK.intro _ _ (I := fun x : TlI => ⟨[some (.ptr m 0 0), none, some (.bool false), some (.int .i64 x.i)] ++ oz 76, [(m, .rows 33 43 true false [(gR x.k.g0 (gR x.k.g1 [.sl ⟨L + 1, x.q0⟩ 0 x.k.w0.length, .sl ⟨L + 1, x.q1⟩ 0 x.k.w1.length, .int .i64 x.k.now]))]), (a, .dead), (b, .dead), (⟨L + 1, x.q0⟩, .rows 38 4 true true (x.k.w0.map Pkx.row)), (⟨L + 1, x.q1⟩, .rows 38 4 true true (x.k.w1.map Pkx.row))], 20000 + 10000 * x.i⟩) (pre := fun x => x.q0 ≠ x.q1 ∧ x.q0 < 20000 + 10000 * x.i ∧ x.q1 < 20000 + 10000 * x.i ∧ x.i ≤ 200 ∧ qR (200 - x.i) x.k = some k' ∧ Wy x.k (500 + x.i)) (μ := fun x => 200 - x.i) ⟨0, 1, 0, k, 0⟩ ⟨by simp, by simp, by simp, by simp, hrun, hwy⟩ ((so0 hF2 (h2 := by simp [subH, Tx.look, m2, b2, c1, a2, d1, d4]) (h3 := by simp [subK, keys, m1, m2, b1, b2, c1, c2, a1, a2, d1, d2, d3, d4]))) ?_
 rintro ⟨i, q0, q1, ⟨g0, g1, w0, w1, now⟩, w⟩ ⟨hq, hq0, hq1, hi200, hrun, hwy⟩
 simp only at hq hq0 hq1 hi200 hrun hwy ⊢
 obtain ⟨f, hf⟩ : ∃ f, 200 - i = f + 1 := by
  rcases Nat.eq_zero_or_pos (200 - i) with h | h
  ·rw [h] at hrun; cases hrun
  ·exact ⟨200 - i - 1, by omega⟩
 have h1 : decide ((i : Int) < 200) = true := dT (by omega)
 have u0 : (q0 = q1) = False := eq_false hq
 have u1 : (q1 = q0) = False := eq_false (Ne.symm hq)
 have v01 : (q0 == q1) = false := by simp [hq]
 have xq0 : ∀ c, (20000 + (10000 * i + c) = q0) = False := fun c => eq_false (by omega)
 have xq1 : ∀ c, (20000 + (10000 * i + c) = q1) = False := fun c => eq_false (by omega)
 have sq0 : ∀ c, (q0 = 20000 + (10000 * i + c)) = False := fun c => eq_false (by omega)
 have sq1 : ∀ c, (q1 = 20000 + (10000 * i + c)) = False := fun c => eq_false (by omega)
 have nt : (!true) = false := rfl
 rw [hf, qR_succ] at hrun
 by_cases hE : qEnd ⟨g0, g1, w0, w1, now⟩
 ·rw [if_pos hE] at hrun
  obtain ⟨rfl⟩ : (⟨g0, g1, w0, w1, now⟩ : Tk) = k' := Option.some.inj hrun
  obtain ⟨z0, z1, z2, z3⟩ := hE
  simp only at z0 z1 z2 z3
  have e0 : decide ((w0.length : Int) > 0) = false := dF (by rw [z0]; simp)
  have e1 : decide ((w1.length : Int) > 0) = false := dF (by rw [z1]; simp)
  have e2 : decide (g0.due ≥ 0) = false := dF (by omega)
  have e3 : decide (g1.due ≥ 0) = false := dF (by omega)
  clear z0 z1 z2 z3 hrun hwy
  simp only [h1, e0, e1, e2, e3, m1, c2, d2, Nat.add_assoc, Nat.add_zero, go_sem]
  repeat refine sd2 ?_
  refine .now (PostN.val [q0, q1] (.inr rfl) (by simp [u0]) (p := True) (v0 := .bool true) ?_ trivial ?_ ?_ ⟨by omega, ?_, by omega, ?_, by omega, ?_, Nat.le_refl _, ?_, Nat.le_refl _, ?_, trivial⟩ ?_)
  ·simp only [resVal, resVals, resVal1, one, go_sem]
  ·simp [nmA]
  ·simp [Tx.rn]
  ·rw [kp_out (hm0.imp id fun h => .inl h.2)]
   exact .ren (by simp [Tx.look]; rfl) (by simp [rowsNm, nmA, nmAL, Dn]) (by simp [Tx.rn, Tx.rnL]; try simp [sg, List.idxOf_cons, v01]; try rfl)
  ·exact BN_dead
  ·exact BN_dead
  ·rw [kp_at0 (by simp)]
   exact .pure (by simp [Tx.look, m2, b2, a2])
  ·rw [kp_at (j := 1) (by simp)]
   exact .pure (by simp [Tx.look, m2, b2, a2, u1])
  ·simp [UpdAll, keys]
 rw [if_neg hE] at hrun
 obtain ⟨k1, hS, hR⟩ : ∃ k1, qS ⟨g0, g1, w0, w1, now⟩ = some k1 ∧ qR f k1 = some k' := by
  cases hS : qS ⟨g0, g1, w0, w1, now⟩ with
  | none => rw [hS] at hrun; cases hrun
  | some k1 => rw [hS] at hrun; exact ⟨k1, rfl, hrun⟩
 have hf2 : f = 200 - (i + 1) := by omega
 have wl0 : w0.length ≤ 700 := by have h := hwy.1; simp only at h; omega
 have wl1 : w1.length ≤ 700 := by have h := hwy.2.1; simp only at h; omega
 have ml0 : (w0.map Pkx.row).length = w0.length := List.length_map ..
 have ml1 : (w1.map Pkx.row).length = w1.length := List.length_map ..
 clear hrun
 rcases qS_cases hS with ⟨p, l, g, o, hl, hst, rfl⟩ | ⟨z0, p, l, g, o, hl, hst, rfl⟩ | ⟨z0, z1, hd, g, o, hst, rfl⟩ | ⟨z0, z1, hd, g, o, hst, rfl⟩
 ·simp only at hst hl
  have e0 : decide ((w0.length : Int) > 0) = true := dT (by rw [hl]; simp)
  have ho := outs01 hst
  have hw2 := hwy.ev (s := false) (g := g) (v := l) (o := o) (by intro x hx; show x ∈ w0; rw [hl]; exact List.mem_cons_of_mem _ hx) (by show l.length ≤ w0.length; rw [hl]; simp) ho
  have hsm : p.sm := (hwy.w false).2 p (by show p ∈ w0; rw [hl]; exact List.mem_cons_self ..)
  have hlt : 0 < w0.length := by rw [hl]; simp
  have hp : w0[0]? = some p := by rw [hl]; rfl
  have her : w0.eraseIdx 0 = l := by rw [hl]; rfl
  have hln : w0.length - 1 = l.length := by rw [hl]; simp
  clear hwy ho
  simp only [h1, e0, m1, c2, d2, Nat.add_assoc, Nat.add_zero, go_sem]
  repeat refine sd2 ?_
  refine CallVC.same (takesFFU_ok (L := L + 1) m (.inl (by omega)) false ⟨g0, g1, w0, w1, now⟩ ⟨L + 1, q0⟩ (Nat.le_refl _) (by simp [m2]) [] (by simp [Tk.w, m2, b2, a2]) 0 0 (by simp) hlt (by simp only [Tk.w]; omega) p hp hsm g o hst ⟨L + 1, q1⟩ (Nat.le_refl _) (by simp [m2]) (by simp only [Tk.w, Bool.not_false]; omega) (by simp [Tk.w, m2, b2, a2, u1]) (by simp [Tk.rw, Tk.row, Tk.w])) ?_
  simp only [Tk.ev, Tk.rw, Tk.w, Bool.not_false, Tk.row, List.nil_append, nt, her, hln, u1, xq0, xq1, m1, m2, b2, c2, a2, d2, kS3, Nat.add_assoc, go_sem]
  repeat refine sd2 ?_
  refine ⟨⟨i + 1, 20000 + (10000 * i + 320), 20000 + (10000 * i + 321), Tk.ev ⟨g0, g1, w0, w1, now⟩ false g l o, 0⟩, ⟨by simp only []; omega, by simp only []; omega, by simp only []; omega, by simp only []; omega, by rw [← hf2]; exact hR, hw2⟩, by simp only []; omega, ?_⟩
  exact (so0 hF2 (h1 := by (simp only [go_sem, subT, Int.natCast_add]; try trivial)) (h2 := by simp [subH, Tx.look, m2, b2, c1, a2, d1, d4, Tk.ev, xq0, xq1, List.length_append]) (h3 := by simp [subK, keys, m1, m2, b1, b2, c1, c2, a1, a2, d1, d2, d3, d4]) (h4 := by simp only []; omega))
 ·simp only at hst hl
  simp only at z0
  have e0 : decide ((w0.length : Int) > 0) = false := dF (by rw [z0]; simp)
  have e1 : decide ((w1.length : Int) > 0) = true := dT (by rw [hl]; simp)
  have ho := outs01 hst
  have hw2 := hwy.ev (s := true) (g := g) (v := l) (o := o) (by intro x hx; show x ∈ w1; rw [hl]; exact List.mem_cons_of_mem _ hx) (by show l.length ≤ w1.length; rw [hl]; simp) ho
  have hsm : p.sm := (hwy.w true).2 p (by show p ∈ w1; rw [hl]; exact List.mem_cons_self ..)
  have hlt : 0 < w1.length := by rw [hl]; simp
  have hp : w1[0]? = some p := by rw [hl]; rfl
  have her : w1.eraseIdx 0 = l := by rw [hl]; rfl
  have hln : w1.length - 1 = l.length := by rw [hl]; simp
  clear hwy ho
  simp only [h1, e0, e1, m1, c2, d2, Nat.add_assoc, Nat.add_zero, go_sem]
  repeat refine sd2 ?_
  refine CallVC.same (takesFFU_ok (L := L + 1) m (.inl (by omega)) true ⟨g0, g1, w0, w1, now⟩ ⟨L + 1, q1⟩ (Nat.le_refl _) (by simp [m2]) [] (by simp [Tk.w, m2, b2, a2, u1]) 0 0 (by simp) hlt (by simp only [Tk.w]; omega) p hp hsm g o hst ⟨L + 1, q0⟩ (Nat.le_refl _) (by simp [m2]) (by simp only [Tk.w, Bool.not_true]; omega) (by simp [Tk.w, m2, b2, a2]) (by simp [Tk.rw, Tk.row, Tk.w])) ?_
  simp only [Tk.ev, Tk.rw, Tk.w, Bool.not_false, Tk.row, List.nil_append, nt, her, hln, u0, xq0, xq1, m1, m2, b2, c2, a2, d2, kS3, Nat.add_assoc, go_sem]
  repeat refine sd2 ?_
  refine ⟨⟨i + 1, 20000 + (10000 * i + 577), 20000 + (10000 * i + 576), Tk.ev ⟨g0, g1, w0, w1, now⟩ true g l o, 0⟩, ⟨by simp only []; omega, by simp only []; omega, by simp only []; omega, by simp only []; omega, by rw [← hf2]; exact hR, hw2⟩, by simp only []; omega, ?_⟩
  exact (so0 hF2 (h1 := by (simp only [go_sem, subT, Int.natCast_add]; try trivial)) (h2 := by simp [subH, Tx.look, m2, b2, c1, a2, d1, d4, Tk.ev, xq0, xq1, List.length_append]) (h3 := by simp [subK, keys, m1, m2, b1, b2, c1, c2, a1, a2, d1, d2, d3, d4]) (h4 := by simp only []; omega))
 ·simp only at hst hd
  simp only at z0
  have e0 : decide ((w0.length : Int) > 0) = false := dF (by rw [z0]; simp)
  simp only at z1
  have e1 : decide ((w1.length : Int) > 0) = false := dF (by rw [z1]; simp)
  have e2 : decide (g0.due ≥ 0) = true := dT (by omega)
  have ho := outs01 hst
  have hw2 := (hwy.tm (max now g0.due)).ev (s := false) (g := g) (v := w0) (o := o) (fun x hx => hx) (Nat.le_refl _) ho
  clear hwy ho
  simp only [h1, e0, e1, e2, m1, c2, d2, Nat.add_assoc, Nat.add_zero, go_sem]
  repeat refine sd2 ?_
  refine ⟨okDyn_num (fun x => if x = m then 1 else x.i + 2) (by simp only [numF, List.map, if_true]; kernel_rfl), ?_⟩
  refine CallVC.gen0 (args2 := [.ptr m 0 0, .int .i64 0, .agg (.int .i64 4 :: pk0.row)]) (by simp [pk0, Pkx.row, WkL, Wk]) (by simp [wkNL, wkN, pk0, Pkx.row]) (doesU_ok (L := L + 1) m (.inl (by omega)) false ⟨g0, g1, w0, w1, max now g0.due⟩ 4 pk0 (by simp [pk0]) (by simp [pk0]) (.sl ⟨L + 1, q0⟩ 0 w0.length) (outs_sl (Nat.le_refl _)) ⟨L + 1, q1⟩ (Nat.le_refl _) g o hst (by simp [m2]) (by simp only [Tk.w, Bool.not_false]; omega) (by simp [Tk.w, m2, b2, a2, u1]) (by simp [Tk.rw, Tk.row, Tk.w])) ?_
  simp only [Tk.ev, Tk.rw, Tk.w, Bool.not_false, Tk.row, List.nil_append, nt, u1, xq0, xq1, m1, m2, b2, c2, a2, d2, Nat.add_assoc, go_sem]
  repeat refine sd2 ?_
  refine ⟨⟨i + 1, q0, 20000 + (10000 * i + 1344), Tk.ev (Tk.tm ⟨g0, g1, w0, w1, now⟩ (max now g0.due)) false g w0 o, 0⟩, ⟨by simp only []; omega, by simp only []; omega, by simp only []; omega, by simp only []; omega, by rw [← hf2]; exact hR, hw2⟩, by simp only []; omega, ?_⟩
  exact (so0 hF2 (h1 := by (simp only [go_sem, subT, Int.natCast_add]; try trivial)) (h2 := by simp [subH, Tx.look, m2, b2, c1, a2, d1, d4, Tk.ev, Tk.tm, xq0, xq1, List.length_append]) (h3 := by simp [subK, keys, m1, m2, b1, b2, c1, c2, a1, a2, d1, d2, d3, d4]) (h4 := by simp only []; omega))
 ·simp only at hst hd
  simp only at z0
  have e0 : decide ((w0.length : Int) > 0) = false := dF (by rw [z0]; simp)
  simp only at z1
  have e1 : decide ((w1.length : Int) > 0) = false := dF (by rw [z1]; simp)
  have e2 : decide (g0.due ≥ 0) = false := dF (by omega)
  have hd1 : g1.due ≥ 0 := by
   by_cases h : g1.due ≥ 0
   ·exact h
   ·exact absurd ⟨z0, z1, hd, by show g1.due < 0; omega⟩ hE
  have e3 : decide (g1.due ≥ 0) = true := dT hd1
  have ho := outs01 hst
  have hw2 := (hwy.tm (max now g1.due)).ev (s := true) (g := g) (v := w1) (o := o) (fun x hx => hx) (Nat.le_refl _) ho
  clear hwy ho
  simp only [h1, e0, e1, e2, e3, m1, c2, d2, Nat.add_assoc, Nat.add_zero, go_sem]
  repeat refine sd2 ?_
  refine ⟨okDyn_num (fun x => if x = m then 1 else x.i + 2) (by simp only [numF, List.map, if_true]; kernel_rfl), ?_⟩
  refine CallVC.gen0 (args2 := [.ptr m 0 0, .int .i64 1, .agg (.int .i64 4 :: pk0.row)]) (by simp [pk0, Pkx.row, WkL, Wk]) (by simp [wkNL, wkN, pk0, Pkx.row]) (doesU_ok (L := L + 1) m (.inl (by omega)) true ⟨g0, g1, w0, w1, max now g1.due⟩ 4 pk0 (by simp [pk0]) (by simp [pk0]) (.sl ⟨L + 1, q1⟩ 0 w1.length) (outs_sl (Nat.le_refl _)) ⟨L + 1, q0⟩ (Nat.le_refl _) g o hst (by simp [m2]) (by simp only [Tk.w, Bool.not_true]; omega) (by simp [Tk.w, m2, b2, a2]) (by simp [Tk.rw, Tk.row, Tk.w])) ?_
  simp only [Tk.ev, Tk.rw, Tk.w, Bool.not_false, Tk.row, List.nil_append, nt, u0, xq0, xq1, m1, m2, b2, c2, a2, d2, Nat.add_assoc, go_sem]
  repeat refine sd2 ?_
  refine ⟨⟨i + 1, 20000 + (10000 * i + 1600), q1, Tk.ev (Tk.tm ⟨g0, g1, w0, w1, now⟩ (max now g1.due)) true g w1 o, 0⟩, ⟨by simp only []; omega, by simp only []; omega, by simp only []; omega, by simp only []; omega, by rw [← hf2]; exact hR, hw2⟩, by simp only []; omega, ?_⟩
  exact (so0 hF2 (h1 := by (simp only [go_sem, subT, Int.natCast_add]; try trivial)) (h2 := by simp [subH, Tx.look, m2, b2, c1, a2, d1, d4, Tk.ev, Tk.tm, u1, xq0, xq1, List.length_append]) (h3 := by simp [subK, keys, m1, m2, b1, b2, c1, c2, a1, a2, d1, d2, d3, d4]) (h4 := by simp only []; omega))
end Go.Proofs.YtifhjhbfhdcahaaGreat
end
