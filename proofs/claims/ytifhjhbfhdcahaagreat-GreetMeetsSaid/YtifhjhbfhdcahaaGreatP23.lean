/- Lemmas for the walk: GK123, GK124. -/
import Derived.Test.YtifhjhbfhdcahaaGreatP20
import Derived.Test.YtifhjhbfhdcahaaGreatP22
set_option linter.all false
section
namespace Go.Proofs.YtifhjhbfhdcahaaGreat
open Go.Tx
set_option maxRecDepth 100000
set_option maxHeartbeats 16000000
theorem movesU_ok {F : SF} {L nx : Nat} (m : Nm) (hm0 : m.l < L ∨ (m.l = L ∧ m.i < nx)) (k k' : Tk) (ms : List Mv) (hms : (∀ m ∈ ms, m.Ok) ∧ ms.length ≤ maxLen) (hrun : ∃ w, mvR (ms.take 12) (k, 0) = some (k', w)) (hnow : 0 ≤ k.now ∧ k.now ≤ 1099511627776 + 255 * (0 : Nat)) (hwy : Wy k 500) (b : Nm) (hbL : b.l ≤ L) (hbm : b ≠ m) (hFb : F b = some (.rows 38 4 true true (k.w1.map Pkx.row))) (a : Nm) (haL : a.l ≤ L) (ham : a ≠ m) (hab : a ≠ b) (hFa : F a = some (.rows 38 4 true true (k.w0.map Pkx.row))) (hF : F m = some (.rows 33 43 true false [k.row (.sl a 0 k.w0.length) (.sl b 0 k.w1.length)])) :
  Con Tryz.prog 13 [.ptr m 0 0, .fs 3 (ms.map Mv.row)] F L nx (nx + 2) (.bool true) [(m, .rows 33 43 true false [k'.row (.sl ⟨L, nx⟩ 0 k'.w0.length) (.sl ⟨L, nx + 1⟩ 0 k'.w1.length)]), (a, .dead), (b, .dead), (⟨L, nx⟩, .rows 38 4 true true (k'.w0.map Pkx.row)), (⟨L, nx + 1⟩, .rows 38 4 true true (k'.w1.map Pkx.row))] [m, b, a] := by
 have hm : m.l ≤ L := by omega
 have m1 : ∀ k, (m = (⟨L + 1, k⟩ : Nm)) = False := nm_out hm
 have m2 : ∀ k, ((⟨L + 1, k⟩ : Nm) = m) = False := nm_out' hm
 have b1 : ∀ k, (b = (⟨L + 1, k⟩ : Nm)) = False := nm_out hbL
 have b2 : ∀ k, ((⟨L + 1, k⟩ : Nm) = b) = False := nm_out' hbL
 have c1 : (b = m) = False := eq_false hbm
 have c2 : (m = b) = False := eq_false (Ne.symm hbm)
 have a1 : ∀ k, (a = (⟨L + 1, k⟩ : Nm)) = False := nm_out haL
 have a2 : ∀ k, ((⟨L + 1, k⟩ : Nm) = a) = False := nm_out' haL
 have d1 : (a = m) = False := eq_false ham
 have d2 : (m = a) = False := eq_false (Ne.symm ham)
 have d3 : (a = b) = False := eq_false hab
 have d4 : (b = a) = False := eq_false (Ne.symm hab)
 simp only [Tk.row] at hF ⊢
 refine Con.bodyNT (cxOk (L + 1)) rfl rfl (fn := Tryz.f13) (c := Tryz.f13.body.getD .skip) (by kernel_rfl) (by rfl) (by kernel_rfl) rfl  (by simp; omega) ?_
 intro F3 hF1 hF2
 have kq := (hF1 m (by simp)).trans hF
 have kb := (hF1 b (by simp)).trans hFb
 have ka := (hF1 a (by simp)).trans hFa
 refine VT.sub (Sub.rename (L := L + 1) b m (e := 33) (wd := 43) (o := true) (p := false) (row := (gR k.g0 (gR k.g1 [.sl a 0 k.w0.length, .sl b 0 k.w1.length, .int .i64 k.now]))) (row1 := (gR k.g0 (gR k.g1 [.sl a 0 k.w0.length, .sl ⟨L + 1, 0⟩ 0 k.w1.length, .int .i64 k.now]))) (by simpa [Tx.look] using kb) (by simpa [Tx.look] using kq) (by simp [c2]) (by simp [m1]) rfl ?_) ?_
 ·intro c
  by_cases hc : c = 41
  ·subst hc; exact .inr ⟨0, _, rfl, rfl⟩
  ·refine .inl ?_
   rcases Nat.lt_or_ge c 41 with h | h
   ·rw [show ((gR k.g0 (gR k.g1 [.sl a 0 k.w0.length, .sl ⟨L + 1, 0⟩ 0 k.w1.length, .int .i64 k.now])) : List PV) = (gR k.g0 (gR k.g1 [.sl a 0 k.w0.length])) ++ [.sl ⟨L + 1, 0⟩ 0 k.w1.length, .int .i64 k.now] from rfl, List.getElem?_append_left (by simpa using h), show ((gR k.g0 (gR k.g1 [.sl a 0 k.w0.length, .sl b 0 k.w1.length, .int .i64 k.now])) : List PV) = (gR k.g0 (gR k.g1 [.sl a 0 k.w0.length])) ++ [.sl b 0 k.w1.length, .int .i64 k.now] from rfl, List.getElem?_append_left (by simpa using h)]
   ·rw [show ((gR k.g0 (gR k.g1 [.sl a 0 k.w0.length, .sl ⟨L + 1, 0⟩ 0 k.w1.length, .int .i64 k.now])) : List PV) = (gR k.g0 (gR k.g1 [.sl a 0 k.w0.length, .sl ⟨L + 1, 0⟩ 0 k.w1.length])) ++ [.int .i64 k.now] from rfl, List.getElem?_append_right (by simp; omega), show ((gR k.g0 (gR k.g1 [.sl a 0 k.w0.length, .sl b 0 k.w1.length, .int .i64 k.now])) : List PV) = (gR k.g0 (gR k.g1 [.sl a 0 k.w0.length, .sl b 0 k.w1.length])) ++ [.int .i64 k.now] from rfl, List.getElem?_append_right (by simp; omega)]
    rfl
 refine VT.sub (Sub.rename (L := L + 1) a m (e := 33) (wd := 43) (o := true) (p := false) (row := (gR k.g0 (gR k.g1 [.sl a 0 k.w0.length, .sl ⟨L + 1, 0⟩ 0 k.w1.length, .int .i64 k.now]))) (row1 := (gR k.g0 (gR k.g1 [.sl ⟨L + 1, 1⟩ 0 k.w0.length, .sl ⟨L + 1, 0⟩ 0 k.w1.length, .int .i64 k.now]))) (by simpa [Tx.look, updH, setH, m1, m2, b1, b2, c1, c2, a1, a2, d1, d2, d3, d4] using ka) (by simp [Tx.look, updH, setH, m1, b2, c2]) (by simp [d2]) (by simp [m1]) rfl ?_) ?_
 ·intro c
  by_cases hc : c = 40
  ·subst hc; exact .inr ⟨0, _, rfl, rfl⟩
  ·refine .inl ?_
   rcases Nat.lt_or_ge c 40 with h | h
   ·rw [show ((gR k.g0 (gR k.g1 [.sl ⟨L + 1, 1⟩ 0 k.w0.length, .sl ⟨L + 1, 0⟩ 0 k.w1.length, .int .i64 k.now])) : List PV) = (gR k.g0 (gR k.g1 [])) ++ [.sl ⟨L + 1, 1⟩ 0 k.w0.length, .sl ⟨L + 1, 0⟩ 0 k.w1.length, .int .i64 k.now] from rfl, List.getElem?_append_left (by simpa using h), show ((gR k.g0 (gR k.g1 [.sl a 0 k.w0.length, .sl ⟨L + 1, 0⟩ 0 k.w1.length, .int .i64 k.now])) : List PV) = (gR k.g0 (gR k.g1 [])) ++ [.sl a 0 k.w0.length, .sl ⟨L + 1, 0⟩ 0 k.w1.length, .int .i64 k.now] from rfl, List.getElem?_append_left (by simpa using h)]
   ·rw [show ((gR k.g0 (gR k.g1 [.sl ⟨L + 1, 1⟩ 0 k.w0.length, .sl ⟨L + 1, 0⟩ 0 k.w1.length, .int .i64 k.now])) : List PV) = (gR k.g0 (gR k.g1 [.sl ⟨L + 1, 1⟩ 0 k.w0.length])) ++ [.sl ⟨L + 1, 0⟩ 0 k.w1.length, .int .i64 k.now] from rfl, List.getElem?_append_right (by simp; omega), show ((gR k.g0 (gR k.g1 [.sl a 0 k.w0.length, .sl ⟨L + 1, 0⟩ 0 k.w1.length, .int .i64 k.now])) : List PV) = (gR k.g0 (gR k.g1 [.sl a 0 k.w0.length])) ++ [.sl ⟨L + 1, 0⟩ 0 k.w1.length, .int .i64 k.now] from rfl, List.getElem?_append_right (by simp; omega)]
    rfl
 obtain ⟨hmo, hml⟩ := hms
 have rl : (ms.map Mv.row).length = ms.length := List.length_map ..
 refine vcu ⟨[some (.ptr m 0 0), some (.fs 3 (ms.map Mv.row)), none, none, some (.bool false)] ++ oz 82, [(m, .rows 33 43 true false [(gR k.g0 (gR k.g1 [.sl ⟨L + 1, 1⟩ 0 k.w0.length, .sl ⟨L + 1, 0⟩ 0 k.w1.length, .int .i64 k.now]))]), (a, .dead), (b, .dead), (⟨L + 1, 1⟩, .rows 38 4 true true (k.w0.map Pkx.row)), (⟨L + 1, 0⟩, .rows 38 4 true true (k.w1.map Pkx.row))], 1000⟩ ?_ ?_
 ·simp only [Tryz.f13, hdC, Option.getD_some, cx, m1, m2, b2, c2, a1, a2, d1, d2, d3, go_sem, meths]
  repeat refine sd2 ?_
  refine ⟨(), (so0 hF2 (h2 := by simp [subH, Tx.look, m1, m2, b2, c2, a1, a2, d1, d3]) (h3 := by simp [subK, keys, m1, m2, b1, b2, c1, c2, a1, a2, d1, d2, d3, d4]))⟩
 refine vcu ⟨[some (.ptr m 0 0), some (.fs 3 (ms.map Mv.row)), none, none, some (.bool false), some (.int .i64 0)] ++ oz 81, [(m, .rows 33 43 true false [(gR k.g0 (gR k.g1 [.sl ⟨L + 1, 1⟩ 0 k.w0.length, .sl ⟨L + 1, 0⟩ 0 k.w1.length, .int .i64 k.now]))]), (a, .dead), (b, .dead), (⟨L + 1, 1⟩, .rows 38 4 true true (k.w0.map Pkx.row)), (⟨L + 1, 0⟩, .rows 38 4 true true (k.w1.map Pkx.row))], 2000⟩ ?_ ?_
 ·simp only [Tryz.f13, hdC, tlC, Option.getD_some, cx, go_sem, meths]
  repeat refine sd2 ?_
  refine ⟨(), (so0 hF2 (h2 := by simp [subH, Tx.look, m2, b2, c1, a2, d1, d4]) (h3 := by simp [subK, keys, m1, m2, b1, b2, c1, c2, a1, a2, d1, d2, d3, d4]))⟩
 obtain ⟨l, hl⟩ : ∃ l, l = ms.take 12 := ⟨_, rfl⟩
 have hll : l.length = min ms.length 12 := by rw [hl]; simp; omega
 have hlo : ∀ m ∈ l, m.Ok := fun m h => hmo m (List.mem_of_mem_take (by rw [← hl]; exact h))
 rw [← hl] at hrun
 have mi : min (ms.length : Int) 12 = (l.length : Int) := by rw [hll]; omega
 have tk : List.take l.length (ms.map Mv.row) = l.map Mv.row := by
  rw [← List.map_take, hl]
  congr 1
  rw [List.length_take]
  rcases Nat.le_total 12 ms.length with h | h
  ·rw [Nat.min_eq_left h]
  ·rw [Nat.min_eq_right h, List.take_length, List.take_of_length_le h]
 have lm : l.length ≤ ms.length := by omega
 have lr : (l.map Mv.row).length = l.length := List.length_map ..
 refine VT.of (cxOk (L + 1)) ?_
 simp only [Tryz.f13, tlC, Option.getD_some, cx, rl, mi, lm, Int.toNat_natCast, go_sem, meths]
 repeat refine sd2 ?_
 refine loopK.intro _ _ (I := fun x : TlI => ⟨[some (.ptr m 0 0), none, none, none, some (.bool false), some (.int .i64 x.w), none, none, none, none, none, none, none, none, some (.fs 3 (l.map Mv.row)), some (.int .i64 l.length), some (.int .i64 x.i)] ++ oz 70, [(m, .rows 33 43 true false [(gR x.k.g0 (gR x.k.g1 [.sl ⟨L + 1, x.q0⟩ 0 x.k.w0.length, .sl ⟨L + 1, x.q1⟩ 0 x.k.w1.length, .int .i64 x.k.now]))]), (a, .dead), (b, .dead), (⟨L + 1, x.q0⟩, .rows 38 4 true true (x.k.w0.map Pkx.row)), (⟨L + 1, x.q1⟩, .rows 38 4 true true (x.k.w1.map Pkx.row))], 20000 + 10000 * x.i⟩) (pre := fun x => x.q0 ≠ x.q1 ∧ x.q0 < 20000 + 10000 * x.i ∧ x.q1 < 20000 + 10000 * x.i ∧ x.i ≤ l.length ∧ (∃ w, mvR (l.drop x.i) (x.k, x.w) = some (k', w)) ∧ Wy x.k (500 + x.i) ∧ x.w ≤ 5 ∧ 0 ≤ x.k.now ∧ x.k.now ≤ 1099511627776 + 255 * x.i) (μ := fun x => l.length - x.i) ⟨0, 1, 0, k, 0⟩ ⟨by simp, by simp, by simp, by simp, hrun, hwy, by simp, hnow⟩ ((so0 hF2 (h1 := by (simp only [go_sem, subT, and_self, Nat.sub_zero, tk, lr, Int.natCast_zero]; try trivial)) (h2 := by simp [subH, Tx.look, m2, b2, c1, a2, d1, d4]) (h3 := by simp [subK, keys, m1, m2, b1, b2, c1, c2, a1, a2, d1, d2, d3, d4]))) ?_
 rintro ⟨i, q0, q1, ⟨g0, g1, w0, w1, now⟩, w⟩ ⟨hq, hq0, hq1, hi, hrun, hwy, hw5, hn0, hn1⟩
 simp only at hq hq0 hq1 hi hrun hwy hw5 hn0 hn1 ⊢
 have u0 : (q0 = q1) = False := eq_false hq
 have u1 : (q1 = q0) = False := eq_false (Ne.symm hq)
 have v01 : (q0 == q1) = false := by simp [hq]
 have xq0 : ∀ c, (20000 + (10000 * i + c) = q0) = False := fun c => eq_false (by omega)
 have xq1 : ∀ c, (20000 + (10000 * i + c) = q1) = False := fun c => eq_false (by omega)
 have sq0 : ∀ c, (q0 = 20000 + (10000 * i + c)) = False := fun c => eq_false (by omega)
 have sq1 : ∀ c, (q1 = 20000 + (10000 * i + c)) = False := fun c => eq_false (by omega)
 have nt : (!true) = false := rfl
 have l12 : l.length ≤ 12 := by omega
 by_cases hE : i = l.length
 ·subst hE
  have h1 : decide ((l.length : Int) < (l.length : Int)) = false := dF (by omega)
  rw [List.drop_length] at hrun
  obtain ⟨w', hw'⟩ := hrun
  obtain ⟨rfl, _⟩ : (⟨g0, g1, w0, w1, now⟩ : Tk) = k' ∧ w = w' := by simpa [mvR] using hw'
  clear hw'
  simp only [h1, Nat.add_assoc, go_sem]
  repeat refine sd2 ?_
  refine .now (PostN.val [q0, q1] (.inr rfl) (by simp [u0]) (p := True) (v0 := .bool true) ?_ trivial ?_ ?_ ⟨by omega, ?_, by omega, ?_, by omega, ?_, Nat.le_refl _, ?_, Nat.le_refl _, ?_, trivial⟩ ?_)
  ·simp only [resVal, resVals, resVal1, one, go_sem]
  ·simp [nmA]
  ·simp [Tx.rn]
  ·rw [kp_out (hm0.imp id fun h => .inl h.2)]
   exact .ren (by simp [Tx.look]; rfl) (by simp [rowsNm, nmA, nmAL, Dn]) (by simp [Tx.rn, Tx.rnL]; try simp [sg, List.idxOf_cons, v01]; try rfl)
  ·exact BN_dead
  ·exact BN_dead
  ·rw [kp_at0 (by simp)]
   exact .pure (by simp [Tx.look, m2, b2, a2])
  ·rw [kp_at (j := 1) (by simp)]
   exact .pure (by simp [Tx.look, m2, b2, a2, u1])
  ·simp [UpdAll, keys]
 have hlt : i < l.length := by omega
 have h1 : decide ((i : Int) < (l.length : Int)) = true := dT (by omega)
 obtain ⟨mv, hmv⟩ : ∃ mv, mv = l[i] := ⟨_, rfl⟩
 have gr : (l.map Mv.row).getD i [] = [.int .u8 mv.what, .int .u8 mv.which, .int .u8 mv.later] := by rw [List.getD_eq_getElem?_getD, List.getElem?_map, List.getElem?_eq_getElem hlt, hmv]; rfl
 obtain ⟨ok1, ok2, ok3⟩ : mv.Ok := hlo mv (by rw [hmv]; exact List.getElem_mem _)
 rw [List.drop_eq_getElem_cons hlt, ← hmv] at hrun
 obtain ⟨wF, hrun⟩ := hrun
 obtain ⟨k1, w9, hS, hR⟩ : ∃ k1 w9, mvS (⟨g0, g1, w0, w1, now⟩, w) mv = some (k1, w9) ∧ mvR (l.drop (i + 1)) (k1, w9) = some (k', wF) := by
  have hr2 : (mvS (⟨g0, g1, w0, w1, now⟩, w) mv).bind (mvR (l.drop (i + 1))) = some (k', wF) := hrun
  cases hS : mvS (⟨g0, g1, w0, w1, now⟩, w) mv with
  | none => rw [hS] at hr2; cases hr2
  | some x => rw [hS] at hr2; exact ⟨x.1, x.2, rfl, hr2⟩
 have wl0 : w0.length ≤ 700 := by have h := hwy.1; simp only at h; omega
 have wl1 : w1.length ≤ 700 := by have h := hwy.2.1; simp only at h; omega
 have ml0 : (w0.map Pkx.row).length = w0.length := List.length_map ..
 have ml1 : (w1.map Pkx.row).length = w1.length := List.length_map ..
 obtain ⟨wt, wh, lt⟩ := mv
 simp only at gr ok1 ok2 ok3
 have t4 : (wt : Int).tmod 4 = ((wt % 4 : Nat) : Int) := by rw [Int.tmod_eq_emod_of_nonneg (by omega)]; rfl
 have t2 : (wh : Int).tmod 2 = ((wh % 2 : Nat) : Int) := by rw [Int.tmod_eq_emod_of_nonneg (by omega)]; rfl
 have d2q : (wh : Int).tdiv 2 = ((wh / 2 : Nat) : Int) := by rw [Int.tdiv_eq_ediv_of_nonneg (by omega)]; rfl
 have c1w : IntKind.i64.wrap ((wh / 2 : Nat) : Int) = ((wh / 2 : Nat) : Int) := wi64 (by omega)
 have c2w : IntKind.i64.wrap (lt : Int) = (lt : Int) := wi64 (by omega)
 have c3w : IntKind.u8.wrap ((wh / 2 : Nat) : Int) = ((wh / 2 : Nat) : Int) := by simp [IntKind.wrap, IntKind.signed, IntKind.bits]; omega
 have c4w : ((w : Int) == 5) = decide (w = 5) := by
  by_cases h : w = 5
  ·subst h; rfl
  ·rw [decide_eq_false h]; simp; omega
 clear hrun hlo hmo
 have hside : wh % 2 = 0 ∨ wh % 2 = 1 := by omega
 rcases hside with hs | hs
 ·rw [hs] at t2
  have c5w : IntKind.i64.wrap ((0 : Nat) : Int) = 0 := by decide
  have c6w : IntKind.i64.wrap 0 = 0 := by decide
  rcases mvS_cases hS (s := false) (by show (wh % 2 == 1) = false; rw [hs]; rfl) with ⟨h4, h5, rfl, rfl⟩ | ⟨h4, h5, rfl, g, o, hst, rfl⟩ | ⟨h4, hz, rfl, rfl⟩ | ⟨h4, rfl, hlt2, ⟨p, hp⟩, rfl⟩ | ⟨h4, rfl, at1, p, g, o, ha, hlt2, hp, hst, rfl⟩
  ·rw [h4] at t4
   subst h5
   have e1 : (((0 : Nat) : Int) == 0) = true := rfl
   have e2 : ((((5 : Nat)) : Int) == 5) = true := rfl
   have e1' : ((0 : Int) == 0) = true := rfl
   have e2' : ((5 : Int) == 5) = true := rfl
   simp only [Int.toNat_natCast, gr, h1, t4, t2, c2w, lr, nt, c6w, Int.natCast_zero, e2, e1', xq0, xq1, m1, m2, b2, c2, a2, d2, Nat.add_assoc, Nat.add_zero, go_sem]
   repeat refine sd2 ?_
   refine ⟨okDyn_num (fun x => if x = m then 1 else 0) (by simp only [numF, List.map, m2, if_true, if_false]; kernel_rfl), ?_⟩
   repeat refine sd2 ?_
   refine ⟨⟨i + 1, q0, q1, Tk.tm ⟨g0, g1, w0, w1, now⟩ (now + lt), 5⟩, ⟨by simp only []; omega, by simp only []; omega, by simp only []; omega, by simp only []; omega, ⟨wF, hR⟩, by have := hwy.le (show 500 + i ≤ 500 + (i + 1) by omega); exact this, by simp only []; omega, by simp only [Tk.tm]; omega, by simp only [Tk.tm]; omega⟩, by simp only []; omega, ?_⟩
   exact (so0 hF2 (h1 := by (simp only [go_sem, subT, and_self, Int.natCast_add, Int.natCast_one]; try trivial)) (h2 := by simp [subH, Tx.look, m2, b2, c1, a2, d1, d4, Tk.tm, u1]) (h3 := by simp [subK, keys, m1, m2, b1, b2, c1, c2, a1, a2, d1, d2, d3, d4]) (h4 := by simp only []; omega))
  ·rw [h4] at t4
   have e1 : (((0 : Nat) : Int) == 0) = true := rfl
   have e1' : ((0 : Int) == 0) = true := rfl
   have e2 : ((w : Int) == 5) = false := by rw [c4w]; exact decide_eq_false h5
   simp only [Tk.g] at hst
   have htm := step_tim hst
   have ho := outs01 hst
   have hw2 := (hwy.tm (max (now + lt) g0.due)).ev (s := false) (g := g) (v := w0) (o := o) (fun x hx => hx) (Nat.le_refl _) ho
   clear ho
   simp only [Int.toNat_natCast, gr, h1, t4, t2, c2w, lr, c6w, Int.natCast_zero, e2, e1', xq0, xq1, m1, m2, b2, c2, a2, d2, Nat.add_assoc, Nat.add_zero, go_sem]
   repeat refine sd2 ?_
   refine ⟨okDyn_num (fun x => if x = m then 1 else 0) (by simp only [numF, List.map, m2, if_true, if_false]; kernel_rfl), ?_⟩
   repeat refine sd2 ?_
   refine ⟨okDyn_num (fun x => if x = m then 1 else 0) (by simp only [numF, List.map, if_true]; kernel_rfl), ?_⟩
   repeat refine sd2 ?_
   refine CallVC.gen0 (args2 := [.ptr m 0 0, .int .i64 0, .agg (.int .i64 4 :: pk0.row)]) (by simp [pk0, Pkx.row, WkL, Wk]) (by simp [wkNL, wkN, pk0, Pkx.row]) (doesU_ok (L := L + 1) m (.inl (by omega)) false ⟨g0, g1, w0, w1, max (now + lt) g0.due⟩ 4 pk0 (by simp [pk0]) (by simp [pk0]) (.sl ⟨L + 1, q0⟩ 0 w0.length) (outs_sl (Nat.le_refl _)) ⟨L + 1, q1⟩ (Nat.le_refl _) g o hst (by simp [m2]) (by simp only [Tk.w, Bool.not_false]; omega) (by simp [Tk.w, m2, b2, a2, u1]) (by simp [Tk.rw, Tk.row, Tk.w])) ?_
   simp only [Tk.ev, Tk.rw, Tk.w, Bool.not_false, Tk.row, List.nil_append, nt, u1, xq0, xq1, sq1, m1, m2, b2, c2, a2, d2, kS3, Nat.add_assoc, go_sem]
   repeat refine sd2 ?_
   refine ⟨⟨i + 1, q0, 20000 + (10000 * i + 1856), Tk.ev (Tk.tm ⟨g0, g1, w0, w1, now⟩ (max (now + lt) g0.due)) false g w0 o, w + 1⟩, ⟨by simp only []; omega, by simp only []; omega, by simp only []; omega, by simp only []; omega, ⟨wF, hR⟩, hw2, by simp only []; omega, by simp only [Tk.ev, Tk.tm]; omega, by simp only [Tk.ev, Tk.tm]; omega⟩, by simp only []; omega, ?_⟩
   exact (so0 hF2 (h1 := by (simp only [go_sem, subT, and_self, Int.natCast_add, Int.natCast_one]; try trivial)) (h2 := by simp [subH, Tx.look, m2, b2, c1, a2, d1, d4, Tk.ev, Tk.tm, xq0, xq1, List.length_append]) (h3 := by simp [subK, keys, m1, m2, b1, b2, c1, c2, a1, a2, d1, d2, d3, d4]) (h4 := by simp only []; omega))
  ·have e0 : w0 = [] := hz
   simp only at h4
   have e1 : (((wt % 4 : Nat) : Int) == 0) = false := by simp; omega
   obtain ⟨kp, hkp⟩ : ∃ b, b = (((wt % 4 : Nat) : Int) == 3) := ⟨_, rfl⟩
   obtain ⟨lo, hlo⟩ : ∃ b, b = (((wt % 4 : Nat) : Int) == 2) := ⟨_, rfl⟩
   have ez : w0.length = 0 := by rw [e0]; rfl
   simp only [Int.toNat_natCast, gr, h1, t4, t2, d2q, c1w, c2w, c3w, lr, nt, c6w, Int.natCast_zero, e1, ← hkp, ← hlo, xq0, xq1, m1, m2, b2, c2, a2, d2, Nat.add_assoc, Nat.add_zero, go_sem]
   repeat refine sd2 ?_
   refine ⟨okDyn_num (fun x => if x = m then 1 else 0) (by simp only [numF, List.map, m2, if_true, if_false]; kernel_rfl), ?_⟩
   repeat refine sd2 ?_
   refine CallVC.same (takesEU_ok (L := L + 1) m (by omega) false ⟨g0, g1, w0, w1, now + lt⟩ _ kp lo ⟨L + 1, q0⟩ ⟨_, by simp [m2, b2, a2]; rfl⟩ (.sl ⟨L + 1, q1⟩ 0 w1.length) (by simp [Tk.rw, Tk.row, ez])) ?_
   simp only [nt, Nat.add_assoc, go_sem]
   repeat refine sd2 ?_
   refine ⟨⟨i + 1, q0, q1, Tk.tm ⟨g0, g1, w0, w1, now⟩ (now + lt), w9⟩, ⟨by simp only []; omega, by simp only []; omega, by simp only []; omega, by simp only []; omega, ⟨wF, hR⟩, by have := hwy.le (show 500 + i ≤ 500 + (i + 1) by omega); exact this, by simp only []; omega, by simp only [Tk.tm]; omega, by simp only [Tk.tm]; omega⟩, by simp only []; omega, ?_⟩
   exact (so0 hF2 (h1 := by (simp only [go_sem, subT, and_self, Int.natCast_add, Int.natCast_one]; try trivial)) (h2 := by simp [subH, Tx.look, m2, b2, c1, a2, d1, d4, Tk.tm, u1]) (h3 := by simp [subK, keys, m1, m2, b1, b2, c1, c2, a1, a2, d1, d2, d3, d4]) (h4 := by simp only []; omega))
  ·rw [h4] at t4
   simp only [Tk.w] at hlt2 hp
   obtain ⟨at1, ha⟩ : ∃ a, a = wh / 2 % w0.length := ⟨_, rfl⟩
   simp only [Tk.w, Tk.g, ← ha] at hlt2 hp hR ⊢
   have e1 : (((2 : Nat) : Int) == 0) = false := rfl
   have e2 : (((2 : Nat) : Int) == 3) = false := rfl
   have e3 : (((2 : Nat) : Int) == 2) = true := rfl
   have e1' : ((2 : Int) == 0) = false := rfl
   have e2' : ((2 : Int) == 3) = false := rfl
   have e3' : ((2 : Int) == 2) = true := rfl
   have hat : (((wh / 2 : Nat) : Int)).tmod (w0.length : Int) = at1 := by rw [ha, Int.tmod_eq_emod_of_nonneg (by omega)]; rfl
   have her : (w0.eraseIdx at1).length = w0.length - 1 := List.length_eraseIdx_of_lt hlt2
   simp only [Int.toNat_natCast, gr, h1, t4, t2, d2q, c1w, c2w, c3w, lr, nt, c6w, Int.natCast_zero, e1, e2, e3, xq0, xq1, m1, m2, b2, c2, a2, d2, Nat.add_assoc, Nat.add_zero, go_sem]
   repeat refine sd2 ?_
   refine ⟨okDyn_num (fun x => if x = m then 1 else 0) (by simp only [numF, List.map, m2, if_true, if_false]; kernel_rfl), ?_⟩
   repeat refine sd2 ?_
   refine CallVC.same (takesFTU_ok (L := L + 1) m (.inl (by omega)) false ⟨g0, g1, w0, w1, now + lt⟩ ⟨L + 1, q0⟩ (Nat.le_refl _) (by simp [m2]) [] (by simp [Tk.w, m2, b2, a2]) _ at1 hat hlt2 (by simp only [Tk.w]; omega) p hp (.sl ⟨L + 1, q1⟩ 0 w1.length) (outs_sl (Nat.le_refl _)) (by simp [Tk.rw, Tk.row, Tk.w])) ?_
   simp only [Tk.rw, Tk.w, Bool.not_false, Tk.row, List.nil_append, nt, xq0, xq1, m1, m2, b2, c2, a2, d2, kS3, Nat.add_assoc, go_sem]
   repeat refine sd2 ?_
   have hw2 := (hwy.tm (now + lt)).ev (s := false) (g := g0) (v := w0.eraseIdx at1) (o := []) (fun x hx => List.mem_of_mem_eraseIdx hx) (List.length_eraseIdx_le _ _) (.inl rfl)
   refine ⟨⟨i + 1, 20000 + (10000 * i + 1536), q1, Tk.ev (Tk.tm ⟨g0, g1, w0, w1, now⟩ (now + lt)) false g0 (w0.eraseIdx at1) [], w9⟩, ⟨by simp only []; omega, by simp only []; omega, by simp only []; omega, by simp only []; omega, ⟨wF, hR⟩, hw2, by simp only []; omega, by simp only [Tk.ev, Tk.tm]; omega, by simp only [Tk.ev, Tk.tm]; omega⟩, by simp only []; omega, ?_⟩
   exact (so0 hF2 (h1 := by (simp only [go_sem, subT, and_self, Int.natCast_add, Int.natCast_one]; try trivial)) (h2 := by simp [subH, Tx.look, m2, b2, c1, a2, d1, d4, Tk.ev, Tk.tm, u1, xq0, xq1, her]) (h3 := by simp [subK, keys, m1, m2, b1, b2, c1, c2, a1, a2, d1, d2, d3, d4]) (h4 := by simp only []; omega))
  ·simp only [Tk.w, Tk.g] at hlt2 hp hst ha hR h4
   have hsm : p.sm := (hwy.w false).2 p (List.mem_of_getElem? hp)
   have ho := outs01 hst
   have hat : (((wh / 2 : Nat) : Int)).tmod (w0.length : Int) = at1 := by rw [ha, Int.tmod_eq_emod_of_nonneg (by omega)]; rfl
   have her : (w0.eraseIdx at1).length = w0.length - 1 := List.length_eraseIdx_of_lt hlt2
   rcases h4 with h4 | h4
   ·rw [h4] at t4
    rw [if_neg (by omega)] at hR
    have e1 : (((1 : Nat) : Int) == 0) = false := rfl
    have e2 : (((1 : Nat) : Int) == 3) = false := rfl
    have e3 : (((1 : Nat) : Int) == 2) = false := rfl
    have e1' : ((1 : Int) == 0) = false := rfl
    have e2' : ((1 : Int) == 3) = false := rfl
    have e3' : ((1 : Int) == 2) = false := rfl
    have hw2 := (hwy.tm (now + lt)).ev (s := false) (g := g) (v := (w0.eraseIdx at1)) (o := o) (fun x hx => List.mem_of_mem_eraseIdx hx) (List.length_eraseIdx_le _ _) ho
    clear ho
    simp only [Int.toNat_natCast, gr, h1, t4, t2, d2q, c1w, c2w, c3w, lr, nt, c6w, Int.natCast_zero, Int.natCast_one, e1', e2', e3', xq0, xq1, m1, m2, b2, c2, a2, d2, Nat.add_assoc, Nat.add_zero, go_sem]
    repeat refine sd2 ?_
    refine ⟨okDyn_num (fun x => if x = m then 1 else 0) (by simp only [numF, List.map, m2, if_true, if_false]; kernel_rfl), ?_⟩
    repeat refine sd2 ?_
    refine CallVC.same (takesFFU_ok (L := L + 1) m (.inl (by omega)) false ⟨g0, g1, w0, w1, now + lt⟩ ⟨L + 1, q0⟩ (Nat.le_refl _) (by simp [m2]) [] (by simp [Tk.w, m2, b2, a2]) _ at1 hat hlt2 (by simp only [Tk.w]; omega) p hp hsm g o hst ⟨L + 1, q1⟩ (Nat.le_refl _) (by simp [m2]) (by simp only [Tk.w, Bool.not_false]; omega) (by simp [Tk.w, m2, b2, a2, u1]) (by simp [Tk.rw, Tk.row, Tk.w])) ?_
    simp only [Tk.ev, Tk.rw, Tk.w, Bool.not_false, Tk.row, List.nil_append, nt, u1, xq0, xq1, sq1, m1, m2, b2, c2, a2, d2, kS3, Nat.add_assoc, go_sem]
    repeat refine sd2 ?_
    refine ⟨⟨i + 1, 20000 + (10000 * i + 1536), 20000 + (10000 * i + 1537), Tk.ev (Tk.tm ⟨g0, g1, w0, w1, now⟩ (now + lt)) false g (w0.eraseIdx at1) o, w9⟩, ⟨by simp only []; omega, by simp only []; omega, by simp only []; omega, by simp only []; omega, ⟨wF, hR⟩, hw2, by simp only []; omega, by simp only [Tk.ev, Tk.tm]; omega, by simp only [Tk.ev, Tk.tm]; omega⟩, by simp only []; omega, ?_⟩
    exact (so0 hF2 (h1 := by (simp only [go_sem, subT, and_self, Int.natCast_add, Int.natCast_one]; try trivial)) (h2 := by simp [subH, Tx.look, m2, b2, c1, a2, d1, d4, Tk.ev, Tk.tm, xq0, xq1, her, List.length_append]) (h3 := by simp [subK, keys, m1, m2, b1, b2, c1, c2, a1, a2, d1, d2, d3, d4]) (h4 := by simp only []; omega))
   ·rw [h4] at t4
    rw [if_pos h4] at hR
    have e1 : (((3 : Nat) : Int) == 0) = false := rfl
    have e2 : (((3 : Nat) : Int) == 3) = true := rfl
    have e3 : (((3 : Nat) : Int) == 2) = false := rfl
    have e1' : ((3 : Int) == 0) = false := rfl
    have e2' : ((3 : Int) == 3) = true := rfl
    have e3' : ((3 : Int) == 2) = false := rfl
    have hw2 := (hwy.tm (now + lt)).ev (s := false) (g := g) (v := w0) (o := o) (fun x hx => hx) (Nat.le_refl _) ho
    clear ho
    simp only [Int.toNat_natCast, gr, h1, t4, t2, d2q, c1w, c2w, c3w, lr, nt, c6w, Int.natCast_zero, e1, e2, e3, xq0, xq1, m1, m2, b2, c2, a2, d2, Nat.add_assoc, Nat.add_zero, go_sem]
    repeat refine sd2 ?_
    refine ⟨okDyn_num (fun x => if x = m then 1 else 0) (by simp only [numF, List.map, m2, if_true, if_false]; kernel_rfl), ?_⟩
    repeat refine sd2 ?_
    refine CallVC.same (takesTFU_ok (L := L + 1) m (.inl (by omega)) false ⟨g0, g1, w0, w1, now + lt⟩ ⟨L + 1, q0⟩ (Nat.le_refl _) (by simp [m2]) [] (by simp [Tk.w, m2, b2, a2]) _ at1 hat hlt2 (by simp only [Tk.w]; omega) p hp hsm g o hst ⟨L + 1, q1⟩ (Nat.le_refl _) (by simp [m2]) (by simp only [Tk.w, Bool.not_false]; omega) (by simp [Tk.w, m2, b2, a2, u1]) (by simp [Tk.rw, Tk.row, Tk.w])) ?_
    simp only [Tk.ev, Tk.rw, Tk.w, Bool.not_false, Tk.row, List.nil_append, nt, u1, xq0, xq1, sq1, m1, m2, b2, c2, a2, d2, kS3, Nat.add_assoc, go_sem]
    repeat refine sd2 ?_
    refine ⟨⟨i + 1, q0, 20000 + (10000 * i + 1536), Tk.ev (Tk.tm ⟨g0, g1, w0, w1, now⟩ (now + lt)) false g w0 o, w9⟩, ⟨by simp only []; omega, by simp only []; omega, by simp only []; omega, by simp only []; omega, ⟨wF, hR⟩, hw2, by simp only []; omega, by simp only [Tk.ev, Tk.tm]; omega, by simp only [Tk.ev, Tk.tm]; omega⟩, by simp only []; omega, ?_⟩
    exact (so0 hF2 (h1 := by (simp only [go_sem, subT, and_self, Int.natCast_add, Int.natCast_one]; try trivial)) (h2 := by simp [subH, Tx.look, m2, b2, c1, a2, d1, d4, Tk.ev, Tk.tm, xq0, xq1, List.length_append]) (h3 := by simp [subK, keys, m1, m2, b1, b2, c1, c2, a1, a2, d1, d2, d3, d4]) (h4 := by simp only []; omega))
 ·rw [hs] at t2
  have c5w : IntKind.i64.wrap ((1 : Nat) : Int) = 1 := by decide
  have c6w : IntKind.i64.wrap 1 = 1 := by decide
  rcases mvS_cases hS (s := true) (by show (wh % 2 == 1) = true; rw [hs]; rfl) with ⟨h4, h5, rfl, rfl⟩ | ⟨h4, h5, rfl, g, o, hst, rfl⟩ | ⟨h4, hz, rfl, rfl⟩ | ⟨h4, rfl, hlt2, ⟨p, hp⟩, rfl⟩ | ⟨h4, rfl, at1, p, g, o, ha, hlt2, hp, hst, rfl⟩
  ·rw [h4] at t4
   subst h5
   have e1 : (((0 : Nat) : Int) == 0) = true := rfl
   have e2 : ((((5 : Nat)) : Int) == 5) = true := rfl
   have e1' : ((0 : Int) == 0) = true := rfl
   have e2' : ((5 : Int) == 5) = true := rfl
   simp only [Int.toNat_natCast, gr, h1, t4, t2, c2w, lr, nt, c6w, Int.natCast_zero, Int.natCast_one, e2, e1', xq0, xq1, m1, m2, b2, c2, a2, d2, Nat.add_assoc, Nat.add_zero, go_sem]
   repeat refine sd2 ?_
   refine ⟨okDyn_num (fun x => if x = m then 1 else 0) (by simp only [numF, List.map, m2, if_true, if_false]; kernel_rfl), ?_⟩
   repeat refine sd2 ?_
   refine ⟨⟨i + 1, q0, q1, Tk.tm ⟨g0, g1, w0, w1, now⟩ (now + lt), 5⟩, ⟨by simp only []; omega, by simp only []; omega, by simp only []; omega, by simp only []; omega, ⟨wF, hR⟩, by have := hwy.le (show 500 + i ≤ 500 + (i + 1) by omega); exact this, by simp only []; omega, by simp only [Tk.tm]; omega, by simp only [Tk.tm]; omega⟩, by simp only []; omega, ?_⟩
   exact (so0 hF2 (h1 := by (simp only [go_sem, subT, and_self, Int.natCast_add, Int.natCast_one]; try trivial)) (h2 := by simp [subH, Tx.look, m2, b2, c1, a2, d1, d4, Tk.tm, u1]) (h3 := by simp [subK, keys, m1, m2, b1, b2, c1, c2, a1, a2, d1, d2, d3, d4]) (h4 := by simp only []; omega))
  ·rw [h4] at t4
   have e1 : (((0 : Nat) : Int) == 0) = true := rfl
   have e1' : ((0 : Int) == 0) = true := rfl
   have e2 : ((w : Int) == 5) = false := by rw [c4w]; exact decide_eq_false h5
   simp only [Tk.g] at hst
   have htm := step_tim hst
   have ho := outs01 hst
   have hw2 := (hwy.tm (max (now + lt) g1.due)).ev (s := true) (g := g) (v := w1) (o := o) (fun x hx => hx) (Nat.le_refl _) ho
   clear ho
   simp only [Int.toNat_natCast, gr, h1, t4, t2, c2w, lr, c6w, Int.natCast_zero, Int.natCast_one, e2, e1', xq0, xq1, m1, m2, b2, c2, a2, d2, Nat.add_assoc, Nat.add_zero, go_sem]
   repeat refine sd2 ?_
   refine ⟨okDyn_num (fun x => if x = m then 1 else 0) (by simp only [numF, List.map, m2, if_true, if_false]; kernel_rfl), ?_⟩
   repeat refine sd2 ?_
   refine ⟨okDyn_num (fun x => if x = m then 1 else 0) (by simp only [numF, List.map, if_true]; kernel_rfl), ?_⟩
   repeat refine sd2 ?_
   refine CallVC.gen0 (args2 := [.ptr m 0 0, .int .i64 1, .agg (.int .i64 4 :: pk0.row)]) (by simp [pk0, Pkx.row, WkL, Wk]) (by simp [wkNL, wkN, pk0, Pkx.row]) (doesU_ok (L := L + 1) m (.inl (by omega)) true ⟨g0, g1, w0, w1, max (now + lt) g1.due⟩ 4 pk0 (by simp [pk0]) (by simp [pk0]) (.sl ⟨L + 1, q1⟩ 0 w1.length) (outs_sl (Nat.le_refl _)) ⟨L + 1, q0⟩ (Nat.le_refl _) g o hst (by simp [m2]) (by simp only [Tk.w, Bool.not_true]; omega) (by simp [Tk.w, m2, b2, a2]) (by simp [Tk.rw, Tk.row, Tk.w])) ?_
   simp only [Tk.ev, Tk.rw, Tk.w, Bool.not_false, Tk.row, List.nil_append, nt, u0, xq0, xq1, sq0, m1, m2, b2, c2, a2, d2, kS3, Nat.add_assoc, go_sem]
   repeat refine sd2 ?_
   refine ⟨⟨i + 1, 20000 + (10000 * i + 1856), q1, Tk.ev (Tk.tm ⟨g0, g1, w0, w1, now⟩ (max (now + lt) g1.due)) true g w1 o, w + 1⟩, ⟨by simp only []; omega, by simp only []; omega, by simp only []; omega, by simp only []; omega, ⟨wF, hR⟩, hw2, by simp only []; omega, by simp only [Tk.ev, Tk.tm]; omega, by simp only [Tk.ev, Tk.tm]; omega⟩, by simp only []; omega, ?_⟩
   exact (so0 hF2 (h1 := by (simp only [go_sem, subT, and_self, Int.natCast_add, Int.natCast_one]; try trivial)) (h2 := by simp [subH, Tx.look, m2, b2, c1, a2, d1, d4, Tk.ev, Tk.tm, u1, xq0, xq1, List.length_append]) (h3 := by simp [subK, keys, m1, m2, b1, b2, c1, c2, a1, a2, d1, d2, d3, d4]) (h4 := by simp only []; omega))
  ·have e0 : w1 = [] := hz
   simp only at h4
   have e1 : (((wt % 4 : Nat) : Int) == 0) = false := by simp; omega
   obtain ⟨kp, hkp⟩ : ∃ b, b = (((wt % 4 : Nat) : Int) == 3) := ⟨_, rfl⟩
   obtain ⟨lo, hlo⟩ : ∃ b, b = (((wt % 4 : Nat) : Int) == 2) := ⟨_, rfl⟩
   have ez : w1.length = 0 := by rw [e0]; rfl
   simp only [Int.toNat_natCast, gr, h1, t4, t2, d2q, c1w, c2w, c3w, lr, nt, c6w, Int.natCast_one, e1, ← hkp, ← hlo, xq0, xq1, m1, m2, b2, c2, a2, d2, Nat.add_assoc, Nat.add_zero, go_sem]
   repeat refine sd2 ?_
   refine ⟨okDyn_num (fun x => if x = m then 1 else 0) (by simp only [numF, List.map, m2, if_true, if_false]; kernel_rfl), ?_⟩
   repeat refine sd2 ?_
   refine CallVC.same (takesEU_ok (L := L + 1) m (by omega) true ⟨g0, g1, w0, w1, now + lt⟩ _ kp lo ⟨L + 1, q1⟩ ⟨_, by simp [m2, b2, a2, u1]; rfl⟩ (.sl ⟨L + 1, q0⟩ 0 w0.length) (by simp [Tk.rw, Tk.row, ez])) ?_
   simp only [nt, Nat.add_assoc, go_sem]
   repeat refine sd2 ?_
   refine ⟨⟨i + 1, q0, q1, Tk.tm ⟨g0, g1, w0, w1, now⟩ (now + lt), w9⟩, ⟨by simp only []; omega, by simp only []; omega, by simp only []; omega, by simp only []; omega, ⟨wF, hR⟩, by have := hwy.le (show 500 + i ≤ 500 + (i + 1) by omega); exact this, by simp only []; omega, by simp only [Tk.tm]; omega, by simp only [Tk.tm]; omega⟩, by simp only []; omega, ?_⟩
   exact (so0 hF2 (h1 := by (simp only [go_sem, subT, and_self, Int.natCast_add, Int.natCast_one]; try trivial)) (h2 := by simp [subH, Tx.look, m2, b2, c1, a2, d1, d4, Tk.tm, u1]) (h3 := by simp [subK, keys, m1, m2, b1, b2, c1, c2, a1, a2, d1, d2, d3, d4]) (h4 := by simp only []; omega))
  ·rw [h4] at t4
   simp only [Tk.w] at hlt2 hp
   obtain ⟨at1, ha⟩ : ∃ a, a = wh / 2 % w1.length := ⟨_, rfl⟩
   simp only [Tk.w, Tk.g, ← ha] at hlt2 hp hR ⊢
   have e1 : (((2 : Nat) : Int) == 0) = false := rfl
   have e2 : (((2 : Nat) : Int) == 3) = false := rfl
   have e3 : (((2 : Nat) : Int) == 2) = true := rfl
   have e1' : ((2 : Int) == 0) = false := rfl
   have e2' : ((2 : Int) == 3) = false := rfl
   have e3' : ((2 : Int) == 2) = true := rfl
   have hat : (((wh / 2 : Nat) : Int)).tmod (w1.length : Int) = at1 := by rw [ha, Int.tmod_eq_emod_of_nonneg (by omega)]; rfl
   have her : (w1.eraseIdx at1).length = w1.length - 1 := List.length_eraseIdx_of_lt hlt2
   simp only [Int.toNat_natCast, gr, h1, t4, t2, d2q, c1w, c2w, c3w, lr, nt, c6w, Int.natCast_one, e1, e2, e3, xq0, xq1, m1, m2, b2, c2, a2, d2, Nat.add_assoc, Nat.add_zero, go_sem]
   repeat refine sd2 ?_
   refine ⟨okDyn_num (fun x => if x = m then 1 else 0) (by simp only [numF, List.map, m2, if_true, if_false]; kernel_rfl), ?_⟩
   repeat refine sd2 ?_
   refine CallVC.same (takesFTU_ok (L := L + 1) m (.inl (by omega)) true ⟨g0, g1, w0, w1, now + lt⟩ ⟨L + 1, q1⟩ (Nat.le_refl _) (by simp [m2]) [] (by simp [Tk.w, m2, b2, a2, u1]) _ at1 hat hlt2 (by simp only [Tk.w]; omega) p hp (.sl ⟨L + 1, q0⟩ 0 w0.length) (outs_sl (Nat.le_refl _)) (by simp [Tk.rw, Tk.row, Tk.w])) ?_
   simp only [Tk.rw, Tk.w, Bool.not_false, Tk.row, List.nil_append, nt, xq0, xq1, m1, m2, b2, c2, a2, d2, kS3, Nat.add_assoc, go_sem]
   repeat refine sd2 ?_
   have hw2 := (hwy.tm (now + lt)).ev (s := true) (g := g1) (v := w1.eraseIdx at1) (o := []) (fun x hx => List.mem_of_mem_eraseIdx hx) (List.length_eraseIdx_le _ _) (.inl rfl)
   refine ⟨⟨i + 1, q0, 20000 + (10000 * i + 1536), Tk.ev (Tk.tm ⟨g0, g1, w0, w1, now⟩ (now + lt)) true g1 (w1.eraseIdx at1) [], w9⟩, ⟨by simp only []; omega, by simp only []; omega, by simp only []; omega, by simp only []; omega, ⟨wF, hR⟩, hw2, by simp only []; omega, by simp only [Tk.ev, Tk.tm]; omega, by simp only [Tk.ev, Tk.tm]; omega⟩, by simp only []; omega, ?_⟩
   exact (so0 hF2 (h1 := by (simp only [go_sem, subT, and_self, Int.natCast_add, Int.natCast_one]; try trivial)) (h2 := by simp [subH, Tx.look, m2, b2, c1, a2, d1, d4, Tk.ev, Tk.tm, xq0, xq1, her]) (h3 := by simp [subK, keys, m1, m2, b1, b2, c1, c2, a1, a2, d1, d2, d3, d4]) (h4 := by simp only []; omega))
  ·simp only [Tk.w, Tk.g] at hlt2 hp hst ha hR h4
   have hsm : p.sm := (hwy.w true).2 p (List.mem_of_getElem? hp)
   have ho := outs01 hst
   have hat : (((wh / 2 : Nat) : Int)).tmod (w1.length : Int) = at1 := by rw [ha, Int.tmod_eq_emod_of_nonneg (by omega)]; rfl
   have her : (w1.eraseIdx at1).length = w1.length - 1 := List.length_eraseIdx_of_lt hlt2
   rcases h4 with h4 | h4
   ·rw [h4] at t4
    rw [if_neg (by omega)] at hR
    have e1 : (((1 : Nat) : Int) == 0) = false := rfl
    have e2 : (((1 : Nat) : Int) == 3) = false := rfl
    have e3 : (((1 : Nat) : Int) == 2) = false := rfl
    have e1' : ((1 : Int) == 0) = false := rfl
    have e2' : ((1 : Int) == 3) = false := rfl
    have e3' : ((1 : Int) == 2) = false := rfl
    have hw2 := (hwy.tm (now + lt)).ev (s := true) (g := g) (v := (w1.eraseIdx at1)) (o := o) (fun x hx => List.mem_of_mem_eraseIdx hx) (List.length_eraseIdx_le _ _) ho
    clear ho
    simp only [Int.toNat_natCast, gr, h1, t4, t2, d2q, c1w, c2w, c3w, lr, nt, c6w, Int.natCast_one, e1', e2', e3', xq0, xq1, m1, m2, b2, c2, a2, d2, Nat.add_assoc, Nat.add_zero, go_sem]
    repeat refine sd2 ?_
    refine ⟨okDyn_num (fun x => if x = m then 1 else 0) (by simp only [numF, List.map, m2, if_true, if_false]; kernel_rfl), ?_⟩
    repeat refine sd2 ?_
    refine CallVC.same (takesFFU_ok (L := L + 1) m (.inl (by omega)) true ⟨g0, g1, w0, w1, now + lt⟩ ⟨L + 1, q1⟩ (Nat.le_refl _) (by simp [m2]) [] (by simp [Tk.w, m2, b2, a2, u1]) _ at1 hat hlt2 (by simp only [Tk.w]; omega) p hp hsm g o hst ⟨L + 1, q0⟩ (Nat.le_refl _) (by simp [m2]) (by simp only [Tk.w, Bool.not_true]; omega) (by simp [Tk.w, m2, b2, a2]) (by simp [Tk.rw, Tk.row, Tk.w])) ?_
    simp only [Tk.ev, Tk.rw, Tk.w, Bool.not_false, Tk.row, List.nil_append, nt, u0, xq0, xq1, sq0, m1, m2, b2, c2, a2, d2, kS3, Nat.add_assoc, go_sem]
    repeat refine sd2 ?_
    refine ⟨⟨i + 1, 20000 + (10000 * i + 1537), 20000 + (10000 * i + 1536), Tk.ev (Tk.tm ⟨g0, g1, w0, w1, now⟩ (now + lt)) true g (w1.eraseIdx at1) o, w9⟩, ⟨by simp only []; omega, by simp only []; omega, by simp only []; omega, by simp only []; omega, ⟨wF, hR⟩, hw2, by simp only []; omega, by simp only [Tk.ev, Tk.tm]; omega, by simp only [Tk.ev, Tk.tm]; omega⟩, by simp only []; omega, ?_⟩
    exact (so0 hF2 (h1 := by (simp only [go_sem, subT, and_self, Int.natCast_add, Int.natCast_one]; try trivial)) (h2 := by simp [subH, Tx.look, m2, b2, c1, a2, d1, d4, Tk.ev, Tk.tm, xq0, xq1, her, List.length_append]) (h3 := by simp [subK, keys, m1, m2, b1, b2, c1, c2, a1, a2, d1, d2, d3, d4]) (h4 := by simp only []; omega))
   ·rw [h4] at t4
    rw [if_pos h4] at hR
    have e1 : (((3 : Nat) : Int) == 0) = false := rfl
    have e2 : (((3 : Nat) : Int) == 3) = true := rfl
    have e3 : (((3 : Nat) : Int) == 2) = false := rfl
    have e1' : ((3 : Int) == 0) = false := rfl
    have e2' : ((3 : Int) == 3) = true := rfl
    have e3' : ((3 : Int) == 2) = false := rfl
    have hw2 := (hwy.tm (now + lt)).ev (s := true) (g := g) (v := w1) (o := o) (fun x hx => hx) (Nat.le_refl _) ho
    clear ho
    simp only [Int.toNat_natCast, gr, h1, t4, t2, d2q, c1w, c2w, c3w, lr, nt, c6w, Int.natCast_one, e1, e2, e3, xq0, xq1, m1, m2, b2, c2, a2, d2, Nat.add_assoc, Nat.add_zero, go_sem]
    repeat refine sd2 ?_
    refine ⟨okDyn_num (fun x => if x = m then 1 else 0) (by simp only [numF, List.map, m2, if_true, if_false]; kernel_rfl), ?_⟩
    repeat refine sd2 ?_
    refine CallVC.same (takesTFU_ok (L := L + 1) m (.inl (by omega)) true ⟨g0, g1, w0, w1, now + lt⟩ ⟨L + 1, q1⟩ (Nat.le_refl _) (by simp [m2]) [] (by simp [Tk.w, m2, b2, a2, u1]) _ at1 hat hlt2 (by simp only [Tk.w]; omega) p hp hsm g o hst ⟨L + 1, q0⟩ (Nat.le_refl _) (by simp [m2]) (by simp only [Tk.w, Bool.not_true]; omega) (by simp [Tk.w, m2, b2, a2]) (by simp [Tk.rw, Tk.row, Tk.w])) ?_
    simp only [Tk.ev, Tk.rw, Tk.w, Bool.not_false, Tk.row, List.nil_append, nt, u0, xq0, xq1, sq0, m1, m2, b2, c2, a2, d2, kS3, Nat.add_assoc, go_sem]
    repeat refine sd2 ?_
    refine ⟨⟨i + 1, 20000 + (10000 * i + 1536), q1, Tk.ev (Tk.tm ⟨g0, g1, w0, w1, now⟩ (now + lt)) true g w1 o, w9⟩, ⟨by simp only []; omega, by simp only []; omega, by simp only []; omega, by simp only []; omega, ⟨wF, hR⟩, hw2, by simp only []; omega, by simp only [Tk.ev, Tk.tm]; omega, by simp only [Tk.ev, Tk.tm]; omega⟩, by simp only []; omega, ?_⟩
    exact (so0 hF2 (h1 := by (simp only [go_sem, subT, and_self, Int.natCast_add, Int.natCast_one]; try trivial)) (h2 := by simp [subH, Tx.look, m2, b2, c1, a2, d1, d4, Tk.ev, Tk.tm, u1, xq0, xq1, List.length_append]) (h3 := by simp [subK, keys, m1, m2, b1, b2, c1, c2, a1, a2, d1, d2, d3, d4]) (h4 := by simp only []; omega))
theorem Con.rds {P : Program} {f : FuncId} {args : List PV} {F : SF} {L nx top : Nat} {v : PV} {upd : List (Nm × SBlk)} {rd rd2 : List Nm} (h : Con P f args F L nx top v upd rd) (hs : ∀ n ∈ rd, n ∈ rd2) : Con P f args F L nx top v upd rd2 :=
 ⟨h.1, fun F2 hF => h.2 F2 (fun n hn => hF n (hs n hn))⟩
theorem tkNil {F : SF} {L nx top : Nat} {f : FuncId} {args : List PV} {v : PV} {upd : List (Nm × SBlk)} {rd rd2 : List Nm} {pu : Bool} (m : Nm) (hm0 : m.l < L ∨ (m.l = L ∧ m.i < nx)) (s : Bool) (k : Tk) (x : PV) (hF : F m = some (.rows 33 43 true pu [k.rw s x .nilS])) (hmr : m ∈ rd2)
  (h : Con Tryz.prog f args ((F.set ⟨L, nx⟩ (.rows 38 4 true true (([] : List Pkx).map Pkx.row))).set m (.rows 33 43 true false [k.rw s x (.sl ⟨L, nx⟩ 0 0)])) L (nx + 1) top v upd rd) (hr : ∀ n ∈ rd, n = ⟨L, nx⟩ ∨ n ∈ rd2) :
  Con Tryz.prog f args F L nx top v ((⟨L, nx⟩, .rows 38 4 true true (([] : List Pkx).map Pkx.row)) :: (m, .rows 33 43 true false [k.rw s x (.sl ⟨L, nx⟩ 0 0)]) :: upd) rd2 := by
 refine Con.nilCell (by omega) hF hmr (by intro h; rw [h] at hm0; simp at hm0) ((rw_len k s x _).trans (rw_len k s x _).symm) (fun c => rw_cell k s x .nilS (.sl ⟨L, nx⟩ 0 0) c) (Con.rds h (fun n hn => ?_))
 rcases hr n hn with h | h
 ·rw [h]; exact List.mem_cons_self ..
 ·exact List.mem_cons_of_mem _ h
theorem doesN_ok {pu : Bool} {F : SF} {L nx : Nat} (m : Nm) (hm0 : m.l < L ∨ (m.l = L ∧ m.i < nx)) (s : Bool) (k : Tk) (kind : Int) (p : Pkx) (hlen : p.cs.length ≤ 1000000) (hb : ∀ c ∈ p.cs, c.bd.length ≤ 1000000) (va : PV) (hva : Outs L va) (h : Gx) (o : List Pkx) (hst : gStep (k.g s) k.now kind p = (h, o, 0)) (hnil : k.w (!s) = []) (hF : F m = some (.rows 33 43 true pu [k.rw s va .nilS])) :
  Con Tryz.prog 12 [.ptr m 0 0, .int .i64 (sI s), .agg (.int .i64 kind :: p.row)] F L nx (nx + 1 + 1) (.bool true) ((⟨L, nx⟩, .rows 38 4 true true (([] : List Pkx).map Pkx.row)) :: (m, .rows 33 43 true false [k.rw s va (.sl ⟨L, nx⟩ 0 0)]) :: [(m, .rows 33 43 true false [(k.ev s h (k.w s) o).rw s va (.sl ⟨L, nx + 1⟩ 0 ((k.w !s).length + o.length))]), (⟨L, nx⟩, .dead), (⟨L, nx + 1⟩, .rows 38 4 true true ((k.w (!s) ++ o).map Pkx.row))]) [m] := by
 have hmx' : (⟨L, nx⟩ : Nm) ≠ m := by intro h; rw [← h] at hm0; simp at hm0
 refine tkNil m hm0 s k va hF (by simp) (doesU_ok (nx := nx + 1) m (by omega) s k kind p hlen hb va hva ⟨L, nx⟩ (Nat.le_refl _) h o hst hmx' (by rw [hnil]; simp) (by simp only [SF.set, if_neg hmx', if_true, hnil]) (by simp only [SF.set, if_true, hnil, List.length_nil])) (fun n hn => by simp at hn ⊢; exact hn.symm)
theorem takesN_ok {F : SF} {L nx : Nat} (m : Nm) (hm0 : m.l < L ∨ (m.l = L ∧ m.i < nx)) (s : Bool) (k : Tk) (a : Nm) (haL : a.l ≤ L) (ham : a ≠ m) (hax : a ≠ ⟨L, nx⟩) (z : List Pkx) (hFa : F a = some (.rows 38 4 true true (((k.w s) ++ z).map Pkx.row))) (which : Int) (at1 : Nat) (hat : which.tmod (k.w s).length = at1) (hlt : at1 < (k.w s).length) (hal : (k.w s).length ≤ 1000000) (p : Pkx) (hp : (k.w s)[at1]? = some p) (hsm : p.sm) (h : Gx) (o : List Pkx) (hst : gStep (k.g s) k.now 5 p = (h, o, 0)) (hnil : k.w (!s) = []) {pu : Bool} (hF : F m = some (.rows 33 43 true pu [k.rw s (.sl a 0 (k.w s).length) .nilS])) :
  Con Tryz.prog 21 [.ptr m 0 0, .int .i64 (sI s), .int .i64 which, .bool false, .bool false] F L nx (nx + 1 + 2) (.bool true) ((⟨L, nx⟩, .rows 38 4 true true (([] : List Pkx).map Pkx.row)) :: (m, .rows 33 43 true false [k.rw s (.sl a 0 (k.w s).length) (.sl ⟨L, nx⟩ 0 0)]) :: [(m, .rows 33 43 true false [(k.ev s h (k.w s) o).rw s (.sl ⟨L, nx + 1⟩ 0 ((k.w s).length - 1)) (.sl ⟨L, nx + 1 + 1⟩ 0 ((k.w !s).length + o.length))]), (⟨L, nx⟩, .dead), (⟨L, nx + 1⟩, .rows 38 4 true true (((k.w s).eraseIdx at1).map Pkx.row)), (⟨L, nx + 1 + 1⟩, .rows 38 4 true true ((k.w (!s) ++ o).map Pkx.row))]) [m, a] := by
 have hmx' : (⟨L, nx⟩ : Nm) ≠ m := by intro h; rw [← h] at hm0; simp at hm0
 refine tkNil m hm0 s k (.sl a 0 (k.w s).length) hF (by simp) (takesFFU_ok (nx := nx + 1) m (by omega) s k a haL ham z (by simp only [SF.set, if_neg ham, if_neg hax]; exact hFa) which at1 hat hlt hal p hp hsm h o hst ⟨L, nx⟩ (Nat.le_refl _) hmx' (by rw [hnil]; simp) (by simp only [SF.set, if_neg hmx', if_true, hnil]) (by simp only [SF.set, if_true, hnil, List.length_nil])) (fun n hn => by simp at hn ⊢; rcases hn with h | h | h <;> simp [h])
theorem movesN_ok {F : SF} {L nx : Nat} (m : Nm) (hm0 : m.l < L ∨ (m.l = L ∧ m.i < nx)) (k k' : Tk) (ms : List Mv) (hms : (∀ m ∈ ms, m.Ok) ∧ ms.length ≤ maxLen) (hrun : ∃ w, mvR (ms.take 12) (k, 0) = some (k', w)) (hnow : 0 ≤ k.now ∧ k.now ≤ 1099511627776 + 255 * (0 : Nat)) (hwy : Wy k 500) (b : Nm) (hbL : b.l ≤ L) (hbm : b ≠ m) (hbx : b ≠ ⟨L, nx⟩) (hFb : F b = some (.rows 38 4 true true (k.w1.map Pkx.row))) (hnil : k.w0 = []) (hF : F m = some (.rows 33 43 true false [k.row .nilS (.sl b 0 k.w1.length)])) :
  Con Tryz.prog 13 [.ptr m 0 0, .fs 3 (ms.map Mv.row)] F L nx (nx + 1 + 2) (.bool true) ((⟨L, nx⟩, .rows 38 4 true true (([] : List Pkx).map Pkx.row)) :: (m, .rows 33 43 true false [k.rw true (.sl b 0 k.w1.length) (.sl ⟨L, nx⟩ 0 0)]) :: [(m, .rows 33 43 true false [k'.row (.sl ⟨L, nx + 1⟩ 0 k'.w0.length) (.sl ⟨L, nx + 1 + 1⟩ 0 k'.w1.length)]), (⟨L, nx⟩, .dead), (b, .dead), (⟨L, nx + 1⟩, .rows 38 4 true true (k'.w0.map Pkx.row)), (⟨L, nx + 1 + 1⟩, .rows 38 4 true true (k'.w1.map Pkx.row))]) [m, b] := by
 have hmx' : (⟨L, nx⟩ : Nm) ≠ m := by intro h; rw [← h] at hm0; simp at hm0
 have hbx' : (⟨L, nx⟩ : Nm) ≠ b := Ne.symm hbx
 have hwl : k.w0.length = 0 := by rw [hnil]; rfl
 refine tkNil m hm0 true k (.sl b 0 k.w1.length) hF (by simp) (movesU_ok (nx := nx + 1) m (by omega) k k' ms hms hrun hnow hwy b hbL hbm (by simp only [SF.set, if_neg hbm, if_neg hbx]; exact hFb) ⟨L, nx⟩ (Nat.le_refl _) hmx' hbx' (by simp only [SF.set, if_neg hmx', if_true, hnil]) (by simp only [SF.set, if_true, hwl, Tk.rw])) (fun n hn => by simp at hn ⊢; rcases hn with h | h | h <;> simp [h])
end Go.Proofs.YtifhjhbfhdcahaaGreat
end
