/- Lemmas for the walk: GK111b, U49. -/
import Derived.Test.YtifhjhbfhdcahaaGreatP22
import Derived.Test.YtifhjhbfhdcahaaGreatP25
import Derived.Test.YtifhjhbfhdcahaaGreatP26
set_option linter.all false
section
namespace Go.Proofs.YtifhjhbfhdcahaaGreat
open Go.Tx
set_option maxRecDepth 100000
set_option maxHeartbeats 16000000
theorem movesS_ok {F : SF} {L nx : Nat} (m : Nm) (hm0 : m.l < L ∨ (m.l = L ∧ m.i < nx)) (k k' : Tk) (ms : List Mv) (hms : (∀ m ∈ ms, m.Ok) ∧ ms.length ≤ maxLen) (hrun : ∃ w, mvR (ms.take 12) (k, 0) = some (k', w)) (hnow : 0 ≤ k.now ∧ k.now ≤ 1099511627776 + 255 * (0 : Nat)) (hwy : Wy k 500) (b : Nm) (hbL : b.l ≤ L) (hbm : b ≠ m) (hFb : F b = some (.rows 38 4 true true (k.w1.map Pkx.row))) (a : Nm) (haL : a.l ≤ L) (ham : a ≠ m) (hab : a ≠ b) (hFa : F a = some (.rows 38 4 true true (k.w0.map Pkx.row))) (hF : F m = some (.rows 33 43 true false [k.row (.sl a 0 k.w0.length) (.sl b 0 k.w1.length)])) :
  Con Tryz.prog 13 [.ptr m 0 0, .fs 3 (ms.map Mv.row)] F L nx (nx + 2) (.bool true) [(m, .rows 33 43 true false [k'.row (.sl ⟨L, nx⟩ 0 k'.w0.length) (.sl ⟨L, nx + 1⟩ 0 k'.w1.length)]), (a, .dead), (b, .dead), (⟨L, nx⟩, .rows 38 4 true true (k'.w0.map Pkx.row)), (⟨L, nx + 1⟩, .rows 38 4 true true (k'.w1.map Pkx.row))] [m, b, a] := by
 have hm : m.l ≤ L := by omega
 have m1 : ∀ k, (m = (⟨L + 1, k⟩ : Nm)) = False := nm_out hm
 have m2 : ∀ k, ((⟨L + 1, k⟩ : Nm) = m) = False := nm_out' hm
 have b1 : ∀ k, (b = (⟨L + 1, k⟩ : Nm)) = False := nm_out hbL
 have b2 : ∀ k, ((⟨L + 1, k⟩ : Nm) = b) = False := nm_out' hbL
 have c1 : (b = m) = False := eq_false hbm
 have c2 : (m = b) = False := eq_false (Ne.symm hbm)
 have a1 : ∀ k, (a = (⟨L + 1, k⟩ : Nm)) = False := nm_out haL
 have a2 : ∀ k, ((⟨L + 1, k⟩ : Nm) = a) = False := nm_out' haL
 have d1 : (a = m) = False := eq_false ham
 have d2 : (m = a) = False := eq_false (Ne.symm ham)
 have d3 : (a = b) = False := eq_false hab
 have d4 : (b = a) = False := eq_false (Ne.symm hab)
 simp only [Tk.row] at hF ⊢
 refine Con.bodyNT (cxOk (L + 1)) rfl rfl (fn := Tryz.f13) (c := Tryz.f13.body.getD .skip) (by kernel_rfl) (by rfl) (by kernel_rfl) rfl  (by simp; omega) ?_
 intro F3 hF1 hF2
 have kq := (hF1 m (by simp)).trans hF
 have kb := (hF1 b (by simp)).trans hFb
 have ka := (hF1 a (by simp)).trans hFa
 refine VT.sub (Sub.rename (L := L + 1) b m (e := 33) (wd := 43) (o := true) (p := false) (row := (gR k.g0 (gR k.g1 [.sl a 0 k.w0.length, .sl b 0 k.w1.length, .int .i64 k.now]))) (row1 := (gR k.g0 (gR k.g1 [.sl a 0 k.w0.length, .sl ⟨L + 1, 0⟩ 0 k.w1.length, .int .i64 k.now]))) (by simpa [Tx.look] using kb) (by simpa [Tx.look] using kq) (by simp [c2]) (by simp [m1]) rfl ?_) ?_
 ·intro c
  by_cases hc : c = 41
  ·subst hc; exact .inr ⟨0, _, rfl, rfl⟩
  ·refine .inl ?_
   rcases Nat.lt_or_ge c 41 with h | h
   ·rw [show ((gR k.g0 (gR k.g1 [.sl a 0 k.w0.length, .sl ⟨L + 1, 0⟩ 0 k.w1.length, .int .i64 k.now])) : List PV) = (gR k.g0 (gR k.g1 [.sl a 0 k.w0.length])) ++ [.sl ⟨L + 1, 0⟩ 0 k.w1.length, .int .i64 k.now] from rfl, List.getElem?_append_left (by simpa using h), show ((gR k.g0 (gR k.g1 [.sl a 0 k.w0.length, .sl b 0 k.w1.length, .int .i64 k.now])) : List PV) = (gR k.g0 (gR k.g1 [.sl a 0 k.w0.length])) ++ [.sl b 0 k.w1.length, .int .i64 k.now] from rfl, List.getElem?_append_left (by simpa using h)]
   ·rw [show ((gR k.g0 (gR k.g1 [.sl a 0 k.w0.length, .sl ⟨L + 1, 0⟩ 0 k.w1.length, .int .i64 k.now])) : List PV) = (gR k.g0 (gR k.g1 [.sl a 0 k.w0.length, .sl ⟨L + 1, 0⟩ 0 k.w1.length])) ++ [.int .i64 k.now] from rfl, List.getElem?_append_right (by simp; omega), show ((gR k.g0 (gR k.g1 [.sl a 0 k.w0.length, .sl b 0 k.w1.length, .int .i64 k.now])) : List PV) = (gR k.g0 (gR k.g1 [.sl a 0 k.w0.length, .sl b 0 k.w1.length])) ++ [.int .i64 k.now] from rfl, List.getElem?_append_right (by simp; omega)]
    rfl
 refine VT.sub (Sub.rename (L := L + 1) a m (e := 33) (wd := 43) (o := true) (p := false) (row := (gR k.g0 (gR k.g1 [.sl a 0 k.w0.length, .sl ⟨L + 1, 0⟩ 0 k.w1.length, .int .i64 k.now]))) (row1 := (gR k.g0 (gR k.g1 [.sl ⟨L + 1, 1⟩ 0 k.w0.length, .sl ⟨L + 1, 0⟩ 0 k.w1.length, .int .i64 k.now]))) (by simpa [Tx.look, updH, setH, m1, m2, b1, b2, c1, c2, a1, a2, d1, d2, d3, d4] using ka) (by simp [Tx.look, updH, setH, m1, b2, c2]) (by simp [d2]) (by simp [m1]) rfl ?_) ?_
 ·intro c
  by_cases hc : c = 40
  ·subst hc; exact .inr ⟨0, _, rfl, rfl⟩
  ·refine .inl ?_
   rcases Nat.lt_or_ge c 40 with h | h
   ·rw [show ((gR k.g0 (gR k.g1 [.sl ⟨L + 1, 1⟩ 0 k.w0.length, .sl ⟨L + 1, 0⟩ 0 k.w1.length, .int .i64 k.now])) : List PV) = (gR k.g0 (gR k.g1 [])) ++ [.sl ⟨L + 1, 1⟩ 0 k.w0.length, .sl ⟨L + 1, 0⟩ 0 k.w1.length, .int .i64 k.now] from rfl, List.getElem?_append_left (by simpa using h), show ((gR k.g0 (gR k.g1 [.sl a 0 k.w0.length, .sl ⟨L + 1, 0⟩ 0 k.w1.length, .int .i64 k.now])) : List PV) = (gR k.g0 (gR k.g1 [])) ++ [.sl a 0 k.w0.length, .sl ⟨L + 1, 0⟩ 0 k.w1.length, .int .i64 k.now] from rfl, List.getElem?_append_left (by simpa using h)]
   ·rw [show ((gR k.g0 (gR k.g1 [.sl ⟨L + 1, 1⟩ 0 k.w0.length, .sl ⟨L + 1, 0⟩ 0 k.w1.length, .int .i64 k.now])) : List PV) = (gR k.g0 (gR k.g1 [.sl ⟨L + 1, 1⟩ 0 k.w0.length])) ++ [.sl ⟨L + 1, 0⟩ 0 k.w1.length, .int .i64 k.now] from rfl, List.getElem?_append_right (by simp; omega), show ((gR k.g0 (gR k.g1 [.sl a 0 k.w0.length, .sl ⟨L + 1, 0⟩ 0 k.w1.length, .int .i64 k.now])) : List PV) = (gR k.g0 (gR k.g1 [.sl a 0 k.w0.length])) ++ [.sl ⟨L + 1, 0⟩ 0 k.w1.length, .int .i64 k.now] from rfl, List.getElem?_append_right (by simp; omega)]
    rfl
 obtain ⟨hmo, hml⟩ := hms
 have rl : (ms.map Mv.row).length = ms.length := List.length_map ..
 refine vcu ⟨[some (.ptr m 0 0), some (.fs 3 (ms.map Mv.row)), none, none, some (.bool false)] ++ oz 82, [(m, .rows 33 43 true false [(gR k.g0 (gR k.g1 [.sl ⟨L + 1, 1⟩ 0 k.w0.length, .sl ⟨L + 1, 0⟩ 0 k.w1.length, .int .i64 k.now]))]), (a, .dead), (b, .dead), (⟨L + 1, 1⟩, .rows 38 4 true true (k.w0.map Pkx.row)), (⟨L + 1, 0⟩, .rows 38 4 true true (k.w1.map Pkx.row))], 1000⟩ ?_ ?_
 ·simp only [Tryz.f13, hdC, Option.getD_some, cx, m1, m2, b2, c2, a1, a2, d1, d2, d3, go_sem, meths]
  repeat refine sd2 ?_
  refine ⟨(), (so0 hF2 (h2 := by simp [subH, Tx.look, m1, m2, b2, c2, a1, a2, d1, d3]) (h3 := by simp [subK, keys, m1, m2, b1, b2, c1, c2, a1, a2, d1, d2, d3, d4]))⟩
 refine vcu ⟨[some (.ptr m 0 0), some (.fs 3 (ms.map Mv.row)), none, none, some (.bool false), some (.int .i64 0)] ++ oz 81, [(m, .rows 33 43 true false [(gR k.g0 (gR k.g1 [.sl ⟨L + 1, 1⟩ 0 k.w0.length, .sl ⟨L + 1, 0⟩ 0 k.w1.length, .int .i64 k.now]))]), (a, .dead), (b, .dead), (⟨L + 1, 1⟩, .rows 38 4 true true (k.w0.map Pkx.row)), (⟨L + 1, 0⟩, .rows 38 4 true true (k.w1.map Pkx.row))], 2000⟩ ?_ ?_
 ·simp only [Tryz.f13, hdC, tlC, Option.getD_some, cx, go_sem, meths]
  repeat refine sd2 ?_
  refine ⟨(), (so0 hF2 (h2 := by simp [subH, Tx.look, m2, b2, c1, a2, d1, d4]) (h3 := by simp [subK, keys, m1, m2, b1, b2, c1, c2, a1, a2, d1, d2, d3, d4]))⟩
 obtain ⟨l, hl⟩ : ∃ l, l = ms.take 12 := ⟨_, rfl⟩
 have hll : l.length = min ms.length 12 := by rw [hl]; simp; omega
 have hlo : ∀ m ∈ l, m.Ok := fun m h => hmo m (List.mem_of_mem_take (by rw [← hl]; exact h))
 rw [← hl] at hrun
 have mi : min (ms.length : Int) 12 = (l.length : Int) := by rw [hll]; omega
 have tk : List.take l.length (ms.map Mv.row) = l.map Mv.row := by
  rw [← List.map_take, hl]
  congr 1
  rw [List.length_take]
  rcases Nat.le_total 12 ms.length with h | h
  ·rw [Nat.min_eq_left h]
  ·rw [Nat.min_eq_right h, List.take_length, List.take_of_length_le h]
 have lm : l.length ≤ ms.length := by omega
 have lr : (l.map Mv.row).length = l.length := List.length_map ..
 refine VT.of (cxOk (L + 1)) ?_
 simp only [Tryz.f13, tlC, Option.getD_some, cx, rl, mi, lm, Int.toNat_natCast, go_sem, meths]
 repeat refine sd2 ?_
 refine loopK.intro _ _ (I := fun x : TlI => ⟨[some (.ptr m 0 0), none, none, none, some (.bool false), some (.int .i64 x.w), none, none, none, none, none, none, none, none, some (.fs 3 (l.map Mv.row)), some (.int .i64 l.length), some (.int .i64 x.i)] ++ oz 70, [(m, .rows 33 43 true false [(gR x.k.g0 (gR x.k.g1 [.sl ⟨L + 1, x.q0⟩ 0 x.k.w0.length, .sl ⟨L + 1, x.q1⟩ 0 x.k.w1.length, .int .i64 x.k.now]))]), (a, .dead), (b, .dead), (⟨L + 1, x.q0⟩, .rows 38 4 true true (x.k.w0.map Pkx.row)), (⟨L + 1, x.q1⟩, .rows 38 4 true true (x.k.w1.map Pkx.row))], 20000 + 10000 * x.i⟩) (pre := fun x => x.q0 ≠ x.q1 ∧ x.q0 < 20000 + 10000 * x.i ∧ x.q1 < 20000 + 10000 * x.i ∧ x.i ≤ l.length ∧ (∃ w, mvR (l.drop x.i) (x.k, x.w) = some (k', w)) ∧ Wy x.k (500 + x.i) ∧ x.w ≤ 5 ∧ 0 ≤ x.k.now ∧ x.k.now ≤ 1099511627776 + 255 * x.i) (μ := fun x => l.length - x.i) ⟨0, 1, 0, k, 0⟩ ⟨by simp, by simp, by simp, by simp, hrun, hwy, by simp, hnow⟩ ((so0 hF2 (h1 := by (simp only [go_sem, subT, and_self, Nat.sub_zero, tk, lr, Int.natCast_zero]; try trivial)) (h2 := by simp [subH, Tx.look, m2, b2, c1, a2, d1, d4]) (h3 := by simp [subK, keys, m1, m2, b1, b2, c1, c2, a1, a2, d1, d2, d3, d4]))) ?_
 rintro ⟨i, q0, q1, ⟨g0, g1, w0, w1, now⟩, w⟩ ⟨hq, hq0, hq1, hi, hrun, hwy, hw5, hn0, hn1⟩
 simp only at hq hq0 hq1 hi hrun hwy hw5 hn0 hn1 ⊢
 have u0 : (q0 = q1) = False := eq_false hq
 have u1 : (q1 = q0) = False := eq_false (Ne.symm hq)
 have v01 : (q0 == q1) = false := by simp [hq]
 have xq0 : ∀ c, (20000 + (10000 * i + c) = q0) = False := fun c => eq_false (by omega)
 have xq1 : ∀ c, (20000 + (10000 * i + c) = q1) = False := fun c => eq_false (by omega)
 have sq0 : ∀ c, (q0 = 20000 + (10000 * i + c)) = False := fun c => eq_false (by omega)
 have sq1 : ∀ c, (q1 = 20000 + (10000 * i + c)) = False := fun c => eq_false (by omega)
 have nt : (!true) = false := rfl
 have l12 : l.length ≤ 12 := by omega
 by_cases hE : i = l.length
 ·subst hE
  have h1 : decide ((l.length : Int) < (l.length : Int)) = false := dF (by omega)
  rw [List.drop_length] at hrun
  obtain ⟨w', hw'⟩ := hrun
  obtain ⟨rfl, _⟩ : (⟨g0, g1, w0, w1, now⟩ : Tk) = k' ∧ w = w' := by simpa [mvR] using hw'
  clear hw'
  simp only [h1, Nat.add_assoc, go_sem]
  repeat refine sd2 ?_
  refine .now (PostN.val [q0, q1] (.inr rfl) (by simp [u0]) (p := True) (v0 := .bool true) ?_ trivial ?_ ?_ ⟨by omega, ?_, by omega, ?_, by omega, ?_, Nat.le_refl _, ?_, Nat.le_refl _, ?_, trivial⟩ ?_)
  ·simp only [resVal, resVals, resVal1, one, go_sem]
  ·simp [nmA]
  ·simp [Tx.rn]
  ·rw [kp_out (hm0.imp id fun h => .inl h.2)]
   exact .ren (by simp [Tx.look]; rfl) (by simp [rowsNm, nmA, nmAL, Dn]) (by simp [Tx.rn, Tx.rnL]; try simp [sg, List.idxOf_cons, v01]; try rfl)
  ·exact BN_dead
  ·exact BN_dead
  ·rw [kp_at0 (by simp)]
   exact .pure (by simp [Tx.look, m2, b2, a2])
  ·rw [kp_at (j := 1) (by simp)]
   exact .pure (by simp [Tx.look, m2, b2, a2, u1])
  ·simp [UpdAll, keys]
 have hlt : i < l.length := by omega
 have h1 : decide ((i : Int) < (l.length : Int)) = true := dT (by omega)
 obtain ⟨mv, hmv⟩ : ∃ mv, mv = l[i] := ⟨_, rfl⟩
 have gr : (l.map Mv.row).getD i [] = [.int .u8 mv.what, .int .u8 mv.which, .int .u8 mv.later] := by rw [List.getD_eq_getElem?_getD, List.getElem?_map, List.getElem?_eq_getElem hlt, hmv]; rfl
 obtain ⟨ok1, ok2, ok3⟩ : mv.Ok := hlo mv (by rw [hmv]; exact List.getElem_mem _)
 rw [List.drop_eq_getElem_cons hlt, ← hmv] at hrun
 obtain ⟨wF, hrun⟩ := hrun
 obtain ⟨k1, w9, hS, hR⟩ : ∃ k1 w9, mvS (⟨g0, g1, w0, w1, now⟩, w) mv = some (k1, w9) ∧ mvR (l.drop (i + 1)) (k1, w9) = some (k', wF) := by
  have hr2 : (mvS (⟨g0, g1, w0, w1, now⟩, w) mv).bind (mvR (l.drop (i + 1))) = some (k', wF) := hrun
  cases hS : mvS (⟨g0, g1, w0, w1, now⟩, w) mv with
  | none => rw [hS] at hr2; cases hr2
  | some x => rw [hS] at hr2; exact ⟨x.1, x.2, rfl, hr2⟩
 have wl0 : w0.length ≤ 700 := by have h := hwy.1; simp only at h; omega
 have wl1 : w1.length ≤ 700 := by have h := hwy.2.1; simp only at h; omega
 have ml0 : (w0.map Pkx.row).length = w0.length := List.length_map ..
 have ml1 : (w1.map Pkx.row).length = w1.length := List.length_map ..
 obtain ⟨wt, wh, lt⟩ := mv
 simp only at gr ok1 ok2 ok3
 have t4 : (wt : Int).tmod 4 = ((wt % 4 : Nat) : Int) := by rw [Int.tmod_eq_emod_of_nonneg (by omega)]; rfl
 have t2 : (wh : Int).tmod 2 = ((wh % 2 : Nat) : Int) := by rw [Int.tmod_eq_emod_of_nonneg (by omega)]; rfl
 have d2q : (wh : Int).tdiv 2 = ((wh / 2 : Nat) : Int) := by rw [Int.tdiv_eq_ediv_of_nonneg (by omega)]; rfl
 have c1w : IntKind.i64.wrap ((wh / 2 : Nat) : Int) = ((wh / 2 : Nat) : Int) := wi64 (by omega)
 have c2w : IntKind.i64.wrap (lt : Int) = (lt : Int) := wi64 (by omega)
 have c3w : IntKind.u8.wrap ((wh / 2 : Nat) : Int) = ((wh / 2 : Nat) : Int) := by simp [IntKind.wrap, IntKind.signed, IntKind.bits]; omega
 have c4w : ((w : Int) == 5) = decide (w = 5) := by
  by_cases h : w = 5
  ·subst h; rfl
  ·rw [decide_eq_false h]; simp; omega
 clear hrun hlo hmo
 have hside : wh % 2 = 0 ∨ wh % 2 = 1 := by omega
 rcases hside with hs | hs
 ·rw [hs] at t2
  have c5w : IntKind.i64.wrap ((0 : Nat) : Int) = 0 := by decide
  have c6w : IntKind.i64.wrap 0 = 0 := by decide
  rcases mvS_cases hS (s := false) (by show (wh % 2 == 1) = false; rw [hs]; rfl) with ⟨h4, h5, rfl, rfl⟩ | ⟨h4, h5, rfl, g, o, hst, rfl⟩ | ⟨h4, hz, rfl, rfl⟩ | ⟨h4, rfl, hlt2, ⟨p, hp⟩, rfl⟩ | ⟨h4, rfl, at1, p, g, o, ha, hlt2, hp, hst, rfl⟩
  ·rw [h4] at t4
   subst h5
   have e1 : (((0 : Nat) : Int) == 0) = true := rfl
   have e2 : ((((5 : Nat)) : Int) == 5) = true := rfl
   have e1' : ((0 : Int) == 0) = true := rfl
   have e2' : ((5 : Int) == 5) = true := rfl
   simp only [Int.toNat_natCast, gr, h1, t4, t2, c2w, lr, nt, c6w, Int.natCast_zero, e2, e1', xq0, xq1, m1, m2, b2, c2, a2, d2, Nat.add_assoc, Nat.add_zero, go_sem]
   repeat refine sd2 ?_
   refine ⟨okDyn_num (fun x => if x = m then 1 else 0) (by simp only [numF, List.map, m2, if_true, if_false]; kernel_rfl), ?_⟩
   repeat refine sd2 ?_
   refine ⟨⟨i + 1, q0, q1, Tk.tm ⟨g0, g1, w0, w1, now⟩ (now + lt), 5⟩, ⟨by simp only []; omega, by simp only []; omega, by simp only []; omega, by simp only []; omega, ⟨wF, hR⟩, by have := hwy.le (show 500 + i ≤ 500 + (i + 1) by omega); exact this, by simp only []; omega, by simp only [Tk.tm]; omega, by simp only [Tk.tm]; omega⟩, by simp only []; omega, ?_⟩
   exact (so0 hF2 (h1 := by (simp only [go_sem, subT, and_self, Int.natCast_add, Int.natCast_one]; try trivial)) (h2 := by simp [subH, Tx.look, m2, b2, c1, a2, d1, d4, Tk.tm, u1]) (h3 := by simp [subK, keys, m1, m2, b1, b2, c1, c2, a1, a2, d1, d2, d3, d4]) (h4 := by simp only []; omega))
  ·rw [h4] at t4
   have e1 : (((0 : Nat) : Int) == 0) = true := rfl
   have e1' : ((0 : Int) == 0) = true := rfl
   have e2 : ((w : Int) == 5) = false := by rw [c4w]; exact decide_eq_false h5
   simp only [Tk.g] at hst
   have htm := step_tim hst
   have ho := outs01 hst
   have hw2 := (hwy.tm (max (now + lt) g0.due)).ev (s := false) (g := g) (v := w0) (o := o) (fun x hx => hx) (Nat.le_refl _) ho
   rcases ho with rfl | ⟨x, rfl, _⟩
   ·simp only [Int.toNat_natCast, gr, h1, t4, t2, c2w, lr, c6w, Int.natCast_zero, e2, e1', xq0, xq1, m1, m2, b2, c2, a2, d2, Nat.add_assoc, Nat.add_zero, go_sem]
    repeat refine sd2 ?_
    refine ⟨okDyn_num (fun x => if x = m then 1 else 0) (by simp only [numF, List.map, m2, if_true, if_false]; kernel_rfl), ?_⟩
    repeat refine sd2 ?_
    refine ⟨okDyn_num (fun x => if x = m then 1 else 0) (by simp only [numF, List.map, if_true]; kernel_rfl), ?_⟩
    repeat refine sd2 ?_
    refine CallVC.gen0 (args2 := [.ptr m 0 0, .int .i64 0, .agg (.int .i64 4 :: pk0.row)]) (by simp [pk0, Pkx.row, WkL, Wk]) (by simp [wkNL, wkN, pk0, Pkx.row]) (does0Z_ok (L := L + 1) m (.inl (by omega)) ⟨g0, g1, w0, w1, max (now + lt) g0.due⟩ 4 pk0 (by simp [pk0]) (by simp [pk0]) (.sl ⟨L + 1, q0⟩ 0 w0.length) (outs_sl (Nat.le_refl _)) ⟨L + 1, q1⟩ (Nat.le_refl _) g hst (by simp [m2]) (by simp only []; omega) (by simp [m2, b2, a2, u1]) (by simp [Tk.row])) ?_
    simp only [Tk.row, List.nil_append, nt, m1, c2, d2, Nat.add_assoc, go_sem]
    repeat refine sd2 ?_
    refine ⟨⟨i + 1, q0, q1, Tk.ev (Tk.tm ⟨g0, g1, w0, w1, now⟩ (max (now + lt) g0.due)) false g w0 [], w + 1⟩, ⟨by simp only []; omega, by simp only []; omega, by simp only []; omega, by simp only []; omega, ⟨wF, hR⟩, hw2, by simp only []; omega, by simp only [Tk.ev, Tk.tm]; omega, by simp only [Tk.ev, Tk.tm]; omega⟩, by simp only []; omega, ?_⟩
    exact (so0 hF2 (h1 := by (simp only [go_sem, subT, and_self, Int.natCast_add, Int.natCast_one]; try trivial)) (h2 := by simp [subH, Tx.look, m2, b2, c1, a2, d1, d4, Tk.ev, Tk.tm, List.append_nil, u1]) (h3 := by simp [subK, keys, m1, m2, b1, b2, c1, c2, a1, a2, d1, d2, d3, d4]) (h4 := by simp only []; omega))
   ·simp only [Int.toNat_natCast, gr, h1, t4, t2, c2w, lr, c6w, Int.natCast_zero, e2, e1', xq0, xq1, m1, m2, b2, c2, a2, d2, Nat.add_assoc, Nat.add_zero, go_sem]
    repeat refine sd2 ?_
    refine ⟨okDyn_num (fun x => if x = m then 1 else 0) (by simp only [numF, List.map, m2, if_true, if_false]; kernel_rfl), ?_⟩
    repeat refine sd2 ?_
    refine ⟨okDyn_num (fun x => if x = m then 1 else 0) (by simp only [numF, List.map, if_true]; kernel_rfl), ?_⟩
    repeat refine sd2 ?_
    refine CallVC.gen0 (args2 := [.ptr m 0 0, .int .i64 0, .agg (.int .i64 4 :: pk0.row)]) (by simp [pk0, Pkx.row, WkL, Wk]) (by simp [wkNL, wkN, pk0, Pkx.row]) (does0P_ok (L := L + 1) m (.inl (by omega)) ⟨g0, g1, w0, w1, max (now + lt) g0.due⟩ 4 pk0 (by simp [pk0]) (by simp [pk0]) (.sl ⟨L + 1, q0⟩ 0 w0.length) (outs_sl (Nat.le_refl _)) ⟨L + 1, q1⟩ (Nat.le_refl _) g x hst (by simp [m2]) (by simp only []; omega) (by simp [m2, b2, a2, u1]) (by simp [Tk.row])) ?_
    simp only [Tk.row, List.nil_append, nt, u1, xq0, xq1, sq1, m1, m2, b2, c2, a2, d2, kS3, Nat.add_assoc, go_sem]
    repeat refine sd2 ?_
    refine ⟨⟨i + 1, q0, 20000 + (10000 * i + 1856), Tk.ev (Tk.tm ⟨g0, g1, w0, w1, now⟩ (max (now + lt) g0.due)) false g w0 [x], w + 1⟩, ⟨by simp only []; omega, by simp only []; omega, by simp only []; omega, by simp only []; omega, ⟨wF, hR⟩, hw2, by simp only []; omega, by simp only [Tk.ev, Tk.tm]; omega, by simp only [Tk.ev, Tk.tm]; omega⟩, by simp only []; omega, ?_⟩
    exact (so0 hF2 (h1 := by (simp only [go_sem, subT, and_self, Int.natCast_add, Int.natCast_one]; try trivial)) (h2 := by simp [subH, Tx.look, m2, b2, c1, a2, d1, d4, Tk.ev, Tk.tm, xq0, xq1, List.length_append, List.length_cons, List.length_nil, Nat.zero_add]) (h3 := by simp [subK, keys, m1, m2, b1, b2, c1, c2, a1, a2, d1, d2, d3, d4]) (h4 := by simp only []; omega))
  ·have e0 : w0 = [] := hz
   simp only at h4
   have e1 : (((wt % 4 : Nat) : Int) == 0) = false := by simp; omega
   obtain ⟨kp, hkp⟩ : ∃ b, b = (((wt % 4 : Nat) : Int) == 3) := ⟨_, rfl⟩
   obtain ⟨lo, hlo⟩ : ∃ b, b = (((wt % 4 : Nat) : Int) == 2) := ⟨_, rfl⟩
   have ez : w0.length = 0 := by rw [e0]; rfl
   simp only [Int.toNat_natCast, gr, h1, t4, t2, d2q, c1w, c2w, c3w, lr, nt, c6w, Int.natCast_zero, e1, ← hkp, ← hlo, xq0, xq1, m1, m2, b2, c2, a2, d2, Nat.add_assoc, Nat.add_zero, go_sem]
   repeat refine sd2 ?_
   refine ⟨okDyn_num (fun x => if x = m then 1 else 0) (by simp only [numF, List.map, m2, if_true, if_false]; kernel_rfl), ?_⟩
   repeat refine sd2 ?_
   refine CallVC.same (takes0E_ok (L := L + 1) m (by omega) ⟨g0, g1, w0, w1, now + lt⟩ _ kp lo ⟨L + 1, q0⟩ ⟨_, by simp [m2, b2, a2]; rfl⟩ (.sl ⟨L + 1, q1⟩ 0 w1.length) (by simp [Tk.row, ez])) ?_
   simp only [nt, Nat.add_assoc, go_sem]
   repeat refine sd2 ?_
   refine ⟨⟨i + 1, q0, q1, Tk.tm ⟨g0, g1, w0, w1, now⟩ (now + lt), w9⟩, ⟨by simp only []; omega, by simp only []; omega, by simp only []; omega, by simp only []; omega, ⟨wF, hR⟩, by have := hwy.le (show 500 + i ≤ 500 + (i + 1) by omega); exact this, by simp only []; omega, by simp only [Tk.tm]; omega, by simp only [Tk.tm]; omega⟩, by simp only []; omega, ?_⟩
   exact (so0 hF2 (h1 := by (simp only [go_sem, subT, and_self, Int.natCast_add, Int.natCast_one]; try trivial)) (h2 := by simp [subH, Tx.look, m2, b2, c1, a2, d1, d4, Tk.tm, u1]) (h3 := by simp [subK, keys, m1, m2, b1, b2, c1, c2, a1, a2, d1, d2, d3, d4]) (h4 := by simp only []; omega))
  ·rw [h4] at t4
   simp only [Tk.w] at hlt2 hp
   obtain ⟨at1, ha⟩ : ∃ a, a = wh / 2 % w0.length := ⟨_, rfl⟩
   simp only [Tk.w, Tk.g, ← ha] at hlt2 hp hR ⊢
   have e1 : (((2 : Nat) : Int) == 0) = false := rfl
   have e2 : (((2 : Nat) : Int) == 3) = false := rfl
   have e3 : (((2 : Nat) : Int) == 2) = true := rfl
   have e1' : ((2 : Int) == 0) = false := rfl
   have e2' : ((2 : Int) == 3) = false := rfl
   have e3' : ((2 : Int) == 2) = true := rfl
   have hat : (((wh / 2 : Nat) : Int)).tmod (w0.length : Int) = at1 := by rw [ha, Int.tmod_eq_emod_of_nonneg (by omega)]; rfl
   have her : (w0.eraseIdx at1).length = w0.length - 1 := List.length_eraseIdx_of_lt hlt2
   simp only [Int.toNat_natCast, gr, h1, t4, t2, d2q, c1w, c2w, c3w, lr, nt, c6w, Int.natCast_zero, e1, e2, e3, xq0, xq1, m1, m2, b2, c2, a2, d2, Nat.add_assoc, Nat.add_zero, go_sem]
   repeat refine sd2 ?_
   refine ⟨okDyn_num (fun x => if x = m then 1 else 0) (by simp only [numF, List.map, m2, if_true, if_false]; kernel_rfl), ?_⟩
   repeat refine sd2 ?_
   refine CallVC.same (takes0FTL_ok (L := L + 1) m (.inl (by omega)) ⟨g0, g1, w0, w1, now + lt⟩ ⟨L + 1, q0⟩ (Nat.le_refl _) (by simp [m2]) [] (by simp [m2, b2, a2]) _ at1 hat hlt2 (by simp only []; omega) p hp (.sl ⟨L + 1, q1⟩ 0 w1.length) (outs_sl (Nat.le_refl _)) (by simp [Tk.row])) ?_
   simp only [Tk.row, List.nil_append, nt, xq0, xq1, m1, m2, b2, c2, a2, d2, kS3, Nat.add_assoc, go_sem]
   repeat refine sd2 ?_
   have hw2 := (hwy.tm (now + lt)).ev (s := false) (g := g0) (v := w0.eraseIdx at1) (o := []) (fun x hx => List.mem_of_mem_eraseIdx hx) (List.length_eraseIdx_le _ _) (.inl rfl)
   refine ⟨⟨i + 1, 20000 + (10000 * i + 1536), q1, Tk.ev (Tk.tm ⟨g0, g1, w0, w1, now⟩ (now + lt)) false g0 (w0.eraseIdx at1) [], w9⟩, ⟨by simp only []; omega, by simp only []; omega, by simp only []; omega, by simp only []; omega, ⟨wF, hR⟩, hw2, by simp only []; omega, by simp only [Tk.ev, Tk.tm]; omega, by simp only [Tk.ev, Tk.tm]; omega⟩, by simp only []; omega, ?_⟩
   exact (so0 hF2 (h1 := by (simp only [go_sem, subT, and_self, Int.natCast_add, Int.natCast_one]; try trivial)) (h2 := by simp [subH, Tx.look, m2, b2, c1, a2, d1, d4, Tk.ev, Tk.tm, List.append_nil, u1, xq0, xq1, her]) (h3 := by simp [subK, keys, m1, m2, b1, b2, c1, c2, a1, a2, d1, d2, d3, d4]) (h4 := by simp only []; omega))
  ·simp only [Tk.w, Tk.g] at hlt2 hp hst ha hR h4
   have hsm : p.sm := (hwy.w false).2 p (List.mem_of_getElem? hp)
   have ho := outs01 hst
   have hat : (((wh / 2 : Nat) : Int)).tmod (w0.length : Int) = at1 := by rw [ha, Int.tmod_eq_emod_of_nonneg (by omega)]; rfl
   have her : (w0.eraseIdx at1).length = w0.length - 1 := List.length_eraseIdx_of_lt hlt2
   rcases h4 with h4 | h4
   ·rw [h4] at t4
    rw [if_neg (by omega)] at hR
    have e1 : (((1 : Nat) : Int) == 0) = false := rfl
    have e2 : (((1 : Nat) : Int) == 3) = false := rfl
    have e3 : (((1 : Nat) : Int) == 2) = false := rfl
    have e1' : ((1 : Int) == 0) = false := rfl
    have e2' : ((1 : Int) == 3) = false := rfl
    have e3' : ((1 : Int) == 2) = false := rfl
    have hw2 := (hwy.tm (now + lt)).ev (s := false) (g := g) (v := (w0.eraseIdx at1)) (o := o) (fun x hx => List.mem_of_mem_eraseIdx hx) (List.length_eraseIdx_le _ _) ho
    rcases ho with rfl | ⟨x, rfl, _⟩
    ·simp only [Int.toNat_natCast, gr, h1, t4, t2, d2q, c1w, c2w, c3w, lr, nt, c6w, Int.natCast_zero, Int.natCast_one, e1', e2', e3', xq0, xq1, m1, m2, b2, c2, a2, d2, Nat.add_assoc, Nat.add_zero, go_sem]
     repeat refine sd2 ?_
     refine ⟨okDyn_num (fun x => if x = m then 1 else 0) (by simp only [numF, List.map, m2, if_true, if_false]; kernel_rfl), ?_⟩
     repeat refine sd2 ?_
     refine CallVC.same (takes0FFZ_ok (L := L + 1) m (.inl (by omega)) ⟨g0, g1, w0, w1, now + lt⟩ ⟨L + 1, q0⟩ (Nat.le_refl _) (by simp [m2]) [] (by simp [m2, b2, a2]) _ at1 hat hlt2 (by simp only []; omega) p hp hsm g hst ⟨L + 1, q1⟩ (Nat.le_refl _) (by simp [m2]) (by simp only []; omega) (by simp [m2, b2, a2, u1]) (by simp [Tk.row])) ?_
     simp only [Tk.row, List.nil_append, nt, xq0, xq1, m1, m2, b2, c2, a2, d2, kS3, Nat.add_assoc, go_sem]
     repeat refine sd2 ?_
     refine ⟨⟨i + 1, 20000 + (10000 * i + 1536), q1, Tk.ev (Tk.tm ⟨g0, g1, w0, w1, now⟩ (now + lt)) false g (w0.eraseIdx at1) [], w9⟩, ⟨by simp only []; omega, by simp only []; omega, by simp only []; omega, by simp only []; omega, ⟨wF, hR⟩, hw2, by simp only []; omega, by simp only [Tk.ev, Tk.tm]; omega, by simp only [Tk.ev, Tk.tm]; omega⟩, by simp only []; omega, ?_⟩
     exact (so0 hF2 (h1 := by (simp only [go_sem, subT, and_self, Int.natCast_add, Int.natCast_one]; try trivial)) (h2 := by simp [subH, Tx.look, m2, b2, c1, a2, d1, d4, Tk.ev, Tk.tm, List.append_nil, u1, xq0, xq1, her]) (h3 := by simp [subK, keys, m1, m2, b1, b2, c1, c2, a1, a2, d1, d2, d3, d4]) (h4 := by simp only []; omega))
    ·simp only [Int.toNat_natCast, gr, h1, t4, t2, d2q, c1w, c2w, c3w, lr, nt, c6w, Int.natCast_zero, Int.natCast_one, e1', e2', e3', xq0, xq1, m1, m2, b2, c2, a2, d2, Nat.add_assoc, Nat.add_zero, go_sem]
     repeat refine sd2 ?_
     refine ⟨okDyn_num (fun x => if x = m then 1 else 0) (by simp only [numF, List.map, m2, if_true, if_false]; kernel_rfl), ?_⟩
     repeat refine sd2 ?_
     refine CallVC.same (takes0FFP_ok (L := L + 1) m (.inl (by omega)) ⟨g0, g1, w0, w1, now + lt⟩ ⟨L + 1, q0⟩ (Nat.le_refl _) (by simp [m2]) [] (by simp [m2, b2, a2]) _ at1 hat hlt2 (by simp only []; omega) p hp hsm g x hst ⟨L + 1, q1⟩ (Nat.le_refl _) (by simp [m2]) (by simp only []; omega) (by simp [m2, b2, a2, u1]) (by simp [Tk.row])) ?_
     simp only [Tk.row, List.nil_append, nt, u1, xq0, xq1, sq1, m1, m2, b2, c2, a2, d2, kS3, Nat.add_assoc, go_sem]
     repeat refine sd2 ?_
     refine ⟨⟨i + 1, 20000 + (10000 * i + 1536), 20000 + (10000 * i + 1537), Tk.ev (Tk.tm ⟨g0, g1, w0, w1, now⟩ (now + lt)) false g (w0.eraseIdx at1) [x], w9⟩, ⟨by simp only []; omega, by simp only []; omega, by simp only []; omega, by simp only []; omega, ⟨wF, hR⟩, hw2, by simp only []; omega, by simp only [Tk.ev, Tk.tm]; omega, by simp only [Tk.ev, Tk.tm]; omega⟩, by simp only []; omega, ?_⟩
     exact (so0 hF2 (h1 := by (simp only [go_sem, subT, and_self, Int.natCast_add, Int.natCast_one]; try trivial)) (h2 := by simp [subH, Tx.look, m2, b2, c1, a2, d1, d4, Tk.ev, Tk.tm, xq0, xq1, her, List.length_append, List.length_cons, List.length_nil, Nat.zero_add]) (h3 := by simp [subK, keys, m1, m2, b1, b2, c1, c2, a1, a2, d1, d2, d3, d4]) (h4 := by simp only []; omega))
   ·rw [h4] at t4
    rw [if_pos h4] at hR
    have e1 : (((3 : Nat) : Int) == 0) = false := rfl
    have e2 : (((3 : Nat) : Int) == 3) = true := rfl
    have e3 : (((3 : Nat) : Int) == 2) = false := rfl
    have e1' : ((3 : Int) == 0) = false := rfl
    have e2' : ((3 : Int) == 3) = true := rfl
    have e3' : ((3 : Int) == 2) = false := rfl
    have hw2 := (hwy.tm (now + lt)).ev (s := false) (g := g) (v := w0) (o := o) (fun x hx => hx) (Nat.le_refl _) ho
    rcases ho with rfl | ⟨x, rfl, _⟩
    ·simp only [Int.toNat_natCast, gr, h1, t4, t2, d2q, c1w, c2w, c3w, lr, nt, c6w, Int.natCast_zero, e1, e2, e3, xq0, xq1, m1, m2, b2, c2, a2, d2, Nat.add_assoc, Nat.add_zero, go_sem]
     repeat refine sd2 ?_
     refine ⟨okDyn_num (fun x => if x = m then 1 else 0) (by simp only [numF, List.map, m2, if_true, if_false]; kernel_rfl), ?_⟩
     repeat refine sd2 ?_
     refine CallVC.same (takes0TFZ_ok (L := L + 1) m (.inl (by omega)) ⟨g0, g1, w0, w1, now + lt⟩ ⟨L + 1, q0⟩ (Nat.le_refl _) (by simp [m2]) [] (by simp [m2, b2, a2]) _ at1 hat hlt2 (by simp only []; omega) p hp hsm g hst ⟨L + 1, q1⟩ (Nat.le_refl _) (by simp [m2]) (by simp only []; omega) (by simp [m2, b2, a2, u1]) (by simp [Tk.row])) ?_
     simp only [Tk.row, List.nil_append, nt, m1, c2, d2, Nat.add_assoc, Nat.add_zero, go_sem]
     repeat refine sd2 ?_
     refine ⟨⟨i + 1, q0, q1, Tk.ev (Tk.tm ⟨g0, g1, w0, w1, now⟩ (now + lt)) false g w0 [], w9⟩, ⟨by simp only []; omega, by simp only []; omega, by simp only []; omega, by simp only []; omega, ⟨wF, hR⟩, hw2, by simp only []; omega, by simp only [Tk.ev, Tk.tm]; omega, by simp only [Tk.ev, Tk.tm]; omega⟩, by simp only []; omega, ?_⟩
     exact (so0 hF2 (h1 := by (simp only [go_sem, subT, and_self, Int.natCast_add, Int.natCast_one]; try trivial)) (h2 := by simp [subH, Tx.look, m2, b2, c1, a2, d1, d4, Tk.ev, Tk.tm, List.append_nil, u1]) (h3 := by simp [subK, keys, m1, m2, b1, b2, c1, c2, a1, a2, d1, d2, d3, d4]) (h4 := by simp only []; omega))
    ·simp only [Int.toNat_natCast, gr, h1, t4, t2, d2q, c1w, c2w, c3w, lr, nt, c6w, Int.natCast_zero, e1, e2, e3, xq0, xq1, m1, m2, b2, c2, a2, d2, Nat.add_assoc, Nat.add_zero, go_sem]
     repeat refine sd2 ?_
     refine ⟨okDyn_num (fun x => if x = m then 1 else 0) (by simp only [numF, List.map, m2, if_true, if_false]; kernel_rfl), ?_⟩
     repeat refine sd2 ?_
     refine CallVC.same (takes0TFP_ok (L := L + 1) m (.inl (by omega)) ⟨g0, g1, w0, w1, now + lt⟩ ⟨L + 1, q0⟩ (Nat.le_refl _) (by simp [m2]) [] (by simp [m2, b2, a2]) _ at1 hat hlt2 (by simp only []; omega) p hp hsm g x hst ⟨L + 1, q1⟩ (Nat.le_refl _) (by simp [m2]) (by simp only []; omega) (by simp [m2, b2, a2, u1]) (by simp [Tk.row])) ?_
     simp only [Tk.row, List.nil_append, nt, u1, xq0, xq1, sq1, m1, m2, b2, c2, a2, d2, kS3, Nat.add_assoc, go_sem]
     repeat refine sd2 ?_
     refine ⟨⟨i + 1, q0, 20000 + (10000 * i + 1536), Tk.ev (Tk.tm ⟨g0, g1, w0, w1, now⟩ (now + lt)) false g w0 [x], w9⟩, ⟨by simp only []; omega, by simp only []; omega, by simp only []; omega, by simp only []; omega, ⟨wF, hR⟩, hw2, by simp only []; omega, by simp only [Tk.ev, Tk.tm]; omega, by simp only [Tk.ev, Tk.tm]; omega⟩, by simp only []; omega, ?_⟩
     exact (so0 hF2 (h1 := by (simp only [go_sem, subT, and_self, Int.natCast_add, Int.natCast_one]; try trivial)) (h2 := by simp [subH, Tx.look, m2, b2, c1, a2, d1, d4, Tk.ev, Tk.tm, xq0, xq1, List.length_append, List.length_cons, List.length_nil, Nat.zero_add]) (h3 := by simp [subK, keys, m1, m2, b1, b2, c1, c2, a1, a2, d1, d2, d3, d4]) (h4 := by simp only []; omega))
 ·rw [hs] at t2
  have c5w : IntKind.i64.wrap ((1 : Nat) : Int) = 1 := by decide
  have c6w : IntKind.i64.wrap 1 = 1 := by decide
  rcases mvS_cases hS (s := true) (by show (wh % 2 == 1) = true; rw [hs]; rfl) with ⟨h4, h5, rfl, rfl⟩ | ⟨h4, h5, rfl, g, o, hst, rfl⟩ | ⟨h4, hz, rfl, rfl⟩ | ⟨h4, rfl, hlt2, ⟨p, hp⟩, rfl⟩ | ⟨h4, rfl, at1, p, g, o, ha, hlt2, hp, hst, rfl⟩
  ·rw [h4] at t4
   subst h5
   have e1 : (((0 : Nat) : Int) == 0) = true := rfl
   have e2 : ((((5 : Nat)) : Int) == 5) = true := rfl
   have e1' : ((0 : Int) == 0) = true := rfl
   have e2' : ((5 : Int) == 5) = true := rfl
   simp only [Int.toNat_natCast, gr, h1, t4, t2, c2w, lr, nt, c6w, Int.natCast_zero, Int.natCast_one, e2, e1', xq0, xq1, m1, m2, b2, c2, a2, d2, Nat.add_assoc, Nat.add_zero, go_sem]
   repeat refine sd2 ?_
   refine ⟨okDyn_num (fun x => if x = m then 1 else 0) (by simp only [numF, List.map, m2, if_true, if_false]; kernel_rfl), ?_⟩
   repeat refine sd2 ?_
   refine ⟨⟨i + 1, q0, q1, Tk.tm ⟨g0, g1, w0, w1, now⟩ (now + lt), 5⟩, ⟨by simp only []; omega, by simp only []; omega, by simp only []; omega, by simp only []; omega, ⟨wF, hR⟩, by have := hwy.le (show 500 + i ≤ 500 + (i + 1) by omega); exact this, by simp only []; omega, by simp only [Tk.tm]; omega, by simp only [Tk.tm]; omega⟩, by simp only []; omega, ?_⟩
   exact (so0 hF2 (h1 := by (simp only [go_sem, subT, and_self, Int.natCast_add, Int.natCast_one]; try trivial)) (h2 := by simp [subH, Tx.look, m2, b2, c1, a2, d1, d4, Tk.tm, u1]) (h3 := by simp [subK, keys, m1, m2, b1, b2, c1, c2, a1, a2, d1, d2, d3, d4]) (h4 := by simp only []; omega))
  ·rw [h4] at t4
   have e1 : (((0 : Nat) : Int) == 0) = true := rfl
   have e1' : ((0 : Int) == 0) = true := rfl
   have e2 : ((w : Int) == 5) = false := by rw [c4w]; exact decide_eq_false h5
   simp only [Tk.g] at hst
   have htm := step_tim hst
   have ho := outs01 hst
   have hw2 := (hwy.tm (max (now + lt) g1.due)).ev (s := true) (g := g) (v := w1) (o := o) (fun x hx => hx) (Nat.le_refl _) ho
   rcases ho with rfl | ⟨x, rfl, _⟩
   ·simp only [Int.toNat_natCast, gr, h1, t4, t2, c2w, lr, c6w, Int.natCast_zero, Int.natCast_one, e2, e1', xq0, xq1, m1, m2, b2, c2, a2, d2, Nat.add_assoc, Nat.add_zero, go_sem]
    repeat refine sd2 ?_
    refine ⟨okDyn_num (fun x => if x = m then 1 else 0) (by simp only [numF, List.map, m2, if_true, if_false]; kernel_rfl), ?_⟩
    repeat refine sd2 ?_
    refine ⟨okDyn_num (fun x => if x = m then 1 else 0) (by simp only [numF, List.map, if_true]; kernel_rfl), ?_⟩
    repeat refine sd2 ?_
    refine CallVC.gen0 (args2 := [.ptr m 0 0, .int .i64 1, .agg (.int .i64 4 :: pk0.row)]) (by simp [pk0, Pkx.row, WkL, Wk]) (by simp [wkNL, wkN, pk0, Pkx.row]) (does1Z_ok (L := L + 1) m (.inl (by omega)) ⟨g0, g1, w0, w1, max (now + lt) g1.due⟩ 4 pk0 (by simp [pk0]) (by simp [pk0]) (.sl ⟨L + 1, q1⟩ 0 w1.length) (outs_sl (Nat.le_refl _)) ⟨L + 1, q0⟩ (Nat.le_refl _) g hst (by simp [m2]) (by simp only []; omega) (by simp [m2, b2, a2]) (by simp [Tk.row])) ?_
    simp only [Tk.row, List.nil_append, nt, m1, c2, d2, Nat.add_assoc, go_sem]
    repeat refine sd2 ?_
    refine ⟨⟨i + 1, q0, q1, Tk.ev (Tk.tm ⟨g0, g1, w0, w1, now⟩ (max (now + lt) g1.due)) true g w1 [], w + 1⟩, ⟨by simp only []; omega, by simp only []; omega, by simp only []; omega, by simp only []; omega, ⟨wF, hR⟩, hw2, by simp only []; omega, by simp only [Tk.ev, Tk.tm]; omega, by simp only [Tk.ev, Tk.tm]; omega⟩, by simp only []; omega, ?_⟩
    exact (so0 hF2 (h1 := by (simp only [go_sem, subT, and_self, Int.natCast_add, Int.natCast_one]; try trivial)) (h2 := by simp [subH, Tx.look, m2, b2, c1, a2, d1, d4, Tk.ev, Tk.tm, List.append_nil, u1]) (h3 := by simp [subK, keys, m1, m2, b1, b2, c1, c2, a1, a2, d1, d2, d3, d4]) (h4 := by simp only []; omega))
   ·simp only [Int.toNat_natCast, gr, h1, t4, t2, c2w, lr, c6w, Int.natCast_zero, Int.natCast_one, e2, e1', xq0, xq1, m1, m2, b2, c2, a2, d2, Nat.add_assoc, Nat.add_zero, go_sem]
    repeat refine sd2 ?_
    refine ⟨okDyn_num (fun x => if x = m then 1 else 0) (by simp only [numF, List.map, m2, if_true, if_false]; kernel_rfl), ?_⟩
    repeat refine sd2 ?_
    refine ⟨okDyn_num (fun x => if x = m then 1 else 0) (by simp only [numF, List.map, if_true]; kernel_rfl), ?_⟩
    repeat refine sd2 ?_
    refine CallVC.gen0 (args2 := [.ptr m 0 0, .int .i64 1, .agg (.int .i64 4 :: pk0.row)]) (by simp [pk0, Pkx.row, WkL, Wk]) (by simp [wkNL, wkN, pk0, Pkx.row]) (does1P_ok (L := L + 1) m (.inl (by omega)) ⟨g0, g1, w0, w1, max (now + lt) g1.due⟩ 4 pk0 (by simp [pk0]) (by simp [pk0]) (.sl ⟨L + 1, q1⟩ 0 w1.length) (outs_sl (Nat.le_refl _)) ⟨L + 1, q0⟩ (Nat.le_refl _) g x hst (by simp [m2]) (by simp only []; omega) (by simp [m2, b2, a2]) (by simp [Tk.row])) ?_
    simp only [Tk.row, List.nil_append, nt, u0, xq0, xq1, sq0, m1, m2, b2, c2, a2, d2, kS3, Nat.add_assoc, go_sem]
    repeat refine sd2 ?_
    refine ⟨⟨i + 1, 20000 + (10000 * i + 1856), q1, Tk.ev (Tk.tm ⟨g0, g1, w0, w1, now⟩ (max (now + lt) g1.due)) true g w1 [x], w + 1⟩, ⟨by simp only []; omega, by simp only []; omega, by simp only []; omega, by simp only []; omega, ⟨wF, hR⟩, hw2, by simp only []; omega, by simp only [Tk.ev, Tk.tm]; omega, by simp only [Tk.ev, Tk.tm]; omega⟩, by simp only []; omega, ?_⟩
    exact (so0 hF2 (h1 := by (simp only [go_sem, subT, and_self, Int.natCast_add, Int.natCast_one]; try trivial)) (h2 := by simp [subH, Tx.look, m2, b2, c1, a2, d1, d4, Tk.ev, Tk.tm, u1, xq0, xq1, List.length_append, List.length_cons, List.length_nil, Nat.zero_add]) (h3 := by simp [subK, keys, m1, m2, b1, b2, c1, c2, a1, a2, d1, d2, d3, d4]) (h4 := by simp only []; omega))
  ·have e0 : w1 = [] := hz
   simp only at h4
   have e1 : (((wt % 4 : Nat) : Int) == 0) = false := by simp; omega
   obtain ⟨kp, hkp⟩ : ∃ b, b = (((wt % 4 : Nat) : Int) == 3) := ⟨_, rfl⟩
   obtain ⟨lo, hlo⟩ : ∃ b, b = (((wt % 4 : Nat) : Int) == 2) := ⟨_, rfl⟩
   have ez : w1.length = 0 := by rw [e0]; rfl
   simp only [Int.toNat_natCast, gr, h1, t4, t2, d2q, c1w, c2w, c3w, lr, nt, c6w, Int.natCast_one, e1, ← hkp, ← hlo, xq0, xq1, m1, m2, b2, c2, a2, d2, Nat.add_assoc, Nat.add_zero, go_sem]
   repeat refine sd2 ?_
   refine ⟨okDyn_num (fun x => if x = m then 1 else 0) (by simp only [numF, List.map, m2, if_true, if_false]; kernel_rfl), ?_⟩
   repeat refine sd2 ?_
   refine CallVC.same (takes1E_ok (L := L + 1) m (by omega) ⟨g0, g1, w0, w1, now + lt⟩ _ kp lo ⟨L + 1, q1⟩ ⟨_, by simp [m2, b2, a2, u1]; rfl⟩ (.sl ⟨L + 1, q0⟩ 0 w0.length) (by simp [Tk.row, ez])) ?_
   simp only [nt, Nat.add_assoc, go_sem]
   repeat refine sd2 ?_
   refine ⟨⟨i + 1, q0, q1, Tk.tm ⟨g0, g1, w0, w1, now⟩ (now + lt), w9⟩, ⟨by simp only []; omega, by simp only []; omega, by simp only []; omega, by simp only []; omega, ⟨wF, hR⟩, by have := hwy.le (show 500 + i ≤ 500 + (i + 1) by omega); exact this, by simp only []; omega, by simp only [Tk.tm]; omega, by simp only [Tk.tm]; omega⟩, by simp only []; omega, ?_⟩
   exact (so0 hF2 (h1 := by (simp only [go_sem, subT, and_self, Int.natCast_add, Int.natCast_one]; try trivial)) (h2 := by simp [subH, Tx.look, m2, b2, c1, a2, d1, d4, Tk.tm, u1]) (h3 := by simp [subK, keys, m1, m2, b1, b2, c1, c2, a1, a2, d1, d2, d3, d4]) (h4 := by simp only []; omega))
  ·rw [h4] at t4
   simp only [Tk.w] at hlt2 hp
   obtain ⟨at1, ha⟩ : ∃ a, a = wh / 2 % w1.length := ⟨_, rfl⟩
   simp only [Tk.w, Tk.g, ← ha] at hlt2 hp hR ⊢
   have e1 : (((2 : Nat) : Int) == 0) = false := rfl
   have e2 : (((2 : Nat) : Int) == 3) = false := rfl
   have e3 : (((2 : Nat) : Int) == 2) = true := rfl
   have e1' : ((2 : Int) == 0) = false := rfl
   have e2' : ((2 : Int) == 3) = false := rfl
   have e3' : ((2 : Int) == 2) = true := rfl
   have hat : (((wh / 2 : Nat) : Int)).tmod (w1.length : Int) = at1 := by rw [ha, Int.tmod_eq_emod_of_nonneg (by omega)]; rfl
   have her : (w1.eraseIdx at1).length = w1.length - 1 := List.length_eraseIdx_of_lt hlt2
   simp only [Int.toNat_natCast, gr, h1, t4, t2, d2q, c1w, c2w, c3w, lr, nt, c6w, Int.natCast_one, e1, e2, e3, xq0, xq1, m1, m2, b2, c2, a2, d2, Nat.add_assoc, Nat.add_zero, go_sem]
   repeat refine sd2 ?_
   refine ⟨okDyn_num (fun x => if x = m then 1 else 0) (by simp only [numF, List.map, m2, if_true, if_false]; kernel_rfl), ?_⟩
   repeat refine sd2 ?_
   refine CallVC.same (takes1FTL_ok (L := L + 1) m (.inl (by omega)) ⟨g0, g1, w0, w1, now + lt⟩ ⟨L + 1, q1⟩ (Nat.le_refl _) (by simp [m2]) [] (by simp [m2, b2, a2, u1]) _ at1 hat hlt2 (by simp only []; omega) p hp (.sl ⟨L + 1, q0⟩ 0 w0.length) (outs_sl (Nat.le_refl _)) (by simp [Tk.row])) ?_
   simp only [Tk.row, List.nil_append, nt, xq0, xq1, m1, m2, b2, c2, a2, d2, kS3, Nat.add_assoc, go_sem]
   repeat refine sd2 ?_
   have hw2 := (hwy.tm (now + lt)).ev (s := true) (g := g1) (v := w1.eraseIdx at1) (o := []) (fun x hx => List.mem_of_mem_eraseIdx hx) (List.length_eraseIdx_le _ _) (.inl rfl)
   refine ⟨⟨i + 1, q0, 20000 + (10000 * i + 1536), Tk.ev (Tk.tm ⟨g0, g1, w0, w1, now⟩ (now + lt)) true g1 (w1.eraseIdx at1) [], w9⟩, ⟨by simp only []; omega, by simp only []; omega, by simp only []; omega, by simp only []; omega, ⟨wF, hR⟩, hw2, by simp only []; omega, by simp only [Tk.ev, Tk.tm]; omega, by simp only [Tk.ev, Tk.tm]; omega⟩, by simp only []; omega, ?_⟩
   exact (so0 hF2 (h1 := by (simp only [go_sem, subT, and_self, Int.natCast_add, Int.natCast_one]; try trivial)) (h2 := by simp [subH, Tx.look, m2, b2, c1, a2, d1, d4, Tk.ev, Tk.tm, List.append_nil, xq0, xq1, her]) (h3 := by simp [subK, keys, m1, m2, b1, b2, c1, c2, a1, a2, d1, d2, d3, d4]) (h4 := by simp only []; omega))
  ·simp only [Tk.w, Tk.g] at hlt2 hp hst ha hR h4
   have hsm : p.sm := (hwy.w true).2 p (List.mem_of_getElem? hp)
   have ho := outs01 hst
   have hat : (((wh / 2 : Nat) : Int)).tmod (w1.length : Int) = at1 := by rw [ha, Int.tmod_eq_emod_of_nonneg (by omega)]; rfl
   have her : (w1.eraseIdx at1).length = w1.length - 1 := List.length_eraseIdx_of_lt hlt2
   rcases h4 with h4 | h4
   ·rw [h4] at t4
    rw [if_neg (by omega)] at hR
    have e1 : (((1 : Nat) : Int) == 0) = false := rfl
    have e2 : (((1 : Nat) : Int) == 3) = false := rfl
    have e3 : (((1 : Nat) : Int) == 2) = false := rfl
    have e1' : ((1 : Int) == 0) = false := rfl
    have e2' : ((1 : Int) == 3) = false := rfl
    have e3' : ((1 : Int) == 2) = false := rfl
    have hw2 := (hwy.tm (now + lt)).ev (s := true) (g := g) (v := (w1.eraseIdx at1)) (o := o) (fun x hx => List.mem_of_mem_eraseIdx hx) (List.length_eraseIdx_le _ _) ho
    rcases ho with rfl | ⟨x, rfl, _⟩
    ·simp only [Int.toNat_natCast, gr, h1, t4, t2, d2q, c1w, c2w, c3w, lr, nt, c6w, Int.natCast_one, e1', e2', e3', xq0, xq1, m1, m2, b2, c2, a2, d2, Nat.add_assoc, Nat.add_zero, go_sem]
     repeat refine sd2 ?_
     refine ⟨okDyn_num (fun x => if x = m then 1 else 0) (by simp only [numF, List.map, m2, if_true, if_false]; kernel_rfl), ?_⟩
     repeat refine sd2 ?_
     refine CallVC.same (takes1FFZ_ok (L := L + 1) m (.inl (by omega)) ⟨g0, g1, w0, w1, now + lt⟩ ⟨L + 1, q1⟩ (Nat.le_refl _) (by simp [m2]) [] (by simp [m2, b2, a2, u1]) _ at1 hat hlt2 (by simp only []; omega) p hp hsm g hst ⟨L + 1, q0⟩ (Nat.le_refl _) (by simp [m2]) (by simp only []; omega) (by simp [m2, b2, a2]) (by simp [Tk.row])) ?_
     simp only [Tk.row, List.nil_append, nt, xq0, xq1, m1, m2, b2, c2, a2, d2, kS3, Nat.add_assoc, go_sem]
     repeat refine sd2 ?_
     refine ⟨⟨i + 1, q0, 20000 + (10000 * i + 1536), Tk.ev (Tk.tm ⟨g0, g1, w0, w1, now⟩ (now + lt)) true g (w1.eraseIdx at1) [], w9⟩, ⟨by simp only []; omega, by simp only []; omega, by simp only []; omega, by simp only []; omega, ⟨wF, hR⟩, hw2, by simp only []; omega, by simp only [Tk.ev, Tk.tm]; omega, by simp only [Tk.ev, Tk.tm]; omega⟩, by simp only []; omega, ?_⟩
     exact (so0 hF2 (h1 := by (simp only [go_sem, subT, and_self, Int.natCast_add, Int.natCast_one]; try trivial)) (h2 := by simp [subH, Tx.look, m2, b2, c1, a2, d1, d4, Tk.ev, Tk.tm, List.append_nil, xq0, xq1, her]) (h3 := by simp [subK, keys, m1, m2, b1, b2, c1, c2, a1, a2, d1, d2, d3, d4]) (h4 := by simp only []; omega))
    ·simp only [Int.toNat_natCast, gr, h1, t4, t2, d2q, c1w, c2w, c3w, lr, nt, c6w, Int.natCast_one, e1', e2', e3', xq0, xq1, m1, m2, b2, c2, a2, d2, Nat.add_assoc, Nat.add_zero, go_sem]
     repeat refine sd2 ?_
     refine ⟨okDyn_num (fun x => if x = m then 1 else 0) (by simp only [numF, List.map, m2, if_true, if_false]; kernel_rfl), ?_⟩
     repeat refine sd2 ?_
     refine CallVC.same (takes1FFP_ok (L := L + 1) m (.inl (by omega)) ⟨g0, g1, w0, w1, now + lt⟩ ⟨L + 1, q1⟩ (Nat.le_refl _) (by simp [m2]) [] (by simp [m2, b2, a2, u1]) _ at1 hat hlt2 (by simp only []; omega) p hp hsm g x hst ⟨L + 1, q0⟩ (Nat.le_refl _) (by simp [m2]) (by simp only []; omega) (by simp [m2, b2, a2]) (by simp [Tk.row])) ?_
     simp only [Tk.row, List.nil_append, nt, u0, xq0, xq1, sq0, m1, m2, b2, c2, a2, d2, kS3, Nat.add_assoc, go_sem]
     repeat refine sd2 ?_
     refine ⟨⟨i + 1, 20000 + (10000 * i + 1537), 20000 + (10000 * i + 1536), Tk.ev (Tk.tm ⟨g0, g1, w0, w1, now⟩ (now + lt)) true g (w1.eraseIdx at1) [x], w9⟩, ⟨by simp only []; omega, by simp only []; omega, by simp only []; omega, by simp only []; omega, ⟨wF, hR⟩, hw2, by simp only []; omega, by simp only [Tk.ev, Tk.tm]; omega, by simp only [Tk.ev, Tk.tm]; omega⟩, by simp only []; omega, ?_⟩
     exact (so0 hF2 (h1 := by (simp only [go_sem, subT, and_self, Int.natCast_add, Int.natCast_one]; try trivial)) (h2 := by simp [subH, Tx.look, m2, b2, c1, a2, d1, d4, Tk.ev, Tk.tm, xq0, xq1, her, List.length_append, List.length_cons, List.length_nil, Nat.zero_add]) (h3 := by simp [subK, keys, m1, m2, b1, b2, c1, c2, a1, a2, d1, d2, d3, d4]) (h4 := by simp only []; omega))
   ·rw [h4] at t4
    rw [if_pos h4] at hR
    have e1 : (((3 : Nat) : Int) == 0) = false := rfl
    have e2 : (((3 : Nat) : Int) == 3) = true := rfl
    have e3 : (((3 : Nat) : Int) == 2) = false := rfl
    have e1' : ((3 : Int) == 0) = false := rfl
    have e2' : ((3 : Int) == 3) = true := rfl
    have e3' : ((3 : Int) == 2) = false := rfl
    have hw2 := (hwy.tm (now + lt)).ev (s := true) (g := g) (v := w1) (o := o) (fun x hx => hx) (Nat.le_refl _) ho
    rcases ho with rfl | ⟨x, rfl, _⟩
    ·simp only [Int.toNat_natCast, gr, h1, t4, t2, d2q, c1w, c2w, c3w, lr, nt, c6w, Int.natCast_one, e1, e2, e3, xq0, xq1, m1, m2, b2, c2, a2, d2, Nat.add_assoc, Nat.add_zero, go_sem]
     repeat refine sd2 ?_
     refine ⟨okDyn_num (fun x => if x = m then 1 else 0) (by simp only [numF, List.map, m2, if_true, if_false]; kernel_rfl), ?_⟩
     repeat refine sd2 ?_
     refine CallVC.same (takes1TFZ_ok (L := L + 1) m (.inl (by omega)) ⟨g0, g1, w0, w1, now + lt⟩ ⟨L + 1, q1⟩ (Nat.le_refl _) (by simp [m2]) [] (by simp [m2, b2, a2, u1]) _ at1 hat hlt2 (by simp only []; omega) p hp hsm g hst ⟨L + 1, q0⟩ (Nat.le_refl _) (by simp [m2]) (by simp only []; omega) (by simp [m2, b2, a2]) (by simp [Tk.row])) ?_
     simp only [Tk.row, List.nil_append, nt, m1, c2, d2, Nat.add_assoc, Nat.add_zero, go_sem]
     repeat refine sd2 ?_
     refine ⟨⟨i + 1, q0, q1, Tk.ev (Tk.tm ⟨g0, g1, w0, w1, now⟩ (now + lt)) true g w1 [], w9⟩, ⟨by simp only []; omega, by simp only []; omega, by simp only []; omega, by simp only []; omega, ⟨wF, hR⟩, hw2, by simp only []; omega, by simp only [Tk.ev, Tk.tm]; omega, by simp only [Tk.ev, Tk.tm]; omega⟩, by simp only []; omega, ?_⟩
     exact (so0 hF2 (h1 := by (simp only [go_sem, subT, and_self, Int.natCast_add, Int.natCast_one]; try trivial)) (h2 := by simp [subH, Tx.look, m2, b2, c1, a2, d1, d4, Tk.ev, Tk.tm, List.append_nil, u1]) (h3 := by simp [subK, keys, m1, m2, b1, b2, c1, c2, a1, a2, d1, d2, d3, d4]) (h4 := by simp only []; omega))
    ·simp only [Int.toNat_natCast, gr, h1, t4, t2, d2q, c1w, c2w, c3w, lr, nt, c6w, Int.natCast_one, e1, e2, e3, xq0, xq1, m1, m2, b2, c2, a2, d2, Nat.add_assoc, Nat.add_zero, go_sem]
     repeat refine sd2 ?_
     refine ⟨okDyn_num (fun x => if x = m then 1 else 0) (by simp only [numF, List.map, m2, if_true, if_false]; kernel_rfl), ?_⟩
     repeat refine sd2 ?_
     refine CallVC.same (takes1TFP_ok (L := L + 1) m (.inl (by omega)) ⟨g0, g1, w0, w1, now + lt⟩ ⟨L + 1, q1⟩ (Nat.le_refl _) (by simp [m2]) [] (by simp [m2, b2, a2, u1]) _ at1 hat hlt2 (by simp only []; omega) p hp hsm g x hst ⟨L + 1, q0⟩ (Nat.le_refl _) (by simp [m2]) (by simp only []; omega) (by simp [m2, b2, a2]) (by simp [Tk.row])) ?_
     simp only [Tk.row, List.nil_append, nt, u0, xq0, xq1, sq0, m1, m2, b2, c2, a2, d2, kS3, Nat.add_assoc, go_sem]
     repeat refine sd2 ?_
     refine ⟨⟨i + 1, 20000 + (10000 * i + 1536), q1, Tk.ev (Tk.tm ⟨g0, g1, w0, w1, now⟩ (now + lt)) true g w1 [x], w9⟩, ⟨by simp only []; omega, by simp only []; omega, by simp only []; omega, by simp only []; omega, ⟨wF, hR⟩, hw2, by simp only []; omega, by simp only [Tk.ev, Tk.tm]; omega, by simp only [Tk.ev, Tk.tm]; omega⟩, by simp only []; omega, ?_⟩
     exact (so0 hF2 (h1 := by (simp only [go_sem, subT, and_self, Int.natCast_add, Int.natCast_one]; try trivial)) (h2 := by simp [subH, Tx.look, m2, b2, c1, a2, d1, d4, Tk.ev, Tk.tm, u1, xq0, xq1, List.length_append, List.length_cons, List.length_nil, Nat.zero_add]) (h3 := by simp [subK, keys, m1, m2, b1, b2, c1, c2, a1, a2, d1, d2, d3, d4]) (h4 := by simp only []; omega))
end Go.Proofs.YtifhjhbfhdcahaaGreat
end
section
namespace Go.Tx
theorem Con.nilCell {P : Program} {f : FuncId} {args : List PV} {F : SF} {L nx top : Nat} {v : PV} {upd : List (Nm × SBlk)} {rd : List Nm} {n : Nm} {e e2 : TypeId} {wd wd2 : Nat} {o p : Bool} {row row1 : List PV} (hwd : 0 < wd2) (hn : F n = some (.rows e wd o p [row])) (hnr : n ∈ rd) (hne : n ≠ ⟨L, nx⟩) (hl : row1.length = row.length)
  (hc : ∀ c : Nat, row1[c]? = row[c]? ∨ (row[c]? = some PV.nilS ∧ row1[c]? = some (PV.sl ⟨L, nx⟩ 0 0)))
  (h : Con P f args ((F.set ⟨L, nx⟩ (.rows e2 wd2 true true [])).set n (.rows e wd o false [row1])) L (nx + 1) top v upd (⟨L, nx⟩ :: rd)) :
  Con P f args F L nx top v ((⟨L, nx⟩, .rows e2 wd2 true true []) :: (n, .rows e wd o false [row1]) :: upd) rd := by
 refine ⟨by have := h.1; omega, fun F2 hF E w args' hR hf1 hf2 hv => ?_⟩
 have htop := h.1
 have hf := hf1 nx (Nat.le_refl _) (by omega)
 have hS := StepR.emptyName hR hf e2 hwd true none
 have hn2 : F2 n = some (.rows e wd o p [row]) := (hF n hnr).trans hn
 have hn1 : (F2.set ⟨L, nx⟩ (.rows e2 wd2 true true [])) n = some (.rows e wd o p [row]) := by simp only [SF.set, if_neg hne]; exact hn2
 have hEE : Ext (EE (E.set ⟨L, nx⟩ ⟨0, 0, wd2, 0, true, none⟩) p) w (Zn (E.set ⟨L, nx⟩ ⟨0, 0, wd2, 0, true, none⟩) (F2.set ⟨L, nx⟩ (.rows e2 wd2 true true [])) w) (E.set ⟨L, nx⟩ ⟨0, 0, wd2, 0, true, none⟩) w (Zn (E.set ⟨L, nx⟩ ⟨0, 0, wd2, 0, true, none⟩) (F2.set ⟨L, nx⟩ (.rows e2 wd2 true true [])) w) := by
  refine ⟨?_, fun _ h => h, fun _ _ => rfl⟩
  cases p
  ·exact Env.le.refl _
  ·intro k i hk; cases hk
 have hS2 := StepR.reCell hS.rel hn1 (rs1 := [row1]) rfl (by
   intro r row' row1' h1 h2
   cases r with
   | zero => simp at h1 h2; subst h1; subst h2; exact hl
   | succ r => simp at h1) (by
   intro r row' row1' c x y u h1 h2 h3 h4 h5
   cases r with
   | succ r => simp at h1
   | zero =>
    simp at h1 h2; subst h1; subst h2
    rcases hc c with h | ⟨ha, hb⟩
    ·rw [h4, h3] at h; injection h with h; subst h
     exact VR.mono hEE _ _ h5
    ·rw [h3] at ha; injection ha with ha; subst ha
     rw [h4] at hb; injection hb with hb; subst hb
     simp only [VR] at h5 ⊢
     subst h5
     exact ⟨_, Env.set_self _ _ _, .inl ⟨rfl, trivial, rfl⟩⟩)
 have hT := hS.trans hS2
 have hv2 := VRl.mono hT.ext _ _ hv
 have key := h.2 ((F2.set ⟨L, nx⟩ (.rows e2 wd2 true true [])).set n (.rows e wd o false [row1])) (by
   intro m hm
   simp only [SF.set]
   by_cases h1 : m = n
   ·rw [if_pos h1, if_pos h1]
   rw [if_neg h1, if_neg h1]
   by_cases h2 : m = ⟨L, nx⟩
   ·rw [if_pos h2, if_pos h2]
   rw [if_neg h2, if_neg h2]
   rcases List.mem_cons.1 hm with h3 | h3
   ·exact absurd h3 h2
   ·exact hF m h3) _ w args' hT.rel (by
   intro k h1 h2
   rw [Env.set_ne E _ (by intro h; injection h with _ h; omega)]
   exact hf1 k (by omega) h2) (by
   intro m hm
   rw [Env.set_ne E _ (by intro h; rw [h] at hm; exact absurd hm (Nat.lt_irrefl _))]
   exact hf2 m hm) hv2
 have conv : ∀ v' w', CGives (E.set ⟨L, nx⟩ ⟨0, 0, wd2, 0, true, none⟩) ((F2.set ⟨L, nx⟩ (.rows e2 wd2 true true [])).set n (.rows e wd o false [row1])) w L (nx + 1) top v upd v' w' → CGives E F2 w L nx top v ((⟨L, nx⟩, .rows e2 wd2 true true []) :: (n, .rows e wd o false [row1]) :: upd) v' w' := by
  rintro v' w' ⟨E2, a1, a2, a3⟩
  refine ⟨E2, a1, hT.trans a2, fun m h1 h2 => ?_⟩
  by_cases h3 : m = ⟨L, nx⟩
  ·subst h3
   exact ⟨rfl, Nat.le_refl _, by show nx < top; omega⟩
  ·have := a3 m (by rw [Env.set_ne E _ h3]; exact h1) h2
   exact ⟨this.1, by omega, this.2.2⟩
 unfold Lands Sx.Lands at key ⊢
 split at key
 ·exact conv _ _ key
 ·exact conv _ _ key
 ·intro cs
  obtain ⟨e, w', fr, ⟨v', he, hK⟩, hrest⟩ := key cs
  exact ⟨e, w', fr, ⟨v', he, conv _ _ hK⟩, hrest⟩
 ·exact key
end Go.Tx
end
