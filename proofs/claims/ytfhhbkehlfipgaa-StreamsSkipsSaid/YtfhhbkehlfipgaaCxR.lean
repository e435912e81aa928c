/- Lemmas for the walk: C44. -/
import Derived.Test.YtfhhbkehlfipgaaCxQ
import Derived.Test.YtfhhbkehlfipgaaCxO
section
set_option linter.unusedSimpArgs false
set_option linter.unusedVariables false
set_option linter.unnecessarySimpa false
set_option linter.unusedSectionVars false
namespace Go.Proofs.Ytfhhbkehlfipgaa
open Go.Tx
set_option maxRecDepth 100000
set_option maxHeartbeats 16000000
set_option linter.unusedSimpArgs false
set_option linter.unusedVariables false
/-! the law StreamsSkips -/
def othK (p : Plan) (x k : Nat) : List Dat := ((List.range k).filter fun j => j != x).flatMap (piecesP p)
theorem othK_succ (p : Plan) (x k : Nat) : othK p x (k + 1) = othK p x k ++ if k = x then [] else piecesP p k := by
  unfold othK
  rw [List.range_succ, List.filter_append, List.flatMap_append]
  congr 1
  by_cases h : k = x <;> simp [h]
theorem othK_len (f : Int) (ms : List Msg) (x : Nat) : ∀ k, k ≤ ms.length → (othK (planOf f ms) x k).length ≤ offP ms k
  | 0, _ => by simp [othK]
  | k + 1, h => by
    have := othK_len f ms x k (by omega)
    rw [othK_succ, offP_succ (by omega), List.length_append]
    split
    · simp; omega
    · have h2 : (piecesP (planOf f ms) k).length = cP (msA ms k) := by simp only [piecesP, List.length_map, List.length_range]; rfl
      rw [h2]; omega
def lateV (p : Plan) (x k : Nat) : PV := if x < k then .fs 8 ((piecesP p x).map Dat.row) else .nilS
def seqV (p : Plan) (x k : Nat) : Int := if x < k then (p.sq x : Int) else 0
def cumV (p : Plan) (x k : Nat) : Int := if x < k then p.t x (p.c x - 1) else 0
theorem lateV_succ (p : Plan) (x k : Nat) : lateV p x (k + 1) = if k = x then .fs 8 ((piecesP p x).map Dat.row) else lateV p x k := by
  unfold lateV; split <;> split <;> first | rfl | omega | (split <;> first | rfl | omega)
theorem seqV_succ (p : Plan) (x k : Nat) : seqV p x (k + 1) = if k = x then (p.sq x : Int) else seqV p x k := by
  unfold seqV; split <;> split <;> first | rfl | omega | (split <;> first | rfl | omega)
theorem cumV_succ (p : Plan) (x k : Nat) : cumV p x (k + 1) = if k = x then p.t x (p.c x - 1) else cumV p x k := by
  unfold cumV; split <;> split <;> first | rfl | omega | (split <;> first | rfl | omega)
theorem outP_ok {N : Nat} {ms : List Msg} (h : MsOk N ms) (k : Nat) : (outP N ms k).length = N ∧ (outP N ms k).all (serB 16) = true := by
  have h16 : (2 : Int) ^ (Int.toNat 16) = 65536 := rfl
  refine ⟨by simp [outP], ?_⟩
  rw [List.all_eq_true]
  intro y hy
  obtain ⟨st, _, rfl⟩ := List.mem_map.1 hy
  have h1 : cntP ms st k ≤ ms.length := by
    unfold cntP
    exact Nat.le_trans (List.length_filter_le _ _) (by rw [List.length_take]; omega)
  have := h.len
  simp only [serB, h16, Bool.and_eq_true, decide_eq_true_eq]; omega
/-- One message, cut and numbered. -/
theorem numOne_ok {F : SF} {L nx : Nat} {N : Nat} {ms : List Msg} (h : MsOk N ms) (hN : 1 ≤ N) (hN2 : N ≤ 16) {f : Int} (hf : 0 ≤ f) (hf2 : f < 4294967296) {k : Nat} (hk : k < ms.length) :
    Con Try.prog 21 [strV (outP N ms k) (zrs N) 0 (-1) [] [], .fs 4 [(msA ms k).row], .int .i64 (f + ((offP ms k : Nat) : Int))] F L nx nx (.tup [strV (outP N ms (k + 1)) (zrs N) 0 (-1) [] [], .fs 8 ((piecesP (planOf f ms) k).map Dat.row), .bool true]) [] [] := by
  have hm := msA_mem hk
  obtain ⟨l1, l2⟩ := outP_ok h k
  have hzs : (zrs N).all (serB 16) = true := by rw [← outP_zero N ms]; exact (outP_ok h 0).2
  have hzl : (zrs N).length = N := by simp [zrs]
  have hol := offP_le h.t2 k (by omega)
  have hl := h.len
  have h32 : (2 : Int) ^ (Int.toNat 32) = 4294967296 := rfl
  have hp := h.pr _ hm
  have hs := h.st _ hm
  have hn := numbered_ok (F := F) (L := L) (nx := nx) (outP N ms k) (zrs N) 0 (by omega) (by omega) l2 (by omega) (by omega) hzs rfl [msA ms k] (fun m hm' => by
    simp at hm'; subst hm'
    exact ⟨hs.1, by rw [l1]; exact hs.2, by simp [serB, h32]; exact hp, h.t1 _ hm, by have := h.t2 _ hm; omega⟩) (by simp) (f + ((offP ms k : Nat) : Int)) (by omega) (by omega)
  have e : numG (f + ((offP ms k : Nat) : Int)) (outP N ms k) [msA ms k] [] = (outP N ms (k + 1), piecesP (planOf f ms) k) := by
    simp only [numG, List.nil_append, List.length_nil]
    rw [outP_next h hk, cuts_plan h hk (f := f) _ 0 (by simp)]
    rfl
  rw [e] at hn
  exact hn
structure SkZ where
  k : Nat
  i : Nat
  q : Nat
theorem skipsLaw_ok {F : SF} {L nx : Nat} (o i0 : Nat) (f : Nat) (hf : f < 4294967296) (hi0 : i0 < 256) (a b : Int) (ws : List Wd) (hws : ∀ w ∈ ws, w.ok) (hwl : ws.length ≤ 9223372036854775807) (order : List Nat) (ho : ∀ k ∈ order, k < 256) (hol' : order.length ≤ 9223372036854775807) (which : Nat) (hwh : which < 256) :
    Con Try.prog 7 [.agg [.int .u8 o, .int .u8 i0, .int .u32 f, .int .u16 a, .int .u16 b, .fs 4 (ws.map Wd.row), .fs 1 (order.map oU)], .int .u8 which] F L nx nx (.bool true) [] [] := by
  obtain ⟨N, hN⟩ : ∃ N, N = 1 + i0 % 16 := ⟨_, rfl⟩
  have hN1 : 1 ≤ N ∧ N ≤ 16 := by omega
  have f0 : ((0 : Int) != 0) = false := rfl
  have f00 : ((0 : Int) == 0) = true := rfl
  have t1 : ((i0 : Int).tmod 16) = ((i0 % 16 : Nat) : Int) := rfl
  have t2 : (1 : Int) + ((i0 % 16 : Nat) : Int) = (N : Int) := by omega
  have hnew := fun F L nx => new_ok (F := F) (L := L) (nx := nx) N N hN1.1 hN1.2 hN1.1 hN1.2
  simp only [strV, List.map_nil] at hnew
  refine Con.body (cxOk (L + 1)) rfl rfl (fn := Try.f7) (c := Try.f7.body.getD .skip) (by kernel_rfl) (by rfl) (by kernel_rfl) rfl (by simp) ?_
  intro F3 hF1 hF2
  simp only [Try.f7, cx, t1, t2, nm_beq, Nat.reduceBEq, Nat.reduceLeDiff, nB, nB', nS2, nS2', Nat.add_assoc, Nat.reduceAdd, Nat.add_zero, go_sem, Meths.get, meths, Nat.reduceSub, Nat.reduceAdd, Nat.reduceMul, Nat.reduceEqDiff, Nat.reduceLT, Nat.reduceLeDiff, Nat.reduceBEq, Nat.reduceBNe, reduceIte, reduceCtorEq, Int.reduceToNat, String.reduceEq]
  repeat refine And.intro (by first | omega | exact ⟨by omega, by omega⟩ | exact ⟨by omega, by omega, by omega⟩ | exact ⟨⟨by omega, by omega⟩, by omega, by omega⟩ | exact okS (by kernel_rfl)) ?_
  refine CallVC.same (hnew _ _ _) ?_
  cases ws with
  | nil =>
    have f1 : (((0 : Nat) : Int) == 0) = true := rfl
    simp only [f0, f00, f1, List.map_nil, List.length_nil, t1, t2, nm_beq, Nat.reduceBEq, Nat.reduceLeDiff, nB, nB', nS2, nS2', Nat.add_assoc, Nat.reduceAdd, Nat.add_zero, go_sem, Meths.get, meths, Nat.reduceSub, Nat.reduceAdd, Nat.reduceMul, Nat.reduceEqDiff, Nat.reduceLT, Nat.reduceLeDiff, Nat.reduceBEq, Nat.reduceBNe, reduceIte, reduceCtorEq, Int.reduceToNat, String.reduceEq]
    repeat refine And.intro (by first | omega | exact ⟨by omega, by omega⟩ | exact ⟨by omega, by omega, by omega⟩ | exact ⟨⟨by omega, by omega⟩, by omega, by omega⟩ | exact okS (by kernel_rfl)) ?_
    exact .bool (.inr rfl) rfl rfl (by simp [UpdAll, keys])
  | cons w0 ws0 =>
    obtain ⟨ws, hwsd⟩ : ∃ l, l = w0 :: ws0 := ⟨_, rfl⟩
    have hw1 : 1 ≤ ws.length := by rw [hwsd]; simp
    rw [← hwsd] at hws hwl ⊢
    have f1 : ((ws.length : Int) == 0) = false := eqF (by omega)
    obtain ⟨n, hn⟩ : ∃ n, n = min ws.length 12 := ⟨_, rfl⟩
    have t3 : min (ws.length : Int) 12 = (n : Int) := by omega
    obtain ⟨l0, hl0⟩ : ∃ l, l = msgsW N ws := ⟨_, rfl⟩
    have hl0n : l0.length = n := by rw [hl0, hn]; simp [msgsW]; omega
    have hl0k : l0 = (ws.take 12).map (Wd.msg N) := hl0
    have hmo := msgsW_ok hN1.1 ws
    rw [← hl0] at hmo
    have hn12 : 1 ≤ n ∧ n ≤ 12 := by omega
    have hzl : (zrs N).length = N := by simp [zrs]
    have emn : min n ws.length = n := by omega
    simp only [f0, f00, f1, t3, Int.toNat_natCast, Nat.sub_zero, List.length_map, List.map_nil, List.length_nil, t1, t2, nm_beq, Nat.reduceBEq, Nat.reduceLeDiff, nB, nB', nS2, nS2', Nat.add_assoc, Nat.reduceAdd, Nat.add_zero, go_sem, Meths.get, meths, Nat.reduceSub, Nat.reduceAdd, Nat.reduceMul, Nat.reduceEqDiff, Nat.reduceLT, Nat.reduceLeDiff, Nat.reduceBEq, Nat.reduceBNe, reduceIte, reduceCtorEq, Int.reduceToNat, String.reduceEq]
    repeat refine And.intro (by first | omega | exact ⟨by omega, by omega⟩ | exact ⟨by omega, by omega, by omega⟩ | exact ⟨⟨by omega, by omega⟩, by omega, by omega⟩ | exact okS (by kernel_rfl)) ?_
    refine loopK.intro _ _ (I := fun z : Nat × Nat => ⟨[none, some (.int .u8 which), some (.ptr ⟨L + 1, 0⟩ 0 0), none, none, some (.ptr ⟨L + 1, 480⟩ 0 0), none, some (.sl ⟨L + 1, z.2⟩ 0 z.1), none, none, none, none, none, none, none, none, none, none, none, none, none, none, none, none, none, none, none, none, none, none, none, none, none, none, none, none, none, none, none, none, none, none, none, none, none, none, none, none, none, none, none, none, none, none, none, none, none, none, none, some (.fs 4 (List.take n (ws.map Wd.row))), some (.int .i64 n), some (.int .i64 z.1), none, none, none, none, none, none, none, none, none, none, none, none, none, none, none, none, none, none, none, none, none, none, none, none, none, none, none, none, none, none, none, none, none, none, none, none, none, none, none, none, none, none, none, none, none, none, none, none, none, none, none, none, none, none, none, none, none, none, none, none, none, none, none, none, none, none, none, none, none, none, none, none, none, none, none, none, none, none, none, none, none, none, none, none, none, none, none, none, none, none, none, none, none, none, none, none, none, none, none, none, none, none, none, none, none, none, none, none, none, none, none, none, none, none, none, none, none, none, none, none, none, none, none, none, none, none, none, none, none, none, none, none, none, none, none, none, none],
      [(⟨L + 1, 0⟩, .rows 28 7 true true [[.int .u8 o, .int .u8 i0, .int .u32 f, .int .u16 a, .int .u16 b, .fs 4 (ws.map Wd.row), .fs 1 (order.map oU)]]), (⟨L + 1, 480⟩, .rows 34 6 true true [[.fs 1 ((zrs N).map eI), .fs 1 ((zrs N).map eI), .fs 8 [], .int .i64 0, .int .i64 (-1), .fs 1 []]]), (⟨L + 1, z.2⟩, .rows 37 4 true true ((l0.take z.1).map Msg.row))], if z.1 = n then 1000000 else 10000 * (z.1 + 1)⟩)
      (pre := fun z => z.1 ≤ n ∧ 1152 ≤ z.2 ∧ z.2 < 10000 * (z.1 + 1)) (μ := fun z => n - z.1) (0, 1152) ⟨by simp, by simp, by simp⟩ ?_ ?_
    · refine Sub.trans (Sub.nilName 7 37 (wd := 4) (by omega) rfl) ?_
      refine Sub.of (fun n hn => hF2 n (by have : n.l = L + 1 := hn; omega)) (by simp only [List.length_nil, List.length_take, List.length_map, emn, go_sem, resVal, resVals, resVal1, one, Wk, WkL, WkLL, wkN, wkNL, wkNLL, UpdIn, UpdAll, BW, plainP, plainPL, subT, subH, subK, and_self, true_or, or_true, List.not_mem_nil, List.mem_cons, forall_eq, imp_self, implies_true, Nat.reduceSub, Nat.reduceAdd, Nat.reduceMul, Nat.reduceEqDiff, Nat.reduceLT, Nat.reduceLeDiff, Nat.reduceBEq, Nat.reduceBNe, reduceIte, reduceCtorEq, Int.reduceToNat, String.reduceEq, Int.natCast_zero]) ?_ (by simp [subK, keys, updH, setH]) (by simp only []; split <;> omega)
      simp [subH, Tx.look, updH, setH]
    · rintro ⟨i, q⟩ ⟨h1, h2, h3⟩
      simp only at h1 h2 h3 ⊢
      have q_0 : (q = 0) = False := by apply eq_false; omega
      have n0_q : (0 = q) = False := by apply eq_false; omega
      have q_480 : (q = 480) = False := by apply eq_false; omega
      have n480_q : (480 = q) = False := by apply eq_false; omega
      have q_n1 : ∀ kk, (10000 * (i + 1) + kk = q) = False := fun kk => by apply eq_false; omega
      have q_n2 : ∀ kk, (q = 10000 * (i + 1) + kk) = False := fun kk => by apply eq_false; omega
      have q_n3 : (10000 * (i + 1) = q) = False := by apply eq_false; omega
      have q_n4 : (q = 10000 * (i + 1)) = False := by apply eq_false; omega
      have q_n5 : ∀ kk, ((⟨L + 1, q⟩ : Nm) == ⟨L + 1, 10000 * (i + 1) + kk⟩) = false := fun kk => by simp; omega
      by_cases hlt : i < n
      · have hiN : (i = n) = False := by apply eq_false; omega
        have g1 : decide ((i : Int) < (n : Int)) = true := dT (by omega)
        have hlw : i < ws.length := by omega
        obtain ⟨w, hw⟩ : ∃ w, w = ws[i] := ⟨_, rfl⟩
        have hwo : w.ok := hws w (by rw [hw]; exact List.getElem_mem hlw)
        have r0 : (List.take n (ws.map Wd.row)).getD i [] = w.row := by
          rw [List.getD_eq_getElem?_getD, List.getElem?_take, if_pos hlt, List.getElem?_map, List.getElem?_eq_getElem hlw, ← hw]; rfl
        have e1 : l0.take (i + 1) = l0.take i ++ [w.msg N] := by
          rw [List.take_succ_eq_append_getElem (by omega)]
          congr 2
          simp only [hl0k, List.getElem_map, List.getElem_take, ← hw]
        have el : (l0.take i).length = i := by simp; omega
        have etk : (List.take n (ws.map Wd.row)).length = n := by simp; omega
        simp only [g1, r0, hiN, etk, hzl, Wd.row, nm_beq, Nat.reduceBEq, Nat.reduceLeDiff, nB, nB', nS2, nS2', Nat.add_assoc, Nat.reduceAdd, q_0, n0_q, q_480, n480_q, q_n1, q_n2, q_n3, q_n4, q_n5, List.length_map, Nat.add_zero, go_sem, Meths.get, meths, Nat.reduceSub, Nat.reduceAdd, Nat.reduceMul, Nat.reduceEqDiff, Nat.reduceLT, Nat.reduceLeDiff, Nat.reduceBEq, Nat.reduceBNe, reduceIte, reduceCtorEq, Int.reduceToNat, String.reduceEq]
        repeat refine And.intro (by first | omega | exact ⟨by omega, by omega⟩ | exact ⟨by omega, by omega, by omega⟩ | exact ⟨⟨by omega, by omega⟩, by omega, by omega⟩ | exact okS (by kernel_rfl)) ?_
        refine CallVC.same (message_ok w.st w.kd w.sz N w.lo hwo.1 hwo.2.1 hwo.2.2 hN1.1 hN1.2) ?_
        simp only [g1, r0, hiN, etk, el, hzl, Wd.row, nm_beq, Nat.reduceBEq, Nat.reduceLeDiff, nB, nB', nS2, nS2', Nat.add_assoc, Nat.reduceAdd, q_0, n0_q, q_480, n480_q, q_n1, q_n2, q_n3, q_n4, q_n5, List.length_map, Nat.add_zero, go_sem, Meths.get, meths, Nat.reduceSub, Nat.reduceAdd, Nat.reduceMul, Nat.reduceEqDiff, Nat.reduceLT, Nat.reduceLeDiff, Nat.reduceBEq, Nat.reduceBNe, reduceIte, reduceCtorEq, Int.reduceToNat, String.reduceEq]
        repeat refine And.intro (by first | omega | exact ⟨by omega, by omega⟩ | exact ⟨by omega, by omega, by omega⟩ | exact ⟨⟨by omega, by omega⟩, by omega, by omega⟩ | exact okS (by kernel_rfl)) ?_
        refine ⟨(i + 1, 10000 * (i + 1) + 352), ⟨by simp only []; omega, by simp only []; omega, by simp only []; omega⟩, by simp only []; omega, ?_⟩
        refine Sub.of (fun n hn => hF2 n (by have : n.l = L + 1 := hn; omega)) (by simp only [go_sem, resVal, resVals, resVal1, one, Wk, WkL, WkLL, wkN, wkNL, wkNLL, UpdIn, UpdAll, BW, plainP, plainPL, subT, subH, subK, and_self, true_or, or_true, List.not_mem_nil, List.mem_cons, forall_eq, imp_self, implies_true, Nat.reduceSub, Nat.reduceAdd, Nat.reduceMul, Nat.reduceEqDiff, Nat.reduceLT, Nat.reduceLeDiff, Nat.reduceBEq, Nat.reduceBNe, reduceIte, reduceCtorEq, Int.reduceToNat, String.reduceEq, Int.natCast_succ]) ?_ (by simp [subK, keys]) (by simp only []; split <;> omega)
        simp [subH, Tx.look, e1, Wd.msg, Msg.row, nm_beq, Nat.reduceBEq, Nat.reduceLeDiff, nB, nB', nS2, nS2', Nat.add_assoc, Nat.reduceAdd, q_0, n0_q, q_480, n480_q, q_n1, q_n2, q_n3, q_n4, q_n5]
      · have hiN : n = i := by omega
        subst hiN
        have g1 : decide ((n : Int) < (n : Int)) = false := dF (by omega)
        have gq1 : ∀ c, 1000000 ≤ c → (c = q) = False := fun c hc => by apply eq_false; omega
        have gq2 : ∀ c, 1000000 ≤ c → (q = c) = False := fun c hc => by apply eq_false; omega
        have gq3 : ∀ c, 1000000 ≤ c → ((⟨L + 1, q⟩ : Nm) == ⟨L + 1, c⟩) = false := fun c hc => by simp; omega
        rw [show l0.take n = l0 from List.take_of_length_le (by omega)]
        obtain ⟨x, hx⟩ : ∃ x, x = which % n := ⟨_, rfl⟩
        have hxn : x < n := by rw [hx]; exact Nat.mod_lt _ (by omega)
        have t4 : ((which : Int).tmod (n : Int)) = (x : Int) := by rw [hx]; rfl
        obtain ⟨ms, hms⟩ : ∃ l, l = setLo l0 x := ⟨_, rfl⟩
        have hmn : ms.length = n := by rw [hms]; simp [setLo, hl0n]
        have hmo2 := setLo_ok hmo x (by omega)
        rw [← hms] at hmo2
        have hrow : (l0.map Msg.row).set x (List.take 2 ((l0.map Msg.row).getD x []) ++ [.bool false] ++ List.drop 3 ((l0.map Msg.row).getD x [])) = ms.map Msg.row := by
          rw [hms]
          unfold setLo
          rw [List.map_set]
          congr 1
          rw [List.getD_eq_getElem?_getD, List.getElem?_map, List.getD_eq_getElem?_getD, List.getElem?_eq_getElem (by omega)]
          rfl
        simp only [g1, t4, hrow, hl0n, Int.toNat_natCast, gq1, gq2, gq3, if_true, nm_beq, Nat.reduceBEq, Nat.reduceLeDiff, nB, nB', nS2, nS2', Nat.add_assoc, Nat.reduceAdd, q_0, n0_q, q_480, n480_q, q_n1, q_n2, q_n3, q_n4, q_n5, List.length_map, Nat.add_zero, go_sem, Meths.get, meths, Nat.reduceSub, Nat.reduceAdd, Nat.reduceMul, Nat.reduceEqDiff, Nat.reduceLT, Nat.reduceLeDiff, Nat.reduceBEq, Nat.reduceBNe, reduceIte, reduceCtorEq, Int.reduceToNat, String.reduceEq]
        repeat refine And.intro (by first | omega | exact ⟨by omega, by omega⟩ | exact ⟨by omega, by omega, by omega⟩ | exact ⟨⟨by omega, by omega⟩, by omega, by omega⟩ | exact okDyn_num (fun x => x.i) (by kernel_rfl) | kernel_rfl | exact okDyn_num (fun _ => 0) (by kernel_rfl)) ?_
        obtain ⟨p, hpd⟩ : ∃ p, p = planOf f ms := ⟨_, rfl⟩
        obtain ⟨q0, hq0⟩ : ∃ y, y = q := ⟨_, rfl⟩
        rw [← hq0]
        have hq0a : 1152 ≤ q0 ∧ q0 < 1000000 := by omega
        obtain ⟨q9, hq9⟩ : ∃ y, y = 1000576 := ⟨_, rfl⟩
        rw [← hq9]
        clear gq1 gq2 gq3 q_0 n0_q q_480 n480_q q_n1 q_n2 q_n3 q_n4 q_n5 hq0 h2 h3 q
        have hnum := fun F L nx k hk => numOne_ok (F := F) (L := L) (nx := nx) hmo2 hN1.1 hN1.2 (f := (f : Int)) (by omega) (by omega) (k := k) hk
        rw [← hpd] at hnum
        simp only [strV, List.map_nil, Msg.row] at hnum
        refine loopK.intro _ _ (I := fun z : SkZ => ⟨[none, none, some (.ptr ⟨L + 1, 0⟩ 0 0), none, none, some (.ptr ⟨L + 1, 480⟩ 0 0), none, some (.sl ⟨L + 1, q0⟩ 0 n), none, none, some (.int .i64 x), some (.sl ⟨L + 1, z.q⟩ 0 (othK p x z.k).length), some (lateV p x z.k), some (.ptr ⟨L + 1, q9⟩ 0 0), some (.int .i64 ((f : Int) + ((offP ms z.k : Nat) : Int))), some (.int .i64 (seqV p x z.k)), some (.int .i64 (cumV p x z.k)), none, none, none, none, none, none, none, none, none, none, none, none, none, none, none, none, none, none, none, none, none, none, none, none, none, none, none, none, none, none, none, none, none, none, none, none, none, none, none, none, none, none, none, none, none, none, none, none, none, none, none, none, none, none, none, none, none, none, none, none, none, none, none, none, none, none, none, none, none, none, some (.sl ⟨L + 1, q0⟩ 0 n), some (.int .i64 n), some (.int .i64 z.k), none, none, none, none, none, none, none, none, none, none, none, none, none, none, none, none, none, none, none, none, none, none, none, none, none, none, none, none, none, none, none, none, none, none, none, none, none, none, none, none, none, none, none, none, none, none, none, none, none, none, none, none, none, none, none, none, none, none, none, none, none, none, none, none, none, none, none, none, none, none, none, none, none, none, none, none, none, none, none, none, none, none, none, none, none, none, none, none, none, none, none, none, none, none, none, none, none, none, none, none, none, none, none, none, none, none, none, none, none],
          [(⟨L + 1, 0⟩, .rows 28 7 true true [[.int .u8 o, .int .u8 i0, .int .u32 f, .int .u16 a, .int .u16 b, .fs 4 (ws.map Wd.row), .fs 1 (order.map oU)]]), (⟨L + 1, 480⟩, .rows 34 6 true true [[.fs 1 ((zrs N).map eI), .fs 1 ((zrs N).map eI), .fs 8 [], .int .i64 0, .int .i64 (-1), .fs 1 []]]), (⟨L + 1, q0⟩, .rows 37 4 true true (ms.map Msg.row)), (⟨L + 1, q9⟩, .rows 34 6 true true [[.fs 1 ((outP N ms z.k).map eI), .fs 1 ((zrs N).map eI), .fs 8 [], .int .i64 0, .int .i64 (-1), .fs 1 []]]), (⟨L + 1, z.q⟩, .rows 43 8 true true ((othK p x z.k).map Dat.row))], if z.k = n then 10000000 else 10000 * (z.i + 1)⟩)
          (pre := fun z => z.k ≤ n ∧ z.i = 200 + z.k ∧ 1000832 ≤ z.q ∧ z.q < 10000 * (z.i + 1)) (μ := fun z => n - z.k) ⟨0, 200, 1000832⟩ ⟨by simp, rfl, by simp, by simp⟩ ?_ ?_
        · have gq1 : ∀ c, 1000000 ≤ c → (c = q0) = False := fun c hc => by apply eq_false; omega
          have gq2 : ∀ c, 1000000 ≤ c → (q0 = c) = False := fun c hc => by apply eq_false; omega
          have gq3 : (q0 = 0) = False := by apply eq_false; omega
          have gq4 : (q0 = 480) = False := by apply eq_false; omega
          have gq5 : (q9 = 0) = False := by apply eq_false; omega
          have gq6 : (q9 = 480) = False := by apply eq_false; omega
          have gq7 : (q9 = q0) = False := by apply eq_false; omega
          have gq8 : (q9 = 1000832) = False := by apply eq_false; omega
          have gq9 : (q0 = 1000832) = False := by apply eq_false; omega
          have gqa : (1000832 = q9) = False := by apply eq_false; omega
          have gqb : (1000832 = q0) = False := by apply eq_false; omega
          have gqc : (q0 = q9) = False := by apply eq_false; omega
          refine Sub.trans (Sub.nilName 11 43 (wd := 8) (by omega) rfl) ?_
          refine Sub.of (fun n hn => hF2 n (by have : n.l = L + 1 := hn; omega)) (by simp only [lateV, seqV, cumV, Nat.not_lt_zero, othK, offP, List.take_zero, List.map_nil, List.sum_nil, List.range_zero, List.filter_nil, List.flatMap_nil, List.length_nil, Int.add_zero, go_sem, resVal, resVals, resVal1, one, Wk, WkL, WkLL, wkN, wkNL, wkNLL, UpdIn, UpdAll, BW, plainP, plainPL, subT, subH, subK, and_self, true_or, or_true, List.not_mem_nil, List.mem_cons, forall_eq, imp_self, implies_true, Nat.reduceSub, Nat.reduceAdd, Nat.reduceMul, Nat.reduceEqDiff, Nat.reduceLT, Nat.reduceLeDiff, Nat.reduceBEq, Nat.reduceBNe, reduceIte, reduceCtorEq, Int.reduceToNat, String.reduceEq, Int.natCast_zero]) ?_ (by simp [subK, keys, updH, setH, gq3, gq4, gq5, gq6, gq7, gq8, gq9, gqa, gqb, gqc]) (by simp only []; split <;> omega)
          simp [subH, Tx.look, updH, setH, gq3, gq4, gq5, gq6, gq7, gq8, gq9, gqa, gqb, gqc, outP_zero, othK]
        · rintro ⟨k, i, q⟩ ⟨h1, h2, h3, h4⟩
          simp only at h1 h2 h3 h4 ⊢
          have q0_0 : (q0 = 0) = False := by apply eq_false; omega
          have n0_q0 : (0 = q0) = False := by apply eq_false; omega
          have q0_480 : (q0 = 480) = False := by apply eq_false; omega
          have n480_q0 : (480 = q0) = False := by apply eq_false; omega
          have q0_q : (q0 = q) = False := by apply eq_false; omega
          have nq_q0 : (q = q0) = False := by apply eq_false; omega
          have q0_q9 : (q0 = q9) = False := by apply eq_false; omega
          have nq9_q0 : (q9 = q0) = False := by apply eq_false; omega
          have q0_n1 : ∀ kk, (10000 * (i + 1) + kk = q0) = False := fun kk => by apply eq_false; omega
          have q0_n2 : ∀ kk, (q0 = 10000 * (i + 1) + kk) = False := fun kk => by apply eq_false; omega
          have q0_n3 : (10000 * (i + 1) = q0) = False := by apply eq_false; omega
          have q0_n4 : (q0 = 10000 * (i + 1)) = False := by apply eq_false; omega
          have q0_n5 : ∀ kk, ((⟨L + 1, q0⟩ : Nm) == ⟨L + 1, 10000 * (i + 1) + kk⟩) = false := fun kk => by simp; omega
          have q_0 : (q = 0) = False := by apply eq_false; omega
          have n0_q : (0 = q) = False := by apply eq_false; omega
          have q_480 : (q = 480) = False := by apply eq_false; omega
          have n480_q : (480 = q) = False := by apply eq_false; omega
          have q_q9 : (q = q9) = False := by apply eq_false; omega
          have nq9_q : (q9 = q) = False := by apply eq_false; omega
          have q_n1 : ∀ kk, (10000 * (i + 1) + kk = q) = False := fun kk => by apply eq_false; omega
          have q_n2 : ∀ kk, (q = 10000 * (i + 1) + kk) = False := fun kk => by apply eq_false; omega
          have q_n3 : (10000 * (i + 1) = q) = False := by apply eq_false; omega
          have q_n4 : (q = 10000 * (i + 1)) = False := by apply eq_false; omega
          have q_n5 : ∀ kk, ((⟨L + 1, q⟩ : Nm) == ⟨L + 1, 10000 * (i + 1) + kk⟩) = false := fun kk => by simp; omega
          have q9_0 : (q9 = 0) = False := by apply eq_false; omega
          have n0_q9 : (0 = q9) = False := by apply eq_false; omega
          have q9_480 : (q9 = 480) = False := by apply eq_false; omega
          have n480_q9 : (480 = q9) = False := by apply eq_false; omega
          have q9_n1 : ∀ kk, (10000 * (i + 1) + kk = q9) = False := fun kk => by apply eq_false; omega
          have q9_n2 : ∀ kk, (q9 = 10000 * (i + 1) + kk) = False := fun kk => by apply eq_false; omega
          have q9_n3 : (10000 * (i + 1) = q9) = False := by apply eq_false; omega
          have q9_n4 : (q9 = 10000 * (i + 1)) = False := by apply eq_false; omega
          have q9_n5 : ∀ kk, ((⟨L + 1, q9⟩ : Nm) == ⟨L + 1, 10000 * (i + 1) + kk⟩) = false := fun kk => by simp; omega
          by_cases hlt : k < n
          · have hkN : (k = n) = False := by apply eq_false; omega
            have g1 : decide ((k : Int) < (n : Int)) = true := dT (by omega)
            have r0 : (ms.map Msg.row).getD k [] = (msA ms k).row := by
              rw [List.getD_eq_getElem?_getD, List.getElem?_map, List.getElem?_eq_getElem (by omega), msA_eq (by omega)]; rfl
            simp only [g1, r0, hkN, hmn, Msg.row, nm_beq, Nat.reduceBEq, Nat.reduceLeDiff, nB, nB', nS2, nS2', Nat.add_assoc, Nat.reduceAdd, q0_0, n0_q0, q0_480, n480_q0, q0_q, nq_q0, q0_q9, nq9_q0, q0_n1, q0_n2, q0_n3, q0_n4, q0_n5, q_0, n0_q, q_480, n480_q, q_q9, nq9_q, q_n1, q_n2, q_n3, q_n4, q_n5, q9_0, n0_q9, q9_480, n480_q9, q9_n1, q9_n2, q9_n3, q9_n4, q9_n5, List.length_map, Nat.add_zero, go_sem, Meths.get, meths, Nat.reduceSub, Nat.reduceAdd, Nat.reduceMul, Nat.reduceEqDiff, Nat.reduceLT, Nat.reduceLeDiff, Nat.reduceBEq, Nat.reduceBNe, reduceIte, reduceCtorEq, Int.reduceToNat, String.reduceEq]
            repeat refine And.intro (by first | omega | exact ⟨by omega, by omega⟩ | exact ⟨by omega, by omega, by omega⟩ | exact ⟨⟨by omega, by omega⟩, by omega, by omega⟩ | exact okS (by kernel_rfl)) ?_
            refine CallVC.gen (args2 := [.agg [.fs 1 ((outP N ms k).map eI), .fs 1 ((zrs N).map eI), .fs 8 [], .int .i64 0, .int .i64 (-1), .fs 1 []], .fs 4 [[.int .i64 (msA ms k).st, .int .i64 (msA ms k).pr, .bool (msA ms k).lo, .str (msA ms k).tx]], .int .i64 ((f : Int) + ((offP ms k : Nat) : Int))]) (by simp [Wk, WkL, List.take_of_length_le, q0_0, n0_q0, q0_480, n480_q0, q0_q, nq_q0, q0_q9, nq9_q0, q0_n1, q0_n2, q0_n3, q0_n4, q0_n5, q_0, n0_q, q_480, n480_q, q_q9, nq9_q, q_n1, q_n2, q_n3, q_n4, q_n5, q9_0, n0_q9, q9_480, n480_q9, q9_n1, q9_n2, q9_n3, q9_n4, q9_n5, nm_beq, Nat.reduceBEq, Nat.reduceLeDiff, nB, nB', nS2, nS2', Nat.add_assoc, Nat.reduceAdd]) (hnum _ _ _ k (by omega)) ?_
            have hoff := offP_succ (ms := ms) (j := k) (by omega)
            have hofl := offP_le hmo2.t2 (k + 1) (by omega)
            have hL1 : (piecesP p k).length = cP (msA ms k) := by rw [hpd]; simp only [piecesP, List.length_map, List.length_range]; rfl
            have hc1 : 1 ≤ cP (msA ms k) := by have := hmo2.t1 _ (msA_mem (ms := ms) (j := k) (by omega)); unfold cP; omega
            have hol := othK_len (f : Int) ms x k (by omega)
            rw [← hpd] at hol
            have e3 : (f : Int) + ((offP ms k : Nat) : Int) + ((piecesP p k).length : Int) = (f : Int) + ((offP ms (k + 1) : Nat) : Int) := by omega
            have hlv := lateV_succ p x k
            have hsv := seqV_succ p x k
            have hcv := cumV_succ p x k
            have hot := othK_succ p x k
            by_cases hkx : k = x
            · have f4 : ((k : Int) == (x : Int)) = true := by simp [hkx]
              rw [if_pos hkx] at hlv hsv hcv hot
              have hpc0 : p.c k = cP (msA ms k) := by rw [hpd]; rfl
              rw [List.append_nil] at hot
              have hot' := hot
              rw [← hkx] at hlv hsv hcv hot
              rw [hpc0] at hcv
              have hpc : ∀ j, j < cP (msA ms k) → ((piecesP p k).map Dat.row).getD j [] = (p.pc k j).row := by
                intro j hj
                have : p.c k = cP (msA ms k) := by rw [hpd]; rfl
                simp [piecesP, List.getD_eq_getElem?_getD, this, hj]
              have r1 := hpc 0 (by omega)
              have r2 := hpc (cP (msA ms k) - 1) (by omega)
              have e4 : (((piecesP p k).length : Int) - 1).toNat = cP (msA ms k) - 1 := by omega
              simp only [Plan.pc, Dat.row] at r1 r2
              simp only [wkNL, wkN, unown, g1, r0, r1, r2, e3, e4, f4, hkN, hmn, Msg.row, nm_beq, Nat.reduceBEq, Nat.reduceLeDiff, nB, nB', nS2, nS2', Nat.add_assoc, Nat.reduceAdd, q0_0, n0_q0, q0_480, n480_q0, q0_q, nq_q0, q0_q9, nq9_q0, q0_n1, q0_n2, q0_n3, q0_n4, q0_n5, q_0, n0_q, q_480, n480_q, q_q9, nq9_q, q_n1, q_n2, q_n3, q_n4, q_n5, q9_0, n0_q9, q9_480, n480_q9, q9_n1, q9_n2, q9_n3, q9_n4, q9_n5, List.length_map, Nat.add_zero, go_sem, Meths.get, meths, Nat.reduceSub, Nat.reduceAdd, Nat.reduceMul, Nat.reduceEqDiff, Nat.reduceLT, Nat.reduceLeDiff, Nat.reduceBEq, Nat.reduceBNe, reduceIte, reduceCtorEq, Int.reduceToNat, String.reduceEq]
              repeat refine And.intro (by first | omega | exact ⟨by omega, by omega⟩ | exact ⟨by omega, by omega, by omega⟩ | exact ⟨⟨by omega, by omega⟩, by omega, by omega⟩ | exact okS (by kernel_rfl)) ?_
              refine ⟨okDyn_num (fun _ => 0) (by simp only [numF, List.map]; kernel_rfl), ⟨by omega, by omega⟩, ⟨k + 1, i + 1, q⟩, ⟨by simp only []; omega, by simp only []; omega, by simp only []; omega, by simp only []; omega⟩, by simp only []; omega, ?_⟩
              refine Sub.of (fun n hn => hF2 n (by have : n.l = L + 1 := hn; omega)) (by simp only [← hkx, hlv, hsv, hcv, hot, List.length_append, go_sem, resVal, resVals, resVal1, one, Wk, WkL, WkLL, wkN, wkNL, wkNLL, UpdIn, UpdAll, BW, plainP, plainPL, subT, subH, subK, and_self, true_or, or_true, List.not_mem_nil, List.mem_cons, forall_eq, imp_self, implies_true, Nat.reduceSub, Nat.reduceAdd, Nat.reduceMul, Nat.reduceEqDiff, Nat.reduceLT, Nat.reduceLeDiff, Nat.reduceBEq, Nat.reduceBNe, reduceIte, reduceCtorEq, Int.reduceToNat, String.reduceEq, Int.natCast_succ]) ?_ (by simp [subK, keys]) (by simp only []; split <;> omega)
              simp [subH, Tx.look, hot', Msg.row, q0_0, n0_q0, q0_480, n480_q0, q0_q, nq_q0, q0_q9, nq9_q0, q0_n1, q0_n2, q0_n3, q0_n4, q0_n5, q_0, n0_q, q_480, n480_q, q_q9, nq9_q, q_n1, q_n2, q_n3, q_n4, q_n5, q9_0, n0_q9, q9_480, n480_q9, q9_n1, q9_n2, q9_n3, q9_n4, q9_n5, nm_beq, Nat.reduceBEq, Nat.reduceLeDiff, nB, nB', nS2, nS2', Nat.add_assoc, Nat.reduceAdd]
            · have f4 : ((k : Int) == (x : Int)) = false := eqF (by omega)
              rw [if_neg hkx] at hlv hsv hcv hot
              simp only [wkNL, wkN, unown, g1, r0, e3, f4, hkN, hmn, Msg.row, nm_beq, Nat.reduceBEq, Nat.reduceLeDiff, nB, nB', nS2, nS2', Nat.add_assoc, Nat.reduceAdd, q0_0, n0_q0, q0_480, n480_q0, q0_q, nq_q0, q0_q9, nq9_q0, q0_n1, q0_n2, q0_n3, q0_n4, q0_n5, q_0, n0_q, q_480, n480_q, q_q9, nq9_q, q_n1, q_n2, q_n3, q_n4, q_n5, q9_0, n0_q9, q9_480, n480_q9, q9_n1, q9_n2, q9_n3, q9_n4, q9_n5, List.length_map, Nat.add_zero, go_sem, Meths.get, meths, Nat.reduceSub, Nat.reduceAdd, Nat.reduceMul, Nat.reduceEqDiff, Nat.reduceLT, Nat.reduceLeDiff, Nat.reduceBEq, Nat.reduceBNe, reduceIte, reduceCtorEq, Int.reduceToNat, String.reduceEq]
              repeat refine And.intro (by first | omega | exact ⟨by omega, by omega⟩ | exact ⟨by omega, by omega, by omega⟩ | exact ⟨⟨by omega, by omega⟩, by omega, by omega⟩ | exact okS (by kernel_rfl)) ?_
              refine ⟨⟨k + 1, i + 1, 10000 * (i + 1) + 1056⟩, ⟨by simp only []; omega, by simp only []; omega, by simp only []; omega, by simp only []; omega⟩, by simp only []; omega, ?_⟩
              refine Sub.of (fun n hn => hF2 n (by have : n.l = L + 1 := hn; omega)) (by simp only [hlv, hsv, hcv, hot, List.length_append, go_sem, resVal, resVals, resVal1, one, Wk, WkL, WkLL, wkN, wkNL, wkNLL, UpdIn, UpdAll, BW, plainP, plainPL, subT, subH, subK, and_self, true_or, or_true, List.not_mem_nil, List.mem_cons, forall_eq, imp_self, implies_true, Nat.reduceSub, Nat.reduceAdd, Nat.reduceMul, Nat.reduceEqDiff, Nat.reduceLT, Nat.reduceLeDiff, Nat.reduceBEq, Nat.reduceBNe, reduceIte, reduceCtorEq, Int.reduceToNat, String.reduceEq, Int.natCast_succ]) ?_ (by simp [subK, keys]) (by simp only []; split <;> omega)
              simp [subH, Tx.look, hot, Msg.row, q0_0, n0_q0, q0_480, n480_q0, q0_q, nq_q0, q0_q9, nq9_q0, q0_n1, q0_n2, q0_n3, q0_n4, q0_n5, q_0, n0_q, q_480, n480_q, q_q9, nq9_q, q_n1, q_n2, q_n3, q_n4, q_n5, q9_0, n0_q9, q9_480, n480_q9, q9_n1, q9_n2, q9_n3, q9_n4, q9_n5, nm_beq, Nat.reduceBEq, Nat.reduceLeDiff, nB, nB', nS2, nS2', Nat.add_assoc, Nat.reduceAdd]
          · have hkN : n = k := by omega
            subst hkN
            have g1 : decide ((n : Int) < (n : Int)) = false := dF (by omega)
            have hpn : p.n = n := by rw [hpd]; exact hmn
            have e1 : lateV p x n = .fs 8 ((piecesP p x).map Dat.row) := by unfold lateV; rw [if_pos hxn]
            have e2 : seqV p x n = (p.sq x : Int) := by unfold seqV; rw [if_pos hxn]
            have e3 : cumV p x n = p.t x (p.c x - 1) := by unfold cumV; rw [if_pos hxn]
            have e4 : othK p x n = othersP p x := by unfold othK othersP; rw [hpn]
            rw [e1, e2, e3, e4]
            obtain ⟨mx, hmx⟩ : ∃ y, y = mixG order 40 (othersP p x).length 0 (othersP p x) [] := ⟨_, rfl⟩
            have hperm : mx.Perm (othersP p x) := by rw [hmx]; exact mixG_perm order 40 (by omega) _ _ _ _ (Nat.le_refl _)
            have hol : (othersP p x).length ≤ 48 := by
              have h1 := othK_len (f : Int) ms x n (by omega)
              have h2 := offP_le hmo2.t2 n (by omega)
              rw [← hpd, e4] at h1
              omega
            have hmxl : mx.length ≤ 48 := by rw [hperm.length_eq]; exact hol
            have hlo : (msA ms x).lo = false := by
              rw [msA_eq (by omega)]
              simp [hms, setLo]
            obtain ⟨in1, ps1, got, in2, more, c1, c2, c3, c4⟩ := skips_plain hmo2 (f := (f : Int)) (by omega) (x := x) (by omega) hlo (l' := mx) (by rw [← hpd]; exact hperm)
            rw [← hpd] at c2 c4
            have hpsq : p.sq x = sqP ms x := by rw [hpd]; rfl
            have hpc0 : p.c x = cP (msA ms x) := by rw [hpd]; rfl
            rw [← hpsq, ← hpc0] at c2
            have hP0 : PsOk (zrs N) [] := ⟨by simp, by simp, by simp⟩
            have hzs : (zrs N).all (serB 16) = true := by rw [← outP_zero N ms]; exact (outP_ok hmo2 0).2
            have hSt : Str0 (zrs N) (zrs N) 0 (-1) [] := ⟨by omega, by omega, hzs, by omega, by omega, hzs, rfl, .inl rfl, rfl, by simp⟩
            have hpcok : ∀ j i, j < n → i < p.c j → (p.pc j i).ok = true ∧ (p.pc j i).st < (zrs N).length := by
              intro j i hj hi
              rw [hzl, hpd]
              exact pc_ok hmo2 hN1.2 (by omega) (by omega) (by rw [hpd] at hi; exact hi)
            have hl1 : ∀ d ∈ mx, d.ok = true ∧ d.st < (zrs N).length := by
              intro d hd
              obtain ⟨j, i, a1, a2, _, rfl⟩ := mem_others.1 (hperm.mem_iff.1 hd)
              exact hpcok j i (by omega) a2
            have hl2 : ∀ d ∈ piecesP p x, d.ok = true ∧ d.st < (zrs N).length := by
              intro d hd
              obtain ⟨i, hi, rfl⟩ := List.mem_map.1 hd
              exact hpcok x i hxn (List.mem_range.1 hi)
            have hlx : 1 ≤ (piecesP p x).length ∧ (piecesP p x).length ≤ 4 := by
              have h1 := hmo2.t1 _ (msA_mem (ms := ms) (j := x) (by omega))
              have h2 := hmo2.t2 _ (msA_mem (ms := ms) (j := x) (by omega))
              have : (piecesP p x).length = cP (msA ms x) := by simp only [piecesP, List.length_map, List.length_range]; exact hpc0
              unfold cP at this; omega
            have v1 := comes_valid mx (inn := zrs N) (ps := []) [] hP0 rfl hzs hl1 (by simp; omega)
            have hcm1 := fun F L nx => comes_ok (F := F) (L := L) (nx := nx) (zrs N) (zrs N) [] 0 (-1) hSt [] hP0 rfl mx hl1 (by simp; omega)
            rw [c1] at v1 hcm1
            simp only at v1
            have hS1 := hSt.inn v1.2.2.2 v1.2.2.1
            have htk := (hpcok x (p.c x - 1) hxn (by have := hmo2.t1 _ (msA_mem (ms := ms) (j := x) (by omega)); rw [hpc0]; unfold cP; omega)).1
            have htk := Dat.ok_bounds htk
            have hst := hmo2.st _ (msA_mem (ms := ms) (j := x) (by omega))
            have hsqb := (planOf_ok hmo2 (f := (f : Int)) (by omega)).sqb x (by show x < ms.length; omega)
            rw [← hpd] at hsqb
            have hfv : fwdV (p.t x (p.c x - 1)) [((msA ms x).st, (p.sq x : Int))] = true := by
              have h32 : (2 : Int) ^ (Int.toNat 32) = 4294967296 := rfl
              have h16 : (2 : Int) ^ (Int.toNat 16) = 65536 := rfl
              have ht0 : 0 ≤ p.t x (p.c x - 1) ∧ p.t x (p.c x - 1) < 4294967296 := ⟨htk.1, htk.2.1⟩
              simp [fwdV, okSk, serB, h32, h16, List.range_succ]; omega
            have hsk := fun F L nx => skip_ok (F := F) (L := L) (nx := nx) (zrs N) in1 [] 0 (-1) hS1 ps1 v1.1 v1.2.1 (p.t x (p.c x - 1)) [((msA ms x).st, (p.sq x : Int))] hfv (by simp [v1.2.2.2, hzl]; omega)
            have v2 := skipG_valid v1.1 v1.2.2.1 (p.t x (p.c x - 1)) [((msA ms x).st, (p.sq x : Int))] (by simp; omega)
            rw [c2] at hsk v2
            simp only at v2
            have hl2in : in2.length = (zrs N).length := v2.2.2.2.trans v1.2.2.2
            have hS2 := hSt.inn hl2in v2.2.2.1
            have hck := fun F L nx => check_ok (F := F) (L := L) (nx := nx) (zrs N) in2 [] 0 (-1) hS2 [] v2.1 v2.2.1
            have hcm2 := fun F L nx => comes_ok (F := F) (L := L) (nx := nx) (zrs N) in2 [] 0 (-1) hS2 [] v2.1 v2.2.1 (piecesP p x) (by rw [hl2in]; exact hl2) (by simp; omega)
            rw [c4] at hcm2
            have hsm := fun F L nx => sameF_ok (F := F) (L := L) (nx := nx) (zrs N) in2 [] 0 (-1) (by omega) (by rw [hl2in]; omega) (by simp)
            have hmi : ∀ F L nx, Con Try.prog 23 [.fs 8 ((othersP p x).map Dat.row), .fs 1 (order.map oU), .int .i64 40] F L nx nx (.fs 8 (mx.map Dat.row)) [] [] := by
              intro F L nx
              rw [hmx]
              exact mixed_ok (othersP p x) order 40 (by omega) (by omega) (by omega) ho hol'
            simp only [strV, fwdP, List.map_nil] at hcm1 hsk hck hcm2 hsm
            have gz1 : ∀ c, 10000000 ≤ c → (c = q0) = False := fun c hc => by apply eq_false; omega
            have gz2 : ∀ c, 10000000 ≤ c → (q0 = c) = False := fun c hc => by apply eq_false; omega
            have gz3 : ∀ c, 10000000 ≤ c → (c = q) = False := fun c hc => by apply eq_false; omega
            have gz4 : ∀ c, 10000000 ≤ c → (q = c) = False := fun c hc => by apply eq_false; omega
            have gz5 : ∀ c, 10000000 ≤ c → (c = q9) = False := fun c hc => by apply eq_false; omega
            have gz6 : ∀ c, 10000000 ≤ c → (q9 = c) = False := fun c hc => by apply eq_false; omega
            simp only [g1, if_true, gz1, gz2, gz3, gz4, gz5, gz6, Msg.row, nm_beq, Nat.reduceBEq, Nat.reduceLeDiff, nB, nB', nS2, nS2', Nat.add_assoc, Nat.reduceAdd, q0_0, n0_q0, q0_480, n480_q0, q0_q, nq_q0, q0_q9, nq9_q0, q0_n1, q0_n2, q0_n3, q0_n4, q0_n5, q_0, n0_q, q_480, n480_q, q_q9, nq9_q, q_n1, q_n2, q_n3, q_n4, q_n5, q9_0, n0_q9, q9_480, n480_q9, q9_n1, q9_n2, q9_n3, q9_n4, q9_n5, List.length_map, Nat.add_zero, go_sem, Meths.get, meths, Nat.reduceSub, Nat.reduceAdd, Nat.reduceMul, Nat.reduceEqDiff, Nat.reduceLT, Nat.reduceLeDiff, Nat.reduceBEq, Nat.reduceBNe, reduceIte, reduceCtorEq, Int.reduceToNat, String.reduceEq]
            repeat refine And.intro (by first | omega | exact ⟨by omega, by omega⟩ | exact ⟨by omega, by omega, by omega⟩ | exact ⟨⟨by omega, by omega⟩, by omega, by omega⟩ | exact okS (by kernel_rfl)) ?_
            refine CallVC.gen (args2 := [.fs 8 ((othersP p x).map Dat.row), .fs 1 (order.map oU), .int .i64 40]) (by simp [Wk, WkL, List.take_of_length_le, q0_0, n0_q0, q0_480, n480_q0, q0_q, nq_q0, q0_q9, nq9_q0, q0_n1, q0_n2, q0_n3, q0_n4, q0_n5, q_0, n0_q, q_480, n480_q, q_q9, nq9_q, q_n1, q_n2, q_n3, q_n4, q_n5, q9_0, n0_q9, q9_480, n480_q9, q9_n1, q9_n2, q9_n3, q9_n4, q9_n5, nm_beq, Nat.reduceBEq, Nat.reduceLeDiff, nB, nB', nS2, nS2', Nat.add_assoc, Nat.reduceAdd]) (hmi _ _ _) ?_
            have hrx : (ms.map Msg.row).getD x [] = [.int .i64 (msA ms x).st, .int .i64 (msA ms x).pr, .bool (msA ms x).lo, .str (msA ms x).tx] := by
              rw [List.getD_eq_getElem?_getD, List.getElem?_map, List.getElem?_eq_getElem (by omega), msA_eq (by omega)]; rfl
            simp only [wkNL, wkN, unown, g1, f0, f00, hmn, hrx, kE, Int.toNat_natCast, if_true, gz1, gz2, gz3, gz4, gz5, gz6, Msg.row, nm_beq, Nat.reduceBEq, Nat.reduceLeDiff, nB, nB', nS2, nS2', Nat.add_assoc, Nat.reduceAdd, q0_0, n0_q0, q0_480, n480_q0, q0_q, nq_q0, q0_q9, nq9_q0, q0_n1, q0_n2, q0_n3, q0_n4, q0_n5, q_0, n0_q, q_480, n480_q, q_q9, nq9_q, q_n1, q_n2, q_n3, q_n4, q_n5, q9_0, n0_q9, q9_480, n480_q9, q9_n1, q9_n2, q9_n3, q9_n4, q9_n5, List.length_map, List.map_cons, List.map_nil, List.length_nil, Nat.add_zero, go_sem, Meths.get, meths, Nat.reduceSub, Nat.reduceAdd, Nat.reduceMul, Nat.reduceEqDiff, Nat.reduceLT, Nat.reduceLeDiff, Nat.reduceBEq, Nat.reduceBNe, reduceIte, reduceCtorEq, Int.reduceToNat, String.reduceEq]
            repeat refine And.intro (by first | omega | exact ⟨by omega, by omega⟩ | exact ⟨by omega, by omega, by omega⟩ | exact ⟨⟨by omega, by omega⟩, by omega, by omega⟩ | exact okS (by kernel_rfl)) ?_
            refine CallVC.same (hcm1 _ _ _) ?_
            simp only [wkNL, wkN, unown, g1, f0, f00, hmn, hrx, kE, Int.toNat_natCast, if_true, gz1, gz2, gz3, gz4, gz5, gz6, Msg.row, nm_beq, Nat.reduceBEq, Nat.reduceLeDiff, nB, nB', nS2, nS2', Nat.add_assoc, Nat.reduceAdd, q0_0, n0_q0, q0_480, n480_q0, q0_q, nq_q0, q0_q9, nq9_q0, q0_n1, q0_n2, q0_n3, q0_n4, q0_n5, q_0, n0_q, q_480, n480_q, q_q9, nq9_q, q_n1, q_n2, q_n3, q_n4, q_n5, q9_0, n0_q9, q9_480, n480_q9, q9_n1, q9_n2, q9_n3, q9_n4, q9_n5, List.length_map, List.map_cons, List.map_nil, List.length_nil, Nat.add_zero, go_sem, Meths.get, meths, Nat.reduceSub, Nat.reduceAdd, Nat.reduceMul, Nat.reduceEqDiff, Nat.reduceLT, Nat.reduceLeDiff, Nat.reduceBEq, Nat.reduceBNe, reduceIte, reduceCtorEq, Int.reduceToNat, String.reduceEq]
            refine ⟨okDyn_num (fun y => if y.i = q then 1 else y.i + 100) (by simp only [numF, List.map, gz3, Nat.reduceLeDiff, q_0, n0_q, q_480, n480_q, q_q9, nq9_q, q_n1, q_n2, q_n3, q_n4, q_n5, eq_self, if_true, if_false]; kernel_rfl), ?_⟩
            repeat refine And.intro (by first | omega | exact ⟨by omega, by omega⟩ | exact ⟨by omega, by omega, by omega⟩ | exact ⟨⟨by omega, by omega⟩, by omega, by omega⟩ | exact okS (by kernel_rfl)) ?_
            refine CallVC.gen (args2 := [.agg [.fs 1 ((zrs N).map eI), .fs 1 (in1.map eI), .fs 8 (ps1.map Dat.row), .int .i64 0, .int .i64 (-1), .fs 1 []], .agg [.int .i64 (p.t x (p.c x - 1)), .fs 2 [[.int .i64 (msA ms x).st, .int .i64 (p.sq x : Int)]]]]) (by simp [Wk, WkL, List.take_of_length_le, gz3, gz4, gz1, gz2, gz5, gz6]) (hsk _ _ _) ?_
            have e6 : (((got.length : Int) + (more.length : Int)) != ((n : Int) - 1)) = false := by
              have : (got.length : Int) + (more.length : Int) = (n : Int) - 1 := by omega
              rw [this]; simp
            have e7 : (((0 : Nat) : Int) != 0) = false := rfl
            have e8 : (((0 : Nat) : Int) == 0) = true := rfl
            simp only [e6, e7, e8, wkNL, wkN, unown, g1, f0, f00, hmn, hrx, kE, Int.toNat_natCast, if_true, gz1, gz2, gz3, gz4, gz5, gz6, Msg.row, nm_beq, Nat.reduceBEq, Nat.reduceLeDiff, nB, nB', nS2, nS2', Nat.add_assoc, Nat.reduceAdd, q0_0, n0_q0, q0_480, n480_q0, q0_q, nq_q0, q0_q9, nq9_q0, q0_n1, q0_n2, q0_n3, q0_n4, q0_n5, q_0, n0_q, q_480, n480_q, q_q9, nq9_q, q_n1, q_n2, q_n3, q_n4, q_n5, q9_0, n0_q9, q9_480, n480_q9, q9_n1, q9_n2, q9_n3, q9_n4, q9_n5, List.length_map, List.map_cons, List.map_nil, List.length_nil, Nat.add_zero, go_sem, Meths.get, meths, Nat.reduceSub, Nat.reduceAdd, Nat.reduceMul, Nat.reduceEqDiff, Nat.reduceLT, Nat.reduceLeDiff, Nat.reduceBEq, Nat.reduceBNe, reduceIte, reduceCtorEq, Int.reduceToNat, String.reduceEq]
            refine ⟨okDyn_num (fun y => if y.i = q0 then 1 else y.i + 100) (by simp only [numF, List.map, gz1, Nat.reduceLeDiff, q0_0, n0_q0, q0_480, n480_q0, q0_q, nq_q0, q0_q9, nq9_q0, q0_n1, q0_n2, q0_n3, q0_n4, q0_n5, eq_self, if_true, if_false]; kernel_rfl), ?_⟩
            refine CallVC.same (hck _ _ _) ?_
            simp only [e6, e7, e8, wkNL, wkN, unown, g1, f0, f00, hmn, hrx, kE, Int.toNat_natCast, if_true, gz1, gz2, gz3, gz4, gz5, gz6, Msg.row, nm_beq, Nat.reduceBEq, Nat.reduceLeDiff, nB, nB', nS2, nS2', Nat.add_assoc, Nat.reduceAdd, q0_0, n0_q0, q0_480, n480_q0, q0_q, nq_q0, q0_q9, nq9_q0, q0_n1, q0_n2, q0_n3, q0_n4, q0_n5, q_0, n0_q, q_480, n480_q, q_q9, nq9_q, q_n1, q_n2, q_n3, q_n4, q_n5, q9_0, n0_q9, q9_480, n480_q9, q9_n1, q9_n2, q9_n3, q9_n4, q9_n5, List.length_map, List.map_cons, List.map_nil, List.length_nil, Nat.add_zero, go_sem, Meths.get, meths, Nat.reduceSub, Nat.reduceAdd, Nat.reduceMul, Nat.reduceEqDiff, Nat.reduceLT, Nat.reduceLeDiff, Nat.reduceBEq, Nat.reduceBNe, reduceIte, reduceCtorEq, Int.reduceToNat, String.reduceEq]
            repeat refine And.intro (by first | omega | exact ⟨by omega, by omega⟩ | exact ⟨by omega, by omega, by omega⟩ | exact ⟨⟨by omega, by omega⟩, by omega, by omega⟩ | exact okS (by kernel_rfl)) ?_
            refine CallVC.same (hcm2 _ _ _) ?_
            simp only [e6, e7, e8, wkNL, wkN, unown, g1, f0, f00, hmn, hrx, kE, Int.toNat_natCast, if_true, gz1, gz2, gz3, gz4, gz5, gz6, Msg.row, nm_beq, Nat.reduceBEq, Nat.reduceLeDiff, nB, nB', nS2, nS2', Nat.add_assoc, Nat.reduceAdd, q0_0, n0_q0, q0_480, n480_q0, q0_q, nq_q0, q0_q9, nq9_q0, q0_n1, q0_n2, q0_n3, q0_n4, q0_n5, q_0, n0_q, q_480, n480_q, q_q9, nq9_q, q_n1, q_n2, q_n3, q_n4, q_n5, q9_0, n0_q9, q9_480, n480_q9, q9_n1, q9_n2, q9_n3, q9_n4, q9_n5, List.length_map, List.map_cons, List.map_nil, List.length_nil, Nat.add_zero, go_sem, Meths.get, meths, Nat.reduceSub, Nat.reduceAdd, Nat.reduceMul, Nat.reduceEqDiff, Nat.reduceLT, Nat.reduceLeDiff, Nat.reduceBEq, Nat.reduceBNe, reduceIte, reduceCtorEq, Int.reduceToNat, String.reduceEq]
            repeat refine And.intro (by first | omega | exact ⟨by omega, by omega⟩ | exact ⟨by omega, by omega, by omega⟩ | exact ⟨⟨by omega, by omega⟩, by omega, by omega⟩ | exact okS (by kernel_rfl)) ?_
            refine CallVC.same (hsm _ _ _) ?_
            simp only [e6, e7, e8, wkNL, wkN, unown, g1, f0, f00, hmn, hrx, kE, Int.toNat_natCast, if_true, gz1, gz2, gz3, gz4, gz5, gz6, Msg.row, nm_beq, Nat.reduceBEq, Nat.reduceLeDiff, nB, nB', nS2, nS2', Nat.add_assoc, Nat.reduceAdd, q0_0, n0_q0, q0_480, n480_q0, q0_q, nq_q0, q0_q9, nq9_q0, q0_n1, q0_n2, q0_n3, q0_n4, q0_n5, q_0, n0_q, q_480, n480_q, q_q9, nq9_q, q_n1, q_n2, q_n3, q_n4, q_n5, q9_0, n0_q9, q9_480, n480_q9, q9_n1, q9_n2, q9_n3, q9_n4, q9_n5, List.length_map, List.map_cons, List.map_nil, List.length_nil, Nat.add_zero, go_sem, Meths.get, meths, Nat.reduceSub, Nat.reduceAdd, Nat.reduceMul, Nat.reduceEqDiff, Nat.reduceLT, Nat.reduceLeDiff, Nat.reduceBEq, Nat.reduceBNe, reduceIte, reduceCtorEq, Int.reduceToNat, String.reduceEq]
            repeat refine And.intro (by first | omega | exact ⟨by omega, by omega⟩ | exact ⟨by omega, by omega, by omega⟩ | exact ⟨⟨by omega, by omega⟩, by omega, by omega⟩ | exact okS (by kernel_rfl)) ?_
            exact .bool (.inr rfl) rfl rfl (by simp [UpdAll, keys])
end Go.Proofs.Ytfhhbkehlfipgaa
end
