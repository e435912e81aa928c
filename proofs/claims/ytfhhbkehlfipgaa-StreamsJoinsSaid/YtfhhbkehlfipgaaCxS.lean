/- Lemmas for the walk: C47. -/
import Derived.Test.YtfhhbkehlfipgaaCxR
import Derived.Test.YtfhhbkehlfipgaaDxA
section
set_option linter.unusedSimpArgs false
set_option linter.unusedVariables false
set_option linter.unnecessarySimpa false
set_option linter.unusedSectionVars false
namespace Go.Proofs.Ytfhhbkehlfipgaa
open Go.Tx
set_option maxRecDepth 100000
set_option maxHeartbeats 16000000
set_option linter.unusedSimpArgs false
set_option linter.unusedVariables false
/-! the law StreamsJoins -/
structure JoZ where
  k : Nat
  i : Nat
  R : List Msg
  z : Nat
theorem joinsLaw_ok {F : SF} {L nx : Nat} (o i0 : Nat) (f : Nat) (hf : f < 4294967296) (hi0 : i0 < 256) (a b : Int) (ws : List Wd) (hws : ∀ w ∈ ws, w.ok) (hwl : ws.length ≤ 9223372036854775807) (order : List Nat) (ho : ∀ k ∈ order, k < 256) (hol' : order.length ≤ 9223372036854775807) :
    Con Try.prog 5 [.agg [.int .u8 o, .int .u8 i0, .int .u32 f, .int .u16 a, .int .u16 b, .fs 4 (ws.map Wd.row), .fs 1 (order.map oU)]] F L nx nx (.bool true) [] [] := by
  obtain ⟨N, hN⟩ : ∃ N, N = 1 + i0 % 16 := ⟨_, rfl⟩
  have hN1 : 1 ≤ N ∧ N ≤ 16 := by omega
  have f0 : ((0 : Int) != 0) = false := rfl
  have f00 : ((0 : Int) == 0) = true := rfl
  have t1 : ((i0 : Int).tmod 16) = ((i0 % 16 : Nat) : Int) := rfl
  have t2 : (1 : Int) + ((i0 % 16 : Nat) : Int) = (N : Int) := by omega
  have hnew := fun F L nx => new_ok (F := F) (L := L) (nx := nx) N N hN1.1 hN1.2 hN1.1 hN1.2
  simp only [strV, List.map_nil] at hnew
  obtain ⟨n, hn⟩ : ∃ n, n = min ws.length 12 := ⟨_, rfl⟩
  have t3 : min (ws.length : Int) 12 = (n : Int) := by omega
  obtain ⟨l0, hl0⟩ : ∃ l, l = msgsW N ws := ⟨_, rfl⟩
  have hl0n : l0.length = n := by rw [hl0, hn]; simp [msgsW]; omega
  have hl0k : l0 = (ws.take 12).map (Wd.msg N) := hl0
  have hmo := msgsW_ok hN1.1 ws
  rw [← hl0] at hmo
  have hn12 : n ≤ 12 := by omega
  have hzl : (zrs N).length = N := by simp [zrs]
  have emn : min n ws.length = n := by omega
  refine Con.body (cxOk (L + 1)) rfl rfl (fn := Try.f5) (c := Try.f5.body.getD .skip) (by kernel_rfl) (by rfl) (by kernel_rfl) rfl (by simp) ?_
  intro F3 hF1 hF2
  simp only [Try.f5, cx, t1, t2, nm_beq, Nat.reduceBEq, Nat.reduceLeDiff, nB, nB', nS2, nS2', Nat.add_assoc, Nat.reduceAdd, Nat.add_zero, go_sem, Meths.get, meths, Nat.reduceSub, Nat.reduceAdd, Nat.reduceMul, Nat.reduceEqDiff, Nat.reduceLT, Nat.reduceLeDiff, Nat.reduceBEq, Nat.reduceBNe, reduceIte, reduceCtorEq, Int.reduceToNat, String.reduceEq]
  repeat refine And.intro (by first | omega | exact ⟨by omega, by omega⟩ | exact ⟨by omega, by omega, by omega⟩ | exact ⟨⟨by omega, by omega⟩, by omega, by omega⟩ | exact okS (by kernel_rfl)) ?_
  refine CallVC.same (hnew _ _ _) ?_
  simp only [f0, f00, t3, Int.toNat_natCast, Nat.sub_zero, List.length_map, List.map_nil, List.length_nil, t1, t2, nm_beq, Nat.reduceBEq, Nat.reduceLeDiff, nB, nB', nS2, nS2', Nat.add_assoc, Nat.reduceAdd, Nat.add_zero, go_sem, Meths.get, meths, Nat.reduceSub, Nat.reduceAdd, Nat.reduceMul, Nat.reduceEqDiff, Nat.reduceLT, Nat.reduceLeDiff, Nat.reduceBEq, Nat.reduceBNe, reduceIte, reduceCtorEq, Int.reduceToNat, String.reduceEq]
  repeat refine And.intro (by first | omega | exact ⟨by omega, by omega⟩ | exact ⟨by omega, by omega, by omega⟩ | exact ⟨⟨by omega, by omega⟩, by omega, by omega⟩ | exact okS (by kernel_rfl)) ?_
  refine loopK.intro _ _ (I := fun z : Nat × Nat => ⟨[none, some (.ptr ⟨L + 1, 0⟩ 0 0), none, some (.ptr ⟨L + 1, 480⟩ 0 0), none, some (.sl ⟨L + 1, z.2⟩ 0 z.1), none, none, none, none, none, none, none, none, none, none, none, none, none, none, none, none, none, none, none, none, none, none, none, none, none, none, none, none, none, none, none, none, none, none, none, some (.fs 4 (List.take n (ws.map Wd.row))), some (.int .i64 n), some (.int .i64 z.1), none, none, none, none, none, none, none, none, none, none, none, none, none, none, none, none, none, none, none, none, none, none, none, none, none, none, none, none, none, none, none, none, none, none, none, none, none, none, none, none, none, none, none, none, none, none, none, none, none, none, none, none, none, none, none, none, none, none, none, none, none, none, none, none, none, none, none, none, none, none, none, none, none, none, none, none, none, none, none, none, none, none, none, none, none, none],
    [(⟨L + 1, 0⟩, .rows 28 7 true true [[.int .u8 o, .int .u8 i0, .int .u32 f, .int .u16 a, .int .u16 b, .fs 4 (ws.map Wd.row), .fs 1 (order.map oU)]]), (⟨L + 1, 480⟩, .rows 34 6 true true [[.fs 1 ((zrs N).map eI), .fs 1 ((zrs N).map eI), .fs 8 [], .int .i64 0, .int .i64 (-1), .fs 1 []]]), (⟨L + 1, z.2⟩, .rows 37 4 true true ((l0.take z.1).map Msg.row))], if z.1 = n then 1000000 else 10000 * (z.1 + 1)⟩)
    (pre := fun z => z.1 ≤ n ∧ 576 ≤ z.2 ∧ z.2 < 10000 * (z.1 + 1)) (μ := fun z => n - z.1) (0, 960) ⟨by simp, by simp, by simp⟩ ?_ ?_
  · refine Sub.trans (Sub.nilName 5 37 (wd := 4) (by omega) rfl) ?_
    refine Sub.of (fun n hn => hF2 n (by have : n.l = L + 1 := hn; omega)) (by simp only [List.length_nil, List.length_take, List.length_map, emn, go_sem, resVal, resVals, resVal1, one, Wk, WkL, WkLL, wkN, wkNL, wkNLL, UpdIn, UpdAll, BW, plainP, plainPL, subT, subH, subK, and_self, true_or, or_true, List.not_mem_nil, List.mem_cons, forall_eq, imp_self, implies_true, Nat.reduceSub, Nat.reduceAdd, Nat.reduceMul, Nat.reduceEqDiff, Nat.reduceLT, Nat.reduceLeDiff, Nat.reduceBEq, Nat.reduceBNe, reduceIte, reduceCtorEq, Int.reduceToNat, String.reduceEq, Int.natCast_zero]) ?_ (by simp [subK, keys, updH, setH]) (by simp only []; split <;> omega)
    simp [subH, Tx.look, updH, setH]
  · rintro ⟨i, q⟩ ⟨h1, h2, h3⟩
    simp only at h1 h2 h3 ⊢
    have q_0 : (q = 0) = False := by apply eq_false; omega
    have n0_q : (0 = q) = False := by apply eq_false; omega
    have q_480 : (q = 480) = False := by apply eq_false; omega
    have n480_q : (480 = q) = False := by apply eq_false; omega
    have q_n1 : ∀ kk, (10000 * (i + 1) + kk = q) = False := fun kk => by apply eq_false; omega
    have q_n2 : ∀ kk, (q = 10000 * (i + 1) + kk) = False := fun kk => by apply eq_false; omega
    have q_n3 : (10000 * (i + 1) = q) = False := by apply eq_false; omega
    have q_n4 : (q = 10000 * (i + 1)) = False := by apply eq_false; omega
    have q_n5 : ∀ kk, ((⟨L + 1, q⟩ : Nm) == ⟨L + 1, 10000 * (i + 1) + kk⟩) = false := fun kk => by simp; omega
    by_cases hlt : i < n
    · have hiN : (i = n) = False := by apply eq_false; omega
      have g1 : decide ((i : Int) < (n : Int)) = true := dT (by omega)
      have hlw : i < ws.length := by omega
      obtain ⟨w, hw⟩ : ∃ w, w = ws[i] := ⟨_, rfl⟩
      have hwo : w.ok := hws w (by rw [hw]; exact List.getElem_mem hlw)
      have r0 : (List.take n (ws.map Wd.row)).getD i [] = w.row := by
        rw [List.getD_eq_getElem?_getD, List.getElem?_take, if_pos hlt, List.getElem?_map, List.getElem?_eq_getElem hlw, ← hw]; rfl
      have e1 : l0.take (i + 1) = l0.take i ++ [w.msg N] := by
        rw [List.take_succ_eq_append_getElem (by omega)]
        congr 2
        simp only [hl0k, List.getElem_map, List.getElem_take, ← hw]
      have el : (l0.take i).length = i := by simp; omega
      have etk : (List.take n (ws.map Wd.row)).length = n := by simp; omega
      simp only [g1, r0, hiN, etk, hzl, Wd.row, nm_beq, Nat.reduceBEq, Nat.reduceLeDiff, nB, nB', nS2, nS2', Nat.add_assoc, Nat.reduceAdd, q_0, n0_q, q_480, n480_q, q_n1, q_n2, q_n3, q_n4, q_n5, List.length_map, Nat.add_zero, go_sem, Meths.get, meths, Nat.reduceSub, Nat.reduceAdd, Nat.reduceMul, Nat.reduceEqDiff, Nat.reduceLT, Nat.reduceLeDiff, Nat.reduceBEq, Nat.reduceBNe, reduceIte, reduceCtorEq, Int.reduceToNat, String.reduceEq]
      repeat refine And.intro (by first | omega | exact ⟨by omega, by omega⟩ | exact ⟨by omega, by omega, by omega⟩ | exact ⟨⟨by omega, by omega⟩, by omega, by omega⟩ | exact okS (by kernel_rfl)) ?_
      refine CallVC.same (message_ok w.st w.kd w.sz N w.lo hwo.1 hwo.2.1 hwo.2.2 hN1.1 hN1.2) ?_
      simp only [g1, r0, hiN, etk, el, hzl, Wd.row, nm_beq, Nat.reduceBEq, Nat.reduceLeDiff, nB, nB', nS2, nS2', Nat.add_assoc, Nat.reduceAdd, q_0, n0_q, q_480, n480_q, q_n1, q_n2, q_n3, q_n4, q_n5, List.length_map, Nat.add_zero, go_sem, Meths.get, meths, Nat.reduceSub, Nat.reduceAdd, Nat.reduceMul, Nat.reduceEqDiff, Nat.reduceLT, Nat.reduceLeDiff, Nat.reduceBEq, Nat.reduceBNe, reduceIte, reduceCtorEq, Int.reduceToNat, String.reduceEq]
      repeat refine And.intro (by first | omega | exact ⟨by omega, by omega⟩ | exact ⟨by omega, by omega, by omega⟩ | exact ⟨⟨by omega, by omega⟩, by omega, by omega⟩ | exact okS (by kernel_rfl)) ?_
      refine ⟨(i + 1, 10000 * (i + 1) + 352), ⟨by simp only []; omega, by simp only []; omega, by simp only []; omega⟩, by simp only []; omega, ?_⟩
      refine Sub.of (fun n hn => hF2 n (by have : n.l = L + 1 := hn; omega)) (by simp only [go_sem, resVal, resVals, resVal1, one, Wk, WkL, WkLL, wkN, wkNL, wkNLL, UpdIn, UpdAll, BW, plainP, plainPL, subT, subH, subK, and_self, true_or, or_true, List.not_mem_nil, List.mem_cons, forall_eq, imp_self, implies_true, Nat.reduceSub, Nat.reduceAdd, Nat.reduceMul, Nat.reduceEqDiff, Nat.reduceLT, Nat.reduceLeDiff, Nat.reduceBEq, Nat.reduceBNe, reduceIte, reduceCtorEq, Int.reduceToNat, String.reduceEq, Int.natCast_succ]) ?_ (by simp [subK, keys]) (by simp only []; split <;> omega)
      simp [subH, Tx.look, e1, Wd.msg, Msg.row, nm_beq, Nat.reduceBEq, Nat.reduceLeDiff, nB, nB', nS2, nS2', Nat.add_assoc, Nat.reduceAdd, q_0, n0_q, q_480, n480_q, q_n1, q_n2, q_n3, q_n4, q_n5]
    · have hiN : n = i := by omega
      subst hiN
      have g1 : decide ((n : Int) < (n : Int)) = false := dF (by omega)
      rw [show l0.take n = l0 from List.take_of_length_le (by omega)]
      obtain ⟨q0, hq0⟩ : ∃ y, y = q := ⟨_, rfl⟩
      rw [← hq0]
      have hq0a : 576 ≤ q0 ∧ q0 < 1000000 := by omega
      clear q_0 n0_q q_480 n480_q q_n1 q_n2 q_n3 q_n4 q_n5 hq0 h2 h3 q
      have gq1 : ∀ c, 1000000 ≤ c → (c = q0) = False := fun c hc => by apply eq_false; omega
      have gq2 : ∀ c, 1000000 ≤ c → (q0 = c) = False := fun c hc => by apply eq_false; omega
      have gq3 : (q0 = 0) = False := by apply eq_false; omega
      have gq4 : (q0 = 480) = False := by apply eq_false; omega
      have gq5 : (0 = q0) = False := by apply eq_false; omega
      have gq6 : (480 = q0) = False := by apply eq_false; omega
      obtain ⟨p, hpd⟩ : ∃ p, p = planOf f l0 := ⟨_, rfl⟩
      obtain ⟨al, hal⟩ : ∃ y, y = othersP p n := ⟨_, rfl⟩
      obtain ⟨out2, hout2⟩ : ∃ y, y = (numG f (zrs N) l0 []).1 := ⟨_, rfl⟩
      have hzs : (zrs N).all (serB 16) = true := by unfold zrs; rw [List.all_eq_true]; intro y hy; have := List.eq_of_mem_replicate hy; subst this; rfl
      have h32 : (2 : Int) ^ (Int.toNat 32) = 4294967296 := rfl
      have hnum : ∀ F L nx, Con Try.prog 21 [strV (zrs N) (zrs N) 0 (-1) [] [], .fs 4 (l0.map Msg.row), .int .i64 f] F L nx nx (.tup [strV out2 (zrs N) 0 (-1) [] [], .fs 8 (al.map Dat.row), .bool true]) [] [] := by
        intro F L nx
        have h := numbered_ok (F := F) (L := L) (nx := nx) (zrs N) (zrs N) 0 (by omega) (by omega) hzs (by omega) (by omega) hzs rfl l0 (fun m hm => by
          have a1 := hmo.st m hm
          have a2 := hmo.pr m hm
          have a3 := hmo.t1 m hm
          have a4 := hmo.t2 m hm
          exact ⟨a1.1, by rw [hzl]; exact a1.2, by simp [serB, h32]; exact a2, a3, by omega⟩) (by omega) f (by omega) (by omega)
        rw [← hout2, numAll0 hmo (f := (f : Int)), ← hpd, hl0n, ← hal] at h
        exact h
      obtain ⟨mx, hmx⟩ : ∃ y, y = mixG order 40 al.length 0 al [] := ⟨_, rfl⟩
      have hperm : mx.Perm al := by rw [hmx]; exact mixG_perm order 40 (by omega) _ _ _ _ (Nat.le_refl _)
      have hall : al.length ≤ 48 := by
        have h2 := offP_le hmo.t2 n (by omega)
        have h3 : al.length = offP l0 n := by
          have := numAll hmo (f := (f : Int)) n 0 [] (by omega) (by simp [offP])
          rw [outP_zero, List.drop_zero] at this
          have e := congrArg (fun y => y.2.length) this
          simp only at e
          rw [numAll0 hmo (f := (f : Int)), ← hpd, hl0n, ← hal] at e
          rw [e]
          simp only [List.nil_append, Nat.zero_add]
          have key : ∀ k, k ≤ l0.length → ((List.range k).flatMap fun i => piecesP p i).length = offP l0 k := by
            intro k
            induction k with
            | zero => intro _; simp [offP]
            | succ k ih =>
              intro hk
              rw [List.range_succ, List.flatMap_append, List.length_append, ih (by omega), offP_succ (by omega)]
              have : (piecesP p k).length = cP (msA l0 k) := by rw [hpd]; simp only [piecesP, List.length_map, List.length_range]; rfl
              simp [this]
          exact key n (by omega)
        omega
      have hmxl : mx.length ≤ 48 := by rw [hperm.length_eq]; exact hall
      obtain ⟨in1, got, c1, c2, c3⟩ := joins_plain hmo (f := (f : Int)) (by omega) (l' := mx) (by rw [← hpd, hl0n, ← hal]; exact hperm)
      have hgl : got.length = n := by rw [c2.length_eq, hl0n]
      have hP0 : PsOk (zrs N) [] := ⟨by simp, by simp, by simp⟩
      have hSt : Str0 (zrs N) (zrs N) 0 (-1) [] := ⟨by omega, by omega, hzs, by omega, by omega, hzs, rfl, .inl rfl, rfl, by simp⟩
      have hl1 : ∀ d ∈ mx, d.ok = true ∧ d.st < (zrs N).length := by
        intro d hd
        have hd' := hperm.mem_iff.1 hd
        rw [hal, hpd] at hd'
        obtain ⟨j, i, a1, a2, _, rfl⟩ := mem_others.1 hd'
        rw [hzl]
        exact pc_ok hmo hN1.2 (by omega) a1 a2
      have hcm1 := fun F L nx => comes_ok (F := F) (L := L) (nx := nx) (zrs N) (zrs N) [] 0 (-1) hSt [] hP0 rfl mx hl1 (by simp; omega)
      rw [c1] at hcm1
      have hmi : ∀ F L nx, Con Try.prog 23 [.fs 8 (al.map Dat.row), .fs 1 (order.map oU), .int .i64 40] F L nx nx (.fs 8 (mx.map Dat.row)) [] [] := by
        intro F L nx
        rw [hmx]
        exact mixed_ok al order 40 (by omega) (by omega) (by omega) ho hol'
      simp only [strV, List.map_nil] at hnum hcm1
      have e7 : (((0 : Nat) : Int) != 0) = false := rfl
      have e8 : ((n : Int) != (n : Int)) = false := by simp
      simp only [wkNL, wkN, unown, g1, f0, f00, e7, e8, hl0n, hgl, Int.toNat_natCast, if_true, gq1, gq2, gq3, gq4, gq5, gq6, Msg.row, nm_beq, Nat.reduceBEq, Nat.reduceLeDiff, nB, nB', nS2, nS2', Nat.add_assoc, Nat.reduceAdd, List.length_map, List.map_cons, List.map_nil, List.length_nil, Nat.add_zero, go_sem, Meths.get, meths, Nat.reduceSub, Nat.reduceAdd, Nat.reduceMul, Nat.reduceEqDiff, Nat.reduceLT, Nat.reduceLeDiff, Nat.reduceBEq, Nat.reduceBNe, reduceIte, reduceCtorEq, Int.reduceToNat, String.reduceEq]
      repeat refine And.intro (by first | omega | exact ⟨by omega, by omega⟩ | exact ⟨by omega, by omega, by omega⟩ | exact ⟨⟨by omega, by omega⟩, by omega, by omega⟩ | exact okS (by kernel_rfl)) ?_
      refine CallVC.gen (args2 := [.agg [.fs 1 ((zrs N).map eI), .fs 1 ((zrs N).map eI), .fs 8 [], .int .i64 0, .int .i64 (-1), .fs 1 []], .fs 4 (l0.map Msg.row), .int .i64 f]) (by simp [Wk, WkL, List.take_of_length_le, hl0n, gq3, gq4, gq5, gq6]) (hnum _ _ _) ?_
      simp only [wkNL, wkN, unown, g1, f0, f00, e7, e8, hl0n, hgl, Int.toNat_natCast, if_true, gq1, gq2, gq3, gq4, gq5, gq6, Msg.row, nm_beq, Nat.reduceBEq, Nat.reduceLeDiff, nB, nB', nS2, nS2', Nat.add_assoc, Nat.reduceAdd, List.length_map, List.map_cons, List.map_nil, List.length_nil, Nat.add_zero, go_sem, Meths.get, meths, Nat.reduceSub, Nat.reduceAdd, Nat.reduceMul, Nat.reduceEqDiff, Nat.reduceLT, Nat.reduceLeDiff, Nat.reduceBEq, Nat.reduceBNe, reduceIte, reduceCtorEq, Int.reduceToNat, String.reduceEq]
      repeat refine And.intro (by first | omega | exact ⟨by omega, by omega⟩ | exact ⟨by omega, by omega, by omega⟩ | exact ⟨⟨by omega, by omega⟩, by omega, by omega⟩ | exact okS (by kernel_rfl)) ?_
      refine CallVC.same (hmi _ _ _) ?_
      simp only [wkNL, wkN, unown, g1, f0, f00, e7, e8, hl0n, hgl, Int.toNat_natCast, if_true, gq1, gq2, gq3, gq4, gq5, gq6, Msg.row, nm_beq, Nat.reduceBEq, Nat.reduceLeDiff, nB, nB', nS2, nS2', Nat.add_assoc, Nat.reduceAdd, List.length_map, List.map_cons, List.map_nil, List.length_nil, Nat.add_zero, go_sem, Meths.get, meths, Nat.reduceSub, Nat.reduceAdd, Nat.reduceMul, Nat.reduceEqDiff, Nat.reduceLT, Nat.reduceLeDiff, Nat.reduceBEq, Nat.reduceBNe, reduceIte, reduceCtorEq, Int.reduceToNat, String.reduceEq]
      repeat refine And.intro (by first | omega | exact ⟨by omega, by omega⟩ | exact ⟨by omega, by omega, by omega⟩ | exact ⟨⟨by omega, by omega⟩, by omega, by omega⟩ | exact okS (by kernel_rfl)) ?_
      refine CallVC.same (hcm1 _ _ _) ?_
      simp only [wkNL, wkN, unown, g1, f0, f00, e7, e8, hl0n, hgl, Int.toNat_natCast, if_true, gq1, gq2, gq3, gq4, gq5, gq6, Msg.row, nm_beq, Nat.reduceBEq, Nat.reduceLeDiff, nB, nB', nS2, nS2', Nat.add_assoc, Nat.reduceAdd, List.length_map, List.map_cons, List.map_nil, List.length_nil, Nat.add_zero, go_sem, Meths.get, meths, Nat.reduceSub, Nat.reduceAdd, Nat.reduceMul, Nat.reduceEqDiff, Nat.reduceLT, Nat.reduceLeDiff, Nat.reduceBEq, Nat.reduceBNe, reduceIte, reduceCtorEq, Int.reduceToNat, String.reduceEq]
      repeat refine And.intro (by first | omega | exact ⟨by omega, by omega⟩ | exact ⟨by omega, by omega, by omega⟩ | exact ⟨⟨by omega, by omega⟩, by omega, by omega⟩ | exact okS (by kernel_rfl)) ?_
      refine ⟨okDyn_num (·.i) (by kernel_rfl), CallVC.gen (args2 := [.fs 4 (l0.map Msg.row)]) (by simp [Wk, WkL, List.take_of_length_le, hl0n, gq3, gq4, gq5, gq6]) (cloneM_ok (l0.map Msg.row) (by simp; omega)) ?_⟩
      obtain ⟨r9, hr9⟩ : ∃ y, y = 1001408 := ⟨_, rfl⟩
      rw [← hr9]
      have gr1 : (r9 = 0) = False := by apply eq_false; omega
      have gr2 : (r9 = 480) = False := by apply eq_false; omega
      have gr3 : (r9 = q0) = False := by apply eq_false; omega
      have gr4 : (q0 = r9) = False := by apply eq_false; omega
      have gr5 : (r9 = 1000320) = False := by apply eq_false; omega
      have gr6 : (r9 = 1000768) = False := by apply eq_false; omega
      have gr7 : (1000320 = r9) = False := by apply eq_false; omega
      have gr8 : (1000768 = r9) = False := by apply eq_false; omega
      have gr9 : (480 = r9) = False := by apply eq_false; omega
      have gr0 : (0 = r9) = False := by apply eq_false; omega
      simp only [gr1, gr2, gr3, gr4, gr5, gr6, gr7, gr8, gr9, gr0, wkNL, wkN, unown, g1, f0, f00, e7, e8, hl0n, hgl, Int.toNat_natCast, if_true, gq1, gq2, gq3, gq4, gq5, gq6, Msg.row, nm_beq, Nat.reduceBEq, Nat.reduceLeDiff, nB, nB', nS2, nS2', Nat.add_assoc, Nat.reduceAdd, List.length_map, List.map_cons, List.map_nil, List.length_nil, Nat.add_zero, go_sem, Meths.get, meths, Nat.reduceSub, Nat.reduceAdd, Nat.reduceMul, Nat.reduceEqDiff, Nat.reduceLT, Nat.reduceLeDiff, Nat.reduceBEq, Nat.reduceBNe, reduceIte, reduceCtorEq, Int.reduceToNat, String.reduceEq]
      refine loopK.intro _ _ (I := fun z : JoZ => ⟨[none, none, none, some (.ptr ⟨L + 1, 480⟩ 0 0), none, some (.sl ⟨L + 1, q0⟩ 0 n), none, none, none, none, none, none, some (.fs 4 (got.map Msg.row)), some (.sl ⟨L + 1, r9⟩ 0 z.R.length), none, none, none, none, none, none, none, none, none, none, none, none, none, none, none, none, none, none, none, none, none, none, none, none, none, none, none, none, none, none, none, none, none, none, none, none, none, none, none, none, none, none, none, none, none, none, none, none, none, none, none, none, none, none, none, none, none, none, none, none, none, none, none, none, none, none, none, none, none, none, none, none, none, none, none, none, none, none, none, none, none, some (.fs 4 (got.map Msg.row)), some (.int .i64 n), some (.int .i64 z.k), none, none, none, none, none, none, none, none, none, none, none, none, none, none, none, none, none, none, none, none, none, none, none, none, none, none, none, none, none, none, none, none],
        [(⟨L + 1, 480⟩, .rows 34 6 true true [[.fs 1 ((zrs N).map eI), .fs 1 ((zrs N).map eI), .fs 8 [], .int .i64 0, .int .i64 (-1), .fs 1 []]]), (⟨L + 1, q0⟩, .rows 37 4 false true (l0.map Msg.row)), (⟨L + 1, r9⟩, .rows 37 4 true true (z.R.map Msg.row ++ List.replicate z.z zM))], if z.k = n then 10000000 else 10000 * (z.i + 1)⟩)
        (pre := fun z => z.k ≤ n ∧ z.i = 200 + z.k ∧ (got.drop z.k).Perm z.R ∧ z.z = z.k) (μ := fun z => n - z.k) ⟨0, 200, l0, 0⟩ ⟨by simp, rfl, by simpa using c2, rfl⟩ ?_ ?_
      · refine Sub.of (fun n hn => hF2 n (by have : n.l = L + 1 := hn; omega)) (by simp only [hl0n, hgl, List.length_map, go_sem, resVal, resVals, resVal1, one, Wk, WkL, WkLL, wkN, wkNL, wkNLL, UpdIn, UpdAll, BW, plainP, plainPL, subT, subH, subK, and_self, true_or, or_true, List.not_mem_nil, List.mem_cons, forall_eq, imp_self, implies_true, Nat.reduceSub, Nat.reduceAdd, Nat.reduceMul, Nat.reduceEqDiff, Nat.reduceLT, Nat.reduceLeDiff, Nat.reduceBEq, Nat.reduceBNe, reduceIte, reduceCtorEq, Int.reduceToNat, String.reduceEq, Int.natCast_zero]) ?_ (by simp [subK, keys, updH, setH, gr1, gr2, gr3, gr4, gr5, gr6, gr7, gr8, gr9, gr0]) (by simp only []; split <;> omega)
        simp [subH, Tx.look, updH, setH, gq3, gq4, gq5, gq6, gr1, gr2, gr3, gr4, gr5, gr6, gr7, gr8, gr9, gr0]
      · rintro ⟨k, i, R, z⟩ ⟨h1, h2, h3, h4⟩
        simp only at h1 h2 h3 h4 ⊢
        have q0_480 : (q0 = 480) = False := by apply eq_false; omega
        have n480_q0 : (480 = q0) = False := by apply eq_false; omega
        have q0_r9 : (q0 = r9) = False := by apply eq_false; omega
        have nr9_q0 : (r9 = q0) = False := by apply eq_false; omega
        have q0_n1 : ∀ kk, (10000 * (i + 1) + kk = q0) = False := fun kk => by apply eq_false; omega
        have q0_n2 : ∀ kk, (q0 = 10000 * (i + 1) + kk) = False := fun kk => by apply eq_false; omega
        have q0_n3 : (10000 * (i + 1) = q0) = False := by apply eq_false; omega
        have q0_n4 : (q0 = 10000 * (i + 1)) = False := by apply eq_false; omega
        have q0_n5 : ∀ kk, ((⟨L + 1, q0⟩ : Nm) == ⟨L + 1, 10000 * (i + 1) + kk⟩) = false := fun kk => by simp; omega
        have r9_480 : (r9 = 480) = False := by apply eq_false; omega
        have n480_r9 : (480 = r9) = False := by apply eq_false; omega
        have r9_n1 : ∀ kk, (10000 * (i + 1) + kk = r9) = False := fun kk => by apply eq_false; omega
        have r9_n2 : ∀ kk, (r9 = 10000 * (i + 1) + kk) = False := fun kk => by apply eq_false; omega
        have r9_n3 : (10000 * (i + 1) = r9) = False := by apply eq_false; omega
        have r9_n4 : (r9 = 10000 * (i + 1)) = False := by apply eq_false; omega
        have r9_n5 : ∀ kk, ((⟨L + 1, r9⟩ : Nm) == ⟨L + 1, 10000 * (i + 1) + kk⟩) = false := fun kk => by simp; omega
        have hRl : R.length + k = n := by have := h3.length_eq; simp at this; omega
        by_cases hlt : k < n
        · have hkN : (k = n) = False := by apply eq_false; omega
          have g1 : decide ((k : Int) < (n : Int)) = true := dT (by omega)
          have hgk : k < got.length := by omega
          have r0 := rowM hgk
          obtain ⟨m, hm⟩ : ∃ m, m = got[k] := ⟨_, rfl⟩
          rw [← hm] at r0
          rw [List.drop_eq_getElem_cons hgk, ← hm] at h3
          have hmR : m ∈ R := h3.mem_iff.1 (by simp)
          simp only [r0, hkN, wkNL, wkN, unown, g1, f0, f00, e7, e8, hl0n, hgl, Int.toNat_natCast, if_true, gq1, gq2, gq3, gq4, gq5, gq6, Msg.row, nm_beq, Nat.reduceBEq, Nat.reduceLeDiff, nB, nB', nS2, nS2', Nat.add_assoc, Nat.reduceAdd, List.length_map, List.map_cons, List.map_nil, List.length_nil, Nat.add_zero, go_sem, Meths.get, meths, Nat.reduceSub, Nat.reduceAdd, Nat.reduceMul, Nat.reduceEqDiff, Nat.reduceLT, Nat.reduceLeDiff, Nat.reduceBEq, Nat.reduceBNe, reduceIte, reduceCtorEq, Int.reduceToNat, String.reduceEq, q0_480, n480_q0, q0_r9, nr9_q0, q0_n1, q0_n2, q0_n3, q0_n4, q0_n5, r9_480, n480_r9, r9_n1, r9_n2, r9_n3, r9_n4, r9_n5]
          repeat refine And.intro (by first | omega | exact ⟨by omega, by omega⟩ | exact ⟨by omega, by omega, by omega⟩ | exact ⟨⟨by omega, by omega⟩, by omega, by omega⟩ | exact okS (by kernel_rfl)) ?_
          have etk : List.take R.length (R.map Msg.row ++ List.replicate z zM) = R.map Msg.row := by rw [List.take_append_of_le_length (by simp), List.take_of_length_le (by simp)]
          refine CallVC.pure (args2 := [.fs 4 (R.map Msg.row), .agg m.row]) (by simp [Wk, WkL, etk, Msg.row, q0_480, n480_q0, q0_r9, nr9_q0, q0_n1, q0_n2, q0_n3, q0_n4, q0_n5, r9_480, n480_r9, r9_n1, r9_n2, r9_n3, r9_n4, r9_n5]) (indexM_ok R m (by omega)) rfl ?_
          rcases idx_cases (l := R) (fun y => eqM m y) with ⟨_, hno⟩ | ⟨i1, hi1, e0, hpi, _⟩
          · obtain ⟨j, hj, he⟩ := List.getElem_of_mem hmR
            have := hno j hj
            rw [he, eqM_iff] at this
            simp at this
          · rw [e0]
            have hRm : R[i1] = m := by rw [eqM_iff] at hpi; exact (of_decide_eq_true hpi).symm
            have hpe : (got.drop (k + 1)).Perm (R.eraseIdx i1) := by
              have := h3.trans (eraseIdx_perm hi1).symm
              rw [hRm] at this
              exact this.cons_inv
            have hel : (R.eraseIdx i1).length = R.length - 1 := by rw [List.length_eraseIdx, if_pos hi1]
            have hde := delR_map Msg.row zM R z i1 hi1
            have hE : ∀ F L nx (n : Nm) (hn : n.l < L ∨ (n.l = L ∧ n.i < nx)) (hF : F n = some (.rows 37 4 true true (R.map Msg.row ++ List.replicate z zM))), Con Try.prog 26 [.sl n 0 R.length, .int .i64 i1, .int .i64 ((i1 : Int) + 1)] F L nx nx (.sl n 0 (R.length - 1)) [(n, .rows 37 4 true true ((R.eraseIdx i1).map Msg.row ++ List.replicate (z + 1) zM))] [n] := by
              intro F L nx n hn hF
              have := deleteM_ok (F := F) (L := L) (nx := nx) n hn (R.map Msg.row ++ List.replicate z zM) R.length i1 hi1 (by simp) (by simp; omega) hF
              rw [hde] at this
              exact this
            have g2 : decide ((i1 : Int) < 0) = false := dF (by omega)
            simp only [g2, r0, hkN, wkNL, wkN, unown, g1, f0, f00, e7, e8, hl0n, hgl, Int.toNat_natCast, if_true, gq1, gq2, gq3, gq4, gq5, gq6, Msg.row, nm_beq, Nat.reduceBEq, Nat.reduceLeDiff, nB, nB', nS2, nS2', Nat.add_assoc, Nat.reduceAdd, List.length_map, List.map_cons, List.map_nil, List.length_nil, Nat.add_zero, go_sem, Meths.get, meths, Nat.reduceSub, Nat.reduceAdd, Nat.reduceMul, Nat.reduceEqDiff, Nat.reduceLT, Nat.reduceLeDiff, Nat.reduceBEq, Nat.reduceBNe, reduceIte, reduceCtorEq, Int.reduceToNat, String.reduceEq, q0_480, n480_q0, q0_r9, nr9_q0, q0_n1, q0_n2, q0_n3, q0_n4, q0_n5, r9_480, n480_r9, r9_n1, r9_n2, r9_n3, r9_n4, r9_n5]
            repeat refine And.intro (by first | omega | exact ⟨by omega, by omega⟩ | exact ⟨by omega, by omega, by omega⟩ | exact ⟨⟨by omega, by omega⟩, by omega, by omega⟩ | exact okS (by kernel_rfl)) ?_
            refine CallVC.same (hE _ _ _ ⟨L + 1, r9⟩ (.inr ⟨rfl, by simp only []; omega⟩) (by simp [q0_480, n480_q0, q0_r9, nr9_q0, q0_n1, q0_n2, q0_n3, q0_n4, q0_n5, r9_480, n480_r9, r9_n1, r9_n2, r9_n3, r9_n4, r9_n5])) ?_
            simp only [g2, r0, hkN, wkNL, wkN, unown, g1, f0, f00, e7, e8, hl0n, hgl, Int.toNat_natCast, if_true, gq1, gq2, gq3, gq4, gq5, gq6, Msg.row, nm_beq, Nat.reduceBEq, Nat.reduceLeDiff, nB, nB', nS2, nS2', Nat.add_assoc, Nat.reduceAdd, List.length_map, List.map_cons, List.map_nil, List.length_nil, Nat.add_zero, go_sem, Meths.get, meths, Nat.reduceSub, Nat.reduceAdd, Nat.reduceMul, Nat.reduceEqDiff, Nat.reduceLT, Nat.reduceLeDiff, Nat.reduceBEq, Nat.reduceBNe, reduceIte, reduceCtorEq, Int.reduceToNat, String.reduceEq, q0_480, n480_q0, q0_r9, nr9_q0, q0_n1, q0_n2, q0_n3, q0_n4, q0_n5, r9_480, n480_r9, r9_n1, r9_n2, r9_n3, r9_n4, r9_n5]
            repeat refine And.intro (by first | omega | exact ⟨by omega, by omega⟩ | exact ⟨by omega, by omega, by omega⟩ | exact ⟨⟨by omega, by omega⟩, by omega, by omega⟩ | exact okS (by kernel_rfl)) ?_
            refine ⟨⟨k + 1, i + 1, R.eraseIdx i1, z + 1⟩, ⟨by simp only []; omega, by simp only []; omega, hpe, by simp only []; omega⟩, by simp only []; omega, ?_⟩
            refine Sub.of (fun n hn => hF2 n (by have : n.l = L + 1 := hn; omega)) (by simp only [hel, go_sem, resVal, resVals, resVal1, one, Wk, WkL, WkLL, wkN, wkNL, wkNLL, UpdIn, UpdAll, BW, plainP, plainPL, subT, subH, subK, and_self, true_or, or_true, List.not_mem_nil, List.mem_cons, forall_eq, imp_self, implies_true, Nat.reduceSub, Nat.reduceAdd, Nat.reduceMul, Nat.reduceEqDiff, Nat.reduceLT, Nat.reduceLeDiff, Nat.reduceBEq, Nat.reduceBNe, reduceIte, reduceCtorEq, Int.reduceToNat, String.reduceEq, Int.natCast_succ]) ?_ (by simp [subK, keys]) (by simp only []; split <;> omega)
            simp [subH, Tx.look, List.replicate_succ, nm_beq, Nat.reduceBEq, Nat.reduceLeDiff, nB, nB', nS2, nS2', Nat.add_assoc, Nat.reduceAdd, q0_480, n480_q0, q0_r9, nr9_q0, q0_n1, q0_n2, q0_n3, q0_n4, q0_n5, r9_480, n480_r9, r9_n1, r9_n2, r9_n3, r9_n4, r9_n5]
        · have hkN : n = k := by omega
          subst hkN
          have g1 : decide ((n : Int) < (n : Int)) = false := dF (by omega)
          have gz1 : ∀ c, 10000000 ≤ c → (c = q0) = False := fun c hc => by apply eq_false; omega
          have gz2 : ∀ c, 10000000 ≤ c → (q0 = c) = False := fun c hc => by apply eq_false; omega
          have gz3 : ∀ c, 10000000 ≤ c → (c = r9) = False := fun c hc => by apply eq_false; omega
          have gz4 : ∀ c, 10000000 ≤ c → (r9 = c) = False := fun c hc => by apply eq_false; omega
          simp only [gz1, gz2, gz3, gz4, hzl, wkNL, wkN, unown, g1, f0, f00, e7, e8, hl0n, hgl, Int.toNat_natCast, if_true, gq1, gq2, gq3, gq4, gq5, gq6, Msg.row, nm_beq, Nat.reduceBEq, Nat.reduceLeDiff, nB, nB', nS2, nS2', Nat.add_assoc, Nat.reduceAdd, List.length_map, List.map_cons, List.map_nil, List.length_nil, Nat.add_zero, go_sem, Meths.get, meths, Nat.reduceSub, Nat.reduceAdd, Nat.reduceMul, Nat.reduceEqDiff, Nat.reduceLT, Nat.reduceLeDiff, Nat.reduceBEq, Nat.reduceBNe, reduceIte, reduceCtorEq, Int.reduceToNat, String.reduceEq, q0_480, n480_q0, q0_r9, nr9_q0, q0_n1, q0_n2, q0_n3, q0_n4, q0_n5, r9_480, n480_r9, r9_n1, r9_n2, r9_n3, r9_n4, r9_n5]
          refine loopK.intro _ _ (I := fun z : Nat × Nat => ⟨[none, none, none, none, none, some (.sl ⟨L + 1, q0⟩ 0 n), none, none, none, none, none, none, some (.fs 4 (got.map Msg.row)), none, none, none, none, none, none, none, none, none, none, none, none, none, none, none, none, none, none, none, none, none, none, none, none, none, none, none, none, none, none, none, none, none, none, none, none, none, none, none, none, none, none, none, none, none, none, none, none, none, none, none, none, none, none, none, none, none, none, none, none, none, none, none, none, none, none, none, none, none, none, none, none, none, none, none, none, none, none, none, none, none, none, none, none, none, none, none, none, none, none, none, none, none, none, none, none, none, none, none, none, none, some (.int .i64 N), some (.int .i64 z.1), none, none, none, none, none, none, none, none, none, none, none, none, none, none],
            [(⟨L + 1, q0⟩, .rows 37 4 false true (l0.map Msg.row))], 10000 * (z.2 + 1)⟩)
            (pre := fun z => z.1 ≤ N ∧ z.2 = 2000 + z.1) (μ := fun z => N - z.1) (0, 2000) ⟨by simp, rfl⟩ ?_ ?_
          · refine Sub.of (fun n hn => hF2 n (by have : n.l = L + 1 := hn; omega)) (by simp only [go_sem, resVal, resVals, resVal1, one, Wk, WkL, WkLL, wkN, wkNL, wkNLL, UpdIn, UpdAll, BW, plainP, plainPL, subT, subH, subK, and_self, true_or, or_true, List.not_mem_nil, List.mem_cons, forall_eq, imp_self, implies_true, Nat.reduceSub, Nat.reduceAdd, Nat.reduceMul, Nat.reduceEqDiff, Nat.reduceLT, Nat.reduceLeDiff, Nat.reduceBEq, Nat.reduceBNe, reduceIte, reduceCtorEq, Int.reduceToNat, String.reduceEq, Int.natCast_zero]) ?_ (by simp [subK, keys]) (by simp)
            simp [subH, Tx.look, q0_480, n480_q0, q0_r9, nr9_q0, q0_n1, q0_n2, q0_n3, q0_n4, q0_n5, r9_480, n480_r9, r9_n1, r9_n2, r9_n3, r9_n4, r9_n5]
          · clear gr1 gr2 gr3 gr4 gr5 gr6 gr7 gr8 gr9 gr0 gz1 gz2 gz3 gz4 q0_n1 q0_n2 q0_n3 q0_n4 q0_n5 r9_n1 r9_n2 r9_n3 r9_n4 r9_n5 q0_480 n480_q0 q0_r9 nr9_q0 r9_480 n480_r9 h2 h4 i z
            rintro ⟨k, i⟩ ⟨h1, h2⟩
            simp only at h1 h2 ⊢
            have q0_0 : (q0 = 0) = False := by apply eq_false; omega
            have n0_q0 : (0 = q0) = False := by apply eq_false; omega
            have q0_n1 : ∀ kk, (10000 * (i + 1) + kk = q0) = False := fun kk => by apply eq_false; omega
            have q0_n2 : ∀ kk, (q0 = 10000 * (i + 1) + kk) = False := fun kk => by apply eq_false; omega
            have q0_n3 : (10000 * (i + 1) = q0) = False := by apply eq_false; omega
            have q0_n4 : (q0 = 10000 * (i + 1)) = False := by apply eq_false; omega
            have q0_n5 : ∀ kk, ((⟨L + 1, q0⟩ : Nm) == ⟨L + 1, 10000 * (i + 1) + kk⟩) = false := fun kk => by simp; omega
            by_cases hlt : k < N
            · have g1 : decide ((k : Int) < (N : Int)) = true := dT (by omega)
              simp only [wkNL, wkN, unown, g1, f0, f00, e7, e8, hl0n, hgl, Int.toNat_natCast, if_true, gq1, gq2, gq3, gq4, gq5, gq6, Msg.row, nm_beq, Nat.reduceBEq, Nat.reduceLeDiff, nB, nB', nS2, nS2', Nat.add_assoc, Nat.reduceAdd, List.length_map, List.map_cons, List.map_nil, List.length_nil, Nat.add_zero, go_sem, Meths.get, meths, Nat.reduceSub, Nat.reduceAdd, Nat.reduceMul, Nat.reduceEqDiff, Nat.reduceLT, Nat.reduceLeDiff, Nat.reduceBEq, Nat.reduceBNe, reduceIte, reduceCtorEq, Int.reduceToNat, String.reduceEq, q0_0, n0_q0, q0_n1, q0_n2, q0_n3, q0_n4, q0_n5]
              repeat refine And.intro (by first | omega | exact ⟨by omega, by omega⟩ | exact ⟨by omega, by omega, by omega⟩ | exact ⟨⟨by omega, by omega⟩, by omega, by omega⟩ | exact okS (by kernel_rfl)) ?_
              have hD : ∀ (l : List Msg) (hl : l.length = n) (F : SF) (L nx : Nat) (nm c : Nm) (hn : nm.l < L ∨ (nm.l = L ∧ nm.i < nx)) (hc : c.l ≤ L) (hnc : nm ≠ c) (hF : F nm = some (.rows 37 4 true true (l.map Msg.row))) (hFc : F c = some (.rows 3 1 true true [[.int .i64 k]])),
                  Con Try.prog 29 [.sl nm 0 n, .fn (.func 27) [] [.ptr c 0 0]] F L nx nx (.sl nm 0 (l.filter (ordB k)).length) [(nm, .rows 37 4 true true ((l.filter (ordB k)).map Msg.row ++ List.replicate (n - (l.filter (ordB k)).length) zM))] [nm, c] := by
                intro l hl F L nx nm c hn hc hnc hF hFc
                have hk : keptM l (fun m => !(ordB k m)) = l.filter (ordB k) := by simp [keptM]
                have := deleteFuncM_ok (F := F) (L := L) (nx := nx) nm hn l 27 [] [.ptr c 0 0] (fun m => !(ordB k m)) [c] (by simpa using hc) (by simpa using hnc) (by omega) hF (fun x hx L' nx' hL => joins1_ok x c (by omega) 3 true true k hFc)
                rw [hk, hl] at this
                exact this
              obtain ⟨A, hA⟩ : ∃ A, A = l0.filter (ordB k) := ⟨_, rfl⟩
              have hg : got.filter (ordB k) = A := by rw [hA]; exact c3 k
              have hD1 := hD l0 hl0n
              have hD2 := hD got hgl
              rw [← hA] at hD1
              rw [hg] at hD2
              have hAl : A.length ≤ n := by rw [hA, ← hl0n]; exact List.length_filter_le _ _
              have etk : ∀ z, List.take A.length (A.map Msg.row ++ List.replicate z zM) = A.map Msg.row := fun z => by rw [List.take_append_of_le_length (by simp), List.take_of_length_le (by simp)]
              have hsm : ∀ F L nx, Con Try.prog 28 [.fs 4 (A.map Msg.row), .fs 4 (A.map Msg.row)] F L nx nx (.bool true) [] [] := by
                intro F L nx
                have := same_ok (F := F) (L := L) (nx := nx) A A (by omega) (by omega)
                simpa using this
              refine CallVC.gen (args2 := [.fs 4 (l0.map Msg.row)]) (by simp [Wk, WkL, List.take_of_length_le, hl0n, q0_0, n0_q0, q0_n1, q0_n2, q0_n3, q0_n4, q0_n5]) (cloneM_ok (l0.map Msg.row) (by simp; omega)) ?_
              simp only [wkNL, wkN, unown, g1, f0, f00, e7, e8, hl0n, hgl, Int.toNat_natCast, if_true, gq1, gq2, gq3, gq4, gq5, gq6, Msg.row, nm_beq, Nat.reduceBEq, Nat.reduceLeDiff, nB, nB', nS2, nS2', Nat.add_assoc, Nat.reduceAdd, List.length_map, List.map_cons, List.map_nil, List.length_nil, Nat.add_zero, go_sem, Meths.get, meths, Nat.reduceSub, Nat.reduceAdd, Nat.reduceMul, Nat.reduceEqDiff, Nat.reduceLT, Nat.reduceLeDiff, Nat.reduceBEq, Nat.reduceBNe, reduceIte, reduceCtorEq, Int.reduceToNat, String.reduceEq, q0_0, n0_q0, q0_n1, q0_n2, q0_n3, q0_n4, q0_n5]
              repeat refine And.intro (by first | omega | exact ⟨by omega, by omega⟩ | exact ⟨by omega, by omega, by omega⟩ | exact ⟨⟨by omega, by omega⟩, by omega, by omega⟩ | exact okS (by kernel_rfl)) ?_
              refine CallVC.same (hD1 _ _ _ ⟨L + 1, 10000 * (i + 1) + 224⟩ ⟨L + 1, 10000 * (i + 1) + 64⟩ (.inr ⟨rfl, by simp only []; omega⟩) (Nat.le_refl _) (by simp) (by simp [q0_0, n0_q0, q0_n1, q0_n2, q0_n3, q0_n4, q0_n5]) (by simp [q0_0, n0_q0, q0_n1, q0_n2, q0_n3, q0_n4, q0_n5])) ?_
              simp only [wkNL, wkN, unown, g1, f0, f00, e7, e8, hl0n, hgl, Int.toNat_natCast, if_true, gq1, gq2, gq3, gq4, gq5, gq6, Msg.row, nm_beq, Nat.reduceBEq, Nat.reduceLeDiff, nB, nB', nS2, nS2', Nat.add_assoc, Nat.reduceAdd, List.length_map, List.map_cons, List.map_nil, List.length_nil, Nat.add_zero, go_sem, Meths.get, meths, Nat.reduceSub, Nat.reduceAdd, Nat.reduceMul, Nat.reduceEqDiff, Nat.reduceLT, Nat.reduceLeDiff, Nat.reduceBEq, Nat.reduceBNe, reduceIte, reduceCtorEq, Int.reduceToNat, String.reduceEq, q0_0, n0_q0, q0_n1, q0_n2, q0_n3, q0_n4, q0_n5]
              repeat refine And.intro (by first | omega | exact ⟨by omega, by omega⟩ | exact ⟨by omega, by omega, by omega⟩ | exact ⟨⟨by omega, by omega⟩, by omega, by omega⟩ | exact okS (by kernel_rfl)) ?_
              refine CallVC.same (cloneM_ok (got.map Msg.row) (by simp; omega)) ?_
              simp only [wkNL, wkN, unown, g1, f0, f00, e7, e8, hl0n, hgl, Int.toNat_natCast, if_true, gq1, gq2, gq3, gq4, gq5, gq6, Msg.row, nm_beq, Nat.reduceBEq, Nat.reduceLeDiff, nB, nB', nS2, nS2', Nat.add_assoc, Nat.reduceAdd, List.length_map, List.map_cons, List.map_nil, List.length_nil, Nat.add_zero, go_sem, Meths.get, meths, Nat.reduceSub, Nat.reduceAdd, Nat.reduceMul, Nat.reduceEqDiff, Nat.reduceLT, Nat.reduceLeDiff, Nat.reduceBEq, Nat.reduceBNe, reduceIte, reduceCtorEq, Int.reduceToNat, String.reduceEq, q0_0, n0_q0, q0_n1, q0_n2, q0_n3, q0_n4, q0_n5]
              repeat refine And.intro (by first | omega | exact ⟨by omega, by omega⟩ | exact ⟨by omega, by omega, by omega⟩ | exact ⟨⟨by omega, by omega⟩, by omega, by omega⟩ | exact okS (by kernel_rfl)) ?_
              refine CallVC.same (hD2 _ _ _ ⟨L + 1, 10000 * (i + 1) + 289⟩ ⟨L + 1, 10000 * (i + 1) + 64⟩ (.inr ⟨rfl, by simp only []; omega⟩) (Nat.le_refl _) (by simp) (by simp [q0_0, n0_q0, q0_n1, q0_n2, q0_n3, q0_n4, q0_n5]) (by simp [q0_0, n0_q0, q0_n1, q0_n2, q0_n3, q0_n4, q0_n5])) ?_
              simp only [wkNL, wkN, unown, g1, f0, f00, e7, e8, hl0n, hgl, Int.toNat_natCast, if_true, gq1, gq2, gq3, gq4, gq5, gq6, Msg.row, nm_beq, Nat.reduceBEq, Nat.reduceLeDiff, nB, nB', nS2, nS2', Nat.add_assoc, Nat.reduceAdd, List.length_map, List.map_cons, List.map_nil, List.length_nil, Nat.add_zero, go_sem, Meths.get, meths, Nat.reduceSub, Nat.reduceAdd, Nat.reduceMul, Nat.reduceEqDiff, Nat.reduceLT, Nat.reduceLeDiff, Nat.reduceBEq, Nat.reduceBNe, reduceIte, reduceCtorEq, Int.reduceToNat, String.reduceEq, q0_0, n0_q0, q0_n1, q0_n2, q0_n3, q0_n4, q0_n5]
              repeat refine And.intro (by first | omega | exact ⟨by omega, by omega⟩ | exact ⟨by omega, by omega, by omega⟩ | exact ⟨⟨by omega, by omega⟩, by omega, by omega⟩ | exact okS (by kernel_rfl)) ?_
              refine CallVC.gen (args2 := [.fs 4 (A.map Msg.row), .fs 4 (A.map Msg.row)]) (by simp [Wk, WkL, etk, q0_0, n0_q0, q0_n1, q0_n2, q0_n3, q0_n4, q0_n5]) (hsm _ _ _) ?_
              simp only [wkNL, wkN, unown, g1, f0, f00, e7, e8, hl0n, hgl, Int.toNat_natCast, if_true, gq1, gq2, gq3, gq4, gq5, gq6, Msg.row, nm_beq, Nat.reduceBEq, Nat.reduceLeDiff, nB, nB', nS2, nS2', Nat.add_assoc, Nat.reduceAdd, List.length_map, List.map_cons, List.map_nil, List.length_nil, Nat.add_zero, go_sem, Meths.get, meths, Nat.reduceSub, Nat.reduceAdd, Nat.reduceMul, Nat.reduceEqDiff, Nat.reduceLT, Nat.reduceLeDiff, Nat.reduceBEq, Nat.reduceBNe, reduceIte, reduceCtorEq, Int.reduceToNat, String.reduceEq, q0_0, n0_q0, q0_n1, q0_n2, q0_n3, q0_n4, q0_n5]
              repeat refine And.intro (by first | omega | exact ⟨by omega, by omega⟩ | exact ⟨by omega, by omega, by omega⟩ | exact ⟨⟨by omega, by omega⟩, by omega, by omega⟩ | exact okS (by kernel_rfl)) ?_
              refine ⟨(k + 1, i + 1), ⟨by simp only []; omega, by simp only []; omega⟩, by simp only []; omega, ?_⟩
              refine Sub.of (fun n hn => hF2 n (by have : n.l = L + 1 := hn; omega)) (by simp only [go_sem, resVal, resVals, resVal1, one, Wk, WkL, WkLL, wkN, wkNL, wkNLL, UpdIn, UpdAll, BW, plainP, plainPL, subT, subH, subK, and_self, true_or, or_true, List.not_mem_nil, List.mem_cons, forall_eq, imp_self, implies_true, Nat.reduceSub, Nat.reduceAdd, Nat.reduceMul, Nat.reduceEqDiff, Nat.reduceLT, Nat.reduceLeDiff, Nat.reduceBEq, Nat.reduceBNe, reduceIte, reduceCtorEq, Int.reduceToNat, String.reduceEq, Int.natCast_succ]) ?_ (by simp [subK, keys]) (by simp only []; omega)
              simp [subH, Tx.look, nm_beq, Nat.reduceBEq, Nat.reduceLeDiff, nB, nB', nS2, nS2', Nat.add_assoc, Nat.reduceAdd, q0_0, n0_q0, q0_n1, q0_n2, q0_n3, q0_n4, q0_n5]
            · have g1 : decide ((k : Int) < (N : Int)) = false := dF (by omega)
              simp only [wkNL, wkN, unown, g1, f0, f00, e7, e8, hl0n, hgl, Int.toNat_natCast, if_true, gq1, gq2, gq3, gq4, gq5, gq6, Msg.row, nm_beq, Nat.reduceBEq, Nat.reduceLeDiff, nB, nB', nS2, nS2', Nat.add_assoc, Nat.reduceAdd, List.length_map, List.map_cons, List.map_nil, List.length_nil, Nat.add_zero, go_sem, Meths.get, meths, Nat.reduceSub, Nat.reduceAdd, Nat.reduceMul, Nat.reduceEqDiff, Nat.reduceLT, Nat.reduceLeDiff, Nat.reduceBEq, Nat.reduceBNe, reduceIte, reduceCtorEq, Int.reduceToNat, String.reduceEq, q0_0, n0_q0, q0_n1, q0_n2, q0_n3, q0_n4, q0_n5]
              repeat refine And.intro (by first | omega | exact ⟨by omega, by omega⟩ | exact ⟨by omega, by omega, by omega⟩ | exact ⟨⟨by omega, by omega⟩, by omega, by omega⟩ | exact okS (by kernel_rfl)) ?_
              exact .bool (.inr rfl) rfl rfl (by simp [UpdAll, keys])
end Go.Proofs.Ytfhhbkehlfipgaa
end
