/- Lemmas for the walk: C57, C49, C50, C51. -/
import Derived.Test.YtfhhbkehlfipgaaP13
import Derived.Test.YtfhhbkehlfipgaaP12
section
set_option linter.unusedSimpArgs false
set_option linter.unusedVariables false
set_option linter.unnecessarySimpa false
set_option linter.unusedSectionVars false
namespace Go.Proofs.Ytfhhbkehlfipgaa
open Go.Tx
set_option maxRecDepth 100000
set_option maxHeartbeats 16000000
set_option linter.unusedSimpArgs false
set_option linter.unusedVariables false
theorem startF_ok {F : SF} {L nx : Nat} (o i : Nat) (f a b : Int) (w r : PV) (ho : o < 256) (hi : i < 256) (ha1 : 0 ≤ a) (ha2 : a < 65536) (hb1 : 0 ≤ b) (hb2 : b < 65536) :
    Con Try.prog 10 [.agg [.int .u8 o, .int .u8 i, .int .u32 f, .int .u16 a, .int .u16 b, w, r]] F L nx nx (strV (((zrs (1 + o % 16)).set 0 a).set (o % 16) b) ((zrs (1 + i % 16)).set 0 b) 0 (-1) [] []) [] [] := by
  have h := start_ok (F := F) (L := L + 1) (nx := 0) o i f a b w r ho hi ha1 ha2 hb1 hb2
  have e1 : (((zrs (1 + o % 16)).set 0 a).set (o % 16) b).length = 1 + o % 16 := by simp [zrs]
  have e2 : ((zrs (1 + i % 16)).set 0 b).length = 1 + i % 16 := by simp [zrs]
  refine Con.frozen h (by simp [keys]) (fun F => ?_) ?_ ?_
  · simp [strV, Wk, WkL, SF.upd, SF.set, e1, e2, List.take_of_length_le, -List.map_set]
  · simp [strV, wkN, wkNL]
  · simp [strV, Tx.nf, nfl]
def startI (i : Nat) (b : Int) : List Int := (zrs (1 + i % 16)).set 0 b
def piecesW (i : Nat) (f : Int) (b : Int) (ws : List Wd) : List Dat := (numG f (startI i b) (msgsW (1 + i % 16) ws) []).2
theorem piecesD_ok {F : SF} {L nx : Nat} (o i0 : Nat) (f : Nat) (hf : f < 4294967296) (a b : Int) (ho : o < 256) (hi : i0 < 256) (ha1 : 0 ≤ a) (ha2 : a < 65536) (hb1 : 0 ≤ b) (hb2 : b < 65536) (ws : List Wd) (hws : ∀ w ∈ ws, w.ok) (hwl : ws.length ≤ 9223372036854775807) (ks : List Nat) :
    Con Try.prog 33 [.agg [.int .u8 o, .int .u8 i0, .int .u32 f, .int .u16 a, .int .u16 b, .fs 4 (ws.map Wd.row), .fs 1 (ks.map oU)]] F L nx nx (.fs 8 ((piecesW i0 f b ws).map Dat.row)) [] [] := by
  have hst := fun F L nx => startF_ok (F := F) (L := L) (nx := nx) o i0 f a b (.fs 4 (ws.map Wd.row)) (.fs 1 (ks.map oU)) ho hi ha1 ha2 hb1 hb2
  obtain ⟨N, hN⟩ : ∃ N, N = 1 + i0 % 16 := ⟨_, rfl⟩
  have hN1 : 1 ≤ N ∧ N ≤ 16 := by omega
  obtain ⟨inn, hinn⟩ : ∃ x, x = (zrs (1 + i0 % 16)).set 0 b := ⟨_, rfl⟩
  have hil : inn.length = N := by rw [hinn, hN]; simp [zrs]
  have his : inn.all (serB 16) = true := by
    have h16 : (2 : Int) ^ (Int.toNat 16) = 65536 := rfl
    rw [hinn, List.all_eq_true]
    intro x hx
    rcases List.mem_or_eq_of_mem_set hx with h | rfl
    · simp [zrs] at h; rw [h]; rfl
    · simp only [serB, h16, Bool.and_eq_true, decide_eq_true_eq]; omega
  obtain ⟨l, hl⟩ : ∃ x, x = msgsW N ws := ⟨_, rfl⟩
  have hpw : piecesW i0 f b ws = (numG f inn l []).2 := by unfold piecesW startI; rw [← hinn, ← hN, ← hl]
  rw [hpw]
  obtain ⟨out0, hout0⟩ : ∃ x, x = ((zrs (1 + o % 16)).set 0 a).set (o % 16) b := ⟨_, rfl⟩
  rw [← hinn, ← hout0] at hst
  have hll : l.length = min 12 ws.length := by rw [hl]; simp [msgsW]
  have hmo : ∀ m ∈ l, MsgOk inn.length m := by
    intro m hm
    have h := msgsW_ok hN1.1 ws
    rw [hl] at hm
    have h32 : (2 : Int) ^ (Int.toNat 32) = 4294967296 := rfl
    have := h.pr m hm
    exact ⟨(h.st m hm).1, by rw [hil]; exact (h.st m hm).2, by simp [serB]; omega, h.t1 m hm, Nat.le_trans (h.t2 m hm) (by omega)⟩
  simp only [strV, List.map_nil] at hst
  refine Con.body (cxOk (L + 1)) rfl rfl (fn := Try.f33) (c := Try.f33.body.getD .skip) (by kernel_rfl) (by rfl) (by kernel_rfl) rfl (by simp) ?_
  intro F3 hF1 hF2
  simp only [Try.f33, cx, Nat.reduceBEq, Nat.reduceAdd, go_sem, meths, Nat.reduceSub, Nat.reduceAdd, Nat.reduceLT, Nat.reduceLeDiff, Nat.reduceBEq]
  refine CallVC.same (hst _ _ _) ?_
  simp only [Nat.reduceBEq, Nat.reduceAdd, Nat.add_zero, go_sem, Nat.reduceAdd, Nat.reduceLT, Nat.reduceLeDiff, Nat.reduceBEq, reduceCtorEq]
  refine ⟨⟨by omega, by omega⟩, ?_⟩
  refine loopK.intro _ _ (I := fun z : NumX => ⟨[none, some (.ptr ⟨L + 1, 0⟩ 0 0), none, some (.sl ⟨L + 1, z.q⟩ 0 z.acc.length), some (.ptr ⟨L + 1, 128⟩ 0 0), some (.int .i64 (((f : Int) + (z.acc.length : Int)) % 4294967296)), some (.int .i64 z.k), none, none, none, none, none, none, none, none, none, none, none, none, none, none, none, none, none, none, none, none, none, none, none, none, none, none, none, none, none, none, none, none, none, none, none, none, none, none, none, none, none, none, none, none, none, none, none, none, none, none, none, none, none, none, none, none, none],
    [(⟨L + 1, 0⟩, .rows 28 7 true true [[.int .u8 o, .int .u8 i0, .int .u32 f, .int .u16 a, .int .u16 b, .fs 4 (ws.map Wd.row), .fs 1 (ks.map oU)]]), (⟨L + 1, 128⟩, .rows 34 6 true true [[.fs 1 (z.out.map eI), .fs 1 (inn.map eI), .fs 8 [], .int .i64 0, .int .i64 (-1), .fs 1 []]]), (⟨L + 1, z.q⟩, .rows 43 8 true true (z.acc.map Dat.row))], 10000 * (z.i + 1)⟩)
    (pre := numI f inn l) (μ := fun z => l.length - z.k) ⟨0, 0, 480, inn, []⟩ ⟨by simp, rfl, his, by simp, rfl, by simp, by simp⟩ ?_ ?_
  · refine Sub.trans (Sub.nilName 3 43 (wd := 8) (by omega) rfl) ?_
    have e0 : (f : Int) % 4294967296 = f := by omega
    refine Sub.of (fun n hn => hF2 n (by have : n.l = L + 1 := hn; omega)) (by simp only [go_sem, subT, and_self, Int.natCast_zero, Int.add_zero, e0]) ?_ (by simp [subK, keys, updH, setH]) (by simp)
    simp [subH, Tx.look, updH, setH]
  · rintro ⟨k, i, q, out1, acc⟩ ⟨h1, h2, h3, h4, h5, k1, k2⟩
    simp only at h1 h2 h3 h4 h5 k1 k2 ⊢
    have q_0 : (q = 0) = False := by apply eq_false; omega
    have n0_q : (0 = q) = False := by apply eq_false; omega
    have q_128 : (q = 128) = False := by apply eq_false; omega
    have n128_q : (128 = q) = False := by apply eq_false; omega
    have q_n1 : ∀ kk, (10000 * (i + 1) + kk = q) = False := fun kk => by apply eq_false; omega
    have q_n2 : ∀ kk, (q = 10000 * (i + 1) + kk) = False := fun kk => by apply eq_false; omega
    have q_n3 : (10000 * (i + 1) = q) = False := by apply eq_false; omega
    have q_n4 : (q = 10000 * (i + 1)) = False := by apply eq_false; omega
    have q_n5 : ∀ kk, ((⟨L + 1, q⟩ : Nm) == ⟨L + 1, 10000 * (i + 1) + kk⟩) = false := fun kk => by simp; omega
    by_cases hlt : k < l.length
    · have f1 : decide ((k : Int) < (ws.length : Int)) = true := dT (by omega)
      have f2 : decide ((k : Int) < 12) = true := dT (by omega)
      have hkw : k < ws.length := by omega
      obtain ⟨w, hw⟩ : ∃ w, w = ws[k] := ⟨_, rfl⟩
      have r0 : (ws.map Wd.row).getD k [] = w.row := by rw [hw]; simp [hkw, List.getD_eq_getElem?_getD]
      have hwo := hws w (by rw [hw]; exact List.getElem_mem hkw)
      have hm : l[k] = Wd.msg N w := by
        have : l[k]? = some (Wd.msg N w) := by
          rw [hl, msgsW, List.getElem?_map, List.getElem?_take_of_lt (by omega), List.getElem?_eq_getElem hkw, ← hw]; rfl
        rw [List.getElem?_eq_getElem hlt] at this
        exact Option.some.inj this
      have hmsg := fun F L nx => message_ok (F := F) (L := L) (nx := nx) w.st w.kd w.sz N w.lo hwo.1 hwo.2.1 hwo.2.2 hN1.1 hN1.2
      have hmt := msgText_len w.sz
      have hmod := Nat.mod_lt w.st (show N > 0 by omega)
      have hsd := fun F L nx => refSend_ok (F := F) (L := L) (nx := nx) out1 inn [] 0 (-1) [] (by omega) (by omega) (by simp) (by simp) h3 (w.st % N) ((50 + w.kd % 4 : Nat) : Int) w.lo (msgText w.sz) (by omega) (by omega)
      rw [List.drop_eq_getElem_cons hlt, hm, numG] at h5
      obtain ⟨ds, hds⟩ : ∃ ds, ds = cutsM out1 (Wd.msg N w) := ⟨_, rfl⟩
      have hdl : ds.length = ((msgText w.sz).length + 999) / 1000 := by rw [hds, cutsM, sendD_len]; rfl
      have hdl1 : 1 ≤ ds.length ∧ ds.length ≤ 4 := by omega
      have hds2 : sendD ((w.st % N : Nat) : Int) ((50 + w.kd % 4 : Nat) : Int) (seqS out1 (w.st % N) w.lo) w.lo (msgText w.sz) (((msgText w.sz).length + 999) / 1000) = ds := by rw [hds]; rfl
      rw [← hds] at h5
      rw [hds2] at hsd
      obtain ⟨out2, hout2⟩ : ∃ x, x = outS out1 (w.st % N) w.lo := ⟨_, rfl⟩
      have ho2l : out2.length = out1.length := by rw [hout2]; exact outS_len _ _ _
      have ho2s : out2.all (serB 16) = true := by rw [hout2]; exact outS_ser h3 _ _
      rw [show outS out1 (Wd.msg N w).st.toNat (Wd.msg N w).lo = out2 from hout2.symm] at h5
      simp only [← hout2, strV, List.map_nil] at hsd
      simp only [f1, f2, r0, hil, Wd.row, Nat.reduceBEq, Nat.add_assoc, Nat.reduceAdd, n0_q, n128_q, List.length_map, go_sem, Nat.reduceAdd, Nat.reduceLT, Nat.reduceLeDiff, Nat.reduceBEq, reduceCtorEq]
      repeat refine And.intro (by first | omega | exact ⟨by omega, by omega⟩ | exact ⟨by omega, by omega, by omega⟩ | exact ⟨⟨by omega, by omega⟩, by omega, by omega⟩ | exact okS (by kernel_rfl)) ?_
      refine CallVC.same (hmsg _ _ _) ?_
      simp only [go_sem]
      repeat refine And.intro (by first | omega | exact ⟨by omega, by omega⟩ | exact ⟨by omega, by omega, by omega⟩ | exact ⟨⟨by omega, by omega⟩, by omega, by omega⟩ | exact okDyn_num (fun x => x.i) (by kernel_rfl) | kernel_rfl | exact okDyn_num (fun _ => 0) (by kernel_rfl)) ?_
      refine CallVC.same (hsd _ _ _) ?_
      simp only [Nat.reduceBEq, Nat.add_assoc, Nat.reduceAdd, n128_q, q_n1, go_sem, Nat.reduceAdd, Nat.reduceEqDiff, Nat.reduceLT, Nat.reduceLeDiff, Nat.reduceBEq, reduceCtorEq]
      refine ⟨okDyn_num (fun x => x.i) (by simp only [numF, List.map]; kernel_rfl), ?_⟩
      refine loopK.intro _ _ (I := fun z : NumY => ⟨[none, some (.ptr ⟨L + 1, 0⟩ 0 0), none, some (.sl ⟨L + 1, z.q⟩ 0 (acc.length + z.j)), some (.ptr ⟨L + 1, 128⟩ 0 0), some (.int .i64 (((f : Int) + ((acc.length + z.j : Nat) : Int)) % 4294967296)), some (.int .i64 k), none, some (.fs 8 (ds.map Dat.row)), some (.int .i64 z.j), none, none, none, none, none, none, none, none, none, none, none, none, none, none, none, none, none, none, none, none, none, none, none, none, none, none, none, none, none, none, none, none, none, none, none, none, none, none, none, none, none, none, none, none, none, none, none, none, none, none, none, none, none, none],
        [(⟨L + 1, 0⟩, .rows 28 7 true true [[.int .u8 o, .int .u8 i0, .int .u32 f, .int .u16 a, .int .u16 b, .fs 4 (ws.map Wd.row), .fs 1 (ks.map oU)]]), (⟨L + 1, 128⟩, .rows 34 6 true true [[.fs 1 (out2.map eI), .fs 1 (inn.map eI), .fs 8 [], .int .i64 0, .int .i64 (-1), .fs 1 []]]), (⟨L + 1, z.q⟩, .rows 43 8 true true ((acc ++ stampL f acc.length ds z.j).map Dat.row))], 10000 * (z.i + 1)⟩)
        (pre := fun z => z.j ≤ ds.length ∧ 192 ≤ z.q ∧ z.q < 10000 * (z.i + 1)) (μ := fun z => ds.length - z.j) ⟨0, i + 1, q⟩ ⟨by simp, by simp only []; omega, by simp only []; omega⟩ ?_ ?_
      · have e9 : stampL f acc.length ds 0 = [] := rfl
        refine Sub.of (fun n hn => hF2 n (by have : n.l = L + 1 := hn; omega)) (by simp only [Nat.add_zero, go_sem, subT, and_self, Int.natCast_zero]) ?_ (by simp [subK, keys]) (by simp only []; omega)
        simp [subH, Tx.look, e9, q_0, q_128]
      · clear q_n1 q_n2 q_n3 q_n4 q_n5 q_0 q_128 n0_q n128_q k1 k2
        clear i q
        rintro ⟨j, i, q⟩ ⟨g1, k1, k2⟩
        simp only at g1 k1 k2 ⊢
        have q_0 : (q = 0) = False := by apply eq_false; omega
        have n0_q : (0 = q) = False := by apply eq_false; omega
        have q_128 : (q = 128) = False := by apply eq_false; omega
        have n128_q : (128 = q) = False := by apply eq_false; omega
        have q_n1 : ∀ kk, (10000 * (i + 1) + kk = q) = False := fun kk => by apply eq_false; omega
        have q_n2 : ∀ kk, (q = 10000 * (i + 1) + kk) = False := fun kk => by apply eq_false; omega
        have q_n3 : (10000 * (i + 1) = q) = False := by apply eq_false; omega
        have q_n4 : (q = 10000 * (i + 1)) = False := by apply eq_false; omega
        have q_n5 : ∀ kk, ((⟨L + 1, q⟩ : Nm) == ⟨L + 1, 10000 * (i + 1) + kk⟩) = false := fun kk => by simp; omega
        have hel : (acc ++ stampL f acc.length ds j).length = acc.length + j := by rw [List.length_append, stampL_len]
        by_cases hjt : j < ds.length
        · have f3 : decide ((j : Int) < (ds.length : Int)) = true := dT (by omega)
          have r1 : (ds.map Dat.row).getD j [] = (ds.getD j datZ).row := by simp [hjt, List.getD_eq_getElem?_getD]
          have e12 : stampL f acc.length ds (j + 1) = stampL f acc.length ds j ++ [stamp f acc.length ds j] := by simp [stampL, List.range_succ]
          have e13 : acc ++ stampL f acc.length ds (j + 1) = (acc ++ stampL f acc.length ds j) ++ [stamp f acc.length ds j] := by rw [e12, List.append_assoc]
          obtain ⟨R, hR⟩ : ∃ R, R = acc ++ stampL f acc.length ds j := ⟨_, rfl⟩
          rw [← hR] at hel e13 ⊢
          obtain ⟨d, hd⟩ : ∃ d, d = ds.getD j datZ := ⟨_, rfl⟩
          rw [← hd] at r1
          obtain ⟨t, ht⟩ : ∃ t, t = ((f : Int) + ((acc.length + j : Nat) : Int)) % 4294967296 := ⟨_, rfl⟩
          have htb : 0 ≤ t ∧ t < 4294967296 := by omega
          have htn : ((f : Int) + ((acc.length + (j + 1) : Nat) : Int)) % 4294967296 = (t + 1) % 4294967296 := by omega
          have e14 : (stamp f acc.length ds j).row = [.int .i64 t, .int .i64 d.st, .int .i64 d.sq, .int .i64 d.pr, .bool d.fi, .bool d.la, .bool d.lo, .str d.pl] := by rw [stamp, ← hd, ht]; rfl
          rw [← ht]
          simp only [f3, r1, Dat.row, Nat.reduceBEq, Nat.add_assoc, Nat.reduceAdd, q_n1, List.length_map, Nat.add_zero, go_sem, Nat.reduceAdd, Nat.reduceEqDiff, Nat.reduceLT, Nat.reduceLeDiff, Nat.reduceBEq, reduceCtorEq]
          repeat refine And.intro (by first | omega | exact ⟨by omega, by omega⟩ | exact ⟨by omega, by omega, by omega⟩ | exact ⟨⟨by omega, by omega⟩, by omega, by omega⟩ | exact okS (by kernel_rfl)) ?_
          refine CallVC.same (behind32R_ok t htb.1 (by omega)) ?_
          simp only [Nat.reduceBEq, nS2, Nat.add_assoc, Nat.reduceAdd, q_0, q_128, q_n1, q_n2, q_n5, List.length_map, go_sem, Nat.reduceAdd, Nat.reduceMul, Nat.reduceEqDiff, Nat.reduceLT, Nat.reduceLeDiff, Nat.reduceBEq, reduceCtorEq]
          repeat refine And.intro (by first | omega | exact ⟨by omega, by omega⟩ | exact ⟨by omega, by omega, by omega⟩ | exact ⟨⟨by omega, by omega⟩, by omega, by omega⟩ | exact okS (by kernel_rfl)) ?_
          have hme : (acc ++ stampL f acc.length ds (j + 1)).map Dat.row = R.map Dat.row ++ [[.int .i64 t, .int .i64 d.st, .int .i64 d.sq, .int .i64 d.pr, .bool d.fi, .bool d.la, .bool d.lo, .str d.pl]] := by rw [e13, List.map_append, List.map_singleton, e14]
          refine ⟨⟨j + 1, i + 1, 10000 * (i + 1) + 576⟩, ⟨by simp only []; omega, by simp only []; omega, by simp only []; omega⟩, by simp only []; omega, ?_⟩
          refine Sub.of (fun n hn => hF2 n (by have : n.l = L + 1 := hn; omega)) (by simp only [htn, go_sem, subT, and_self, Int.natCast_succ]) ?_ (by simp [subK, keys]) (by simp only []; omega)
          simp only [hme]
          simp [subH, Tx.look, nB, q_n1]
        · have f3 : decide ((j : Int) < (ds.length : Int)) = false := dF (by omega)
          have e : j = ds.length := by omega
          subst e
          simp only [f3, Nat.add_assoc, Nat.reduceAdd, List.length_map, go_sem, Nat.reduceAdd, Nat.reduceEqDiff, Nat.reduceLT, reduceCtorEq]
          repeat refine And.intro (by first | omega | exact ⟨by omega, by omega⟩ | exact ⟨by omega, by omega, by omega⟩ | exact ⟨⟨by omega, by omega⟩, by omega, by omega⟩ | exact okS (by kernel_rfl)) ?_
          refine ⟨⟨k + 1, i + 1, q, out2, acc ++ stampL f acc.length ds ds.length⟩, ⟨by simp only []; omega, by simp only []; omega, ho2s, by simp [stampL_len]; omega, h5, by simp only []; omega, by simp only []; omega⟩, by simp only []; omega, ?_⟩
          refine Sub.of (fun n hn => hF2 n (by have : n.l = L + 1 := hn; omega)) (by simp only [hel, go_sem, subT, and_self, Int.natCast_succ]) ?_ (by simp [subK, keys]) (by simp only []; omega)
          simp [subH, Tx.look, q_0, q_128]
    · have e : k = l.length := by omega
      subst e
      rw [List.drop_of_length_le (Nat.le_refl _), numG] at h5
      rw [← h5]
      by_cases hw12 : l.length < ws.length
      · have f1 : decide ((l.length : Int) < (ws.length : Int)) = true := dT (by omega)
        have f2 : decide ((l.length : Int) < 12) = false := dF (by omega)
        simp only [f1, f2, Nat.reduceBEq, Nat.add_assoc, Nat.reduceAdd, n0_q, List.length_map, go_sem, Nat.reduceAdd, Nat.reduceLT, Nat.reduceLeDiff, Nat.reduceBEq, reduceCtorEq]
        exact PostF.of (p := True) (v0 := .sl ⟨L + 1, q⟩ 0 acc.length ) (.inr rfl) (by simp only [resVal, resVals, resVal1, one, go_sem]) trivial (by simp [Wk, Tx.look, List.take_of_length_le, q_0, q_128]) (by simp [wkN]) (by simp [Tx.nf]) trivial (by simp [UpdAll, keys])
      · have f1 : decide ((l.length : Int) < (ws.length : Int)) = false := dF (by omega)
        simp only [f1, Nat.reduceBEq, Nat.add_assoc, Nat.reduceAdd, n0_q, List.length_map, go_sem, Nat.reduceAdd, Nat.reduceLT, Nat.reduceLeDiff, Nat.reduceBEq, reduceCtorEq]
        exact PostF.of (p := True) (v0 := .sl ⟨L + 1, q⟩ 0 acc.length ) (.inr rfl) (by simp only [resVal, resVals, resVal1, one, go_sem]) trivial (by simp [Wk, Tx.look, List.take_of_length_le, q_0, q_128]) (by simp [wkN]) (by simp [Tx.nf]) trivial (by simp [UpdAll, keys])
end Go.Proofs.Ytfhhbkehlfipgaa
end

section
set_option linter.unusedSimpArgs false
set_option linter.unusedVariables false
set_option linter.unnecessarySimpa false
set_option linter.unusedSectionVars false
namespace Go.Proofs.Ytfhhbkehlfipgaa
open Go.Tx
set_option maxRecDepth 100000
set_option maxHeartbeats 16000000
set_option linter.unusedSimpArgs false
set_option linter.unusedVariables false
structure Fl where
  d : Dat
  at_ : Int
  tr : Int
  mi : Int
  gap : Bool
  lost : Bool
  drp : Bool
def Fl.row (f : Fl) : List PV := [.int .i64 f.d.tsn, .int .i64 f.d.st, .int .i64 f.d.sq, .int .i64 f.d.pr, .bool f.d.fi, .bool f.d.la, .bool f.d.lo, .str f.d.pl, .int .i64 f.at_, .int .i64 f.tr, .int .i64 f.mi, .bool f.gap, .bool f.lost, .bool f.drp]
theorem rowF {l : List Fl} {i : Nat} (h : i < l.length) : (l.map Fl.row).getD i [] = (l[i]).row := by simp [h, List.getD_eq_getElem?_getD]
theorem indexFuncF_ok {F : SF} {L nx : Nat} (ps : List Fl) (g : FuncId) (fl cl : List PV) (p : Fl → Bool) (rd : List Nm) (hrd : ∀ n ∈ rd, n.l ≤ L) (hlen : ps.length ≤ 1000) (hcl : ∀ x ∈ ps, ∀ L' nx', L ≤ L' → Con Try.prog g (fl ++ [.agg x.row] ++ cl) F L' nx' nx' (.bool (p x)) [] rd) :
    Con Try.prog 95 [.fs 14 (ps.map Fl.row), .fn (.func g) fl cl] F L nx nx (.int .i64 (idxI p ps)) [] rd := by
  refine Con.body (cxOk (L + 1)) rfl rfl (fn := Try.f95) (c := Try.f95.body.getD .skip) (by kernel_rfl) (by rfl) (by kernel_rfl) rfl  hrd ?_
  intro F3 hF1 hF2
  simp only [Try.f95, cx, go_sem, meths, Nat.reduceSub, Nat.reduceAdd, Nat.reduceLT]
  refine loopK.intro _ _ (I := fun i : Nat => ⟨[some (.fs 14 (ps.map Fl.row)), some (.fn (.func g) fl cl), none, none, none, none, none, some (.int .i64 ps.length), some (.int .i64 i), none, none, none, none, none, none, none, none, none, none], [], 10000 * (i + 1)⟩) (pre := fun i => i ≤ ps.length ∧ ∀ (j : Nat) (hj : j < ps.length), j < i → p ps[j] = false) (μ := fun i => ps.length - i) 0 ⟨by omega, by intro j _ h; omega⟩ ?_ ?_
  · exact Sub.of (fun n hn => hF2 n (by have : n.l = L + 1 := hn; omega)) (by simp only [go_sem, subT, and_self, List.length_map, Int.natCast_zero]) trivial trivial (by simp)
  · rintro i ⟨hi, hp⟩
    by_cases hlt : i < ps.length
    · have f1 : decide ((i : Int) < (ps.length : Int)) = true := dT (by omega)
      have r0 := rowF hlt
      simp only [f1, r0, Fl.row, List.length_map, Nat.add_assoc, Nat.reduceAdd, go_sem, Nat.reduceAdd, Nat.reduceLT, Nat.reduceLeDiff]
      repeat refine And.intro (by first | omega | exact ⟨by omega, by omega⟩ | exact ⟨by omega, by omega, by omega⟩ | exact ⟨⟨by omega, by omega⟩, by omega, by omega⟩ | exact okS (by kernel_rfl)) ?_
      refine CallVC.same ((hcl ps[i] (List.getElem_mem hlt) _ _ (by omega)).agree hF1) ?_
      cases hpi : p ps[i]
      · simp only [go_sem, Nat.reduceAdd, Nat.reduceLT]
        refine ⟨⟨by omega, by omega⟩, i + 1, ⟨by omega, fun j hj hji => ?_⟩, by omega, Sub.of (fun n hn => hF2 n (by have : n.l = L + 1 := hn; omega)) (by simp only [go_sem, subT, and_self, Int.natCast_succ]) trivial trivial (by simp only []; omega)⟩
        by_cases he : j = i
        · subst he; exact hpi
        · exact hp j hj (by omega)
      · simp only [go_sem, Nat.reduceAdd, Nat.reduceLT]
        exact .int (.inr rfl) rfl (idxI_stop hlt hp hpi).symm trivial
    · have f1 : decide ((i : Int) < (ps.length : Int)) = false := dF (by omega)
      simp only [f1, go_sem, Nat.reduceAdd, Nat.reduceLT]
      exact .int (.inr rfl) rfl (idxI_end (fun j hj => hp j hj (by omega))).symm trivial
theorem containsFuncF_ok {F : SF} {L nx : Nat} (ps : List Fl) (g : FuncId) (fl cl : List PV) (p : Fl → Bool) (rd : List Nm) (hrd : ∀ n ∈ rd, n.l ≤ L) (hlen : ps.length ≤ 1000) (hcl : ∀ x ∈ ps, ∀ L' nx', L ≤ L' → Con Try.prog g (fl ++ [.agg x.row] ++ cl) F L' nx' nx' (.bool (p x)) [] rd) :
    Con Try.prog 68 [.fs 14 (ps.map Fl.row), .fn (.func g) fl cl] F L nx nx (.bool (ps.any p)) [] rd := by
  refine Con.body (cxOk (L + 1)) rfl rfl (fn := Try.f68) (c := Try.f68.body.getD .skip) (by kernel_rfl) (by rfl) (by kernel_rfl) rfl  hrd ?_
  intro F3 hF1 hF2
  simp only [Try.f68, cx, go_sem, meths, Nat.reduceSub, Nat.reduceAdd, Nat.reduceLT]
  refine CallVC.same ((indexFuncF_ok ps g fl cl p rd (fun n hn => by have := hrd n hn; omega) hlen (fun x hx L' nx' hL => hcl x hx L' nx' (by omega))).agree hF1) ?_
  simp only [go_sem, Nat.reduceAdd]
  exact .bool (.inr rfl) rfl (idxI_any p ps) trivial
def keepB (f : Fl) : Bool := !f.gap && !f.drp
def givenB (lim : Int) (f : Fl) : Bool := keepB f && (decide (lim + 1 < f.tr) || (f.lost && decide (lim < f.tr)))
theorem given1_ok {F : SF} {L nx : Nat} (f : Fl) (a : Nm) (ha : a.l ≤ L) (ea : TypeId) (o p : Bool) (lim : Int) (h0 : -1 ≤ lim) (h1 : lim ≤ 14) (hF : F a = some (.rows ea 1 o p [[.int .i64 lim]])) :
    Con Try.prog 96 [.agg f.row, .ptr a 0 0] F L nx nx (.bool (givenB lim f)) [] [a] := by
  refine Con.body (cxOk (L + 1)) rfl rfl (fn := Try.f96) (c := Try.f96.body.getD .skip) (by kernel_rfl) (by rfl) (by kernel_rfl) rfl  (by simpa using ha) ?_
  intro F3 hF1 hF2
  have hF := (hF1 a (by simp)).trans hF
  have q1 := nm_out' ha
  have q2 := nm_out ha
  unfold givenB keepB
  cases hg : f.gap <;> cases hd : f.drp <;> cases hl : f.lost <;> cases ht : decide (lim + 1 < f.tr) <;> cases hu : decide (lim < f.tr) <;>
    (simp only [Try.f96, cx, Fl.row, hF, q2, hg, hd, hl, ht, hu, Nat.reduceBEq, Nat.reduceAdd, go_sem, meths, Nat.reduceSub, Nat.reduceAdd, Nat.reduceLT, Nat.reduceLeDiff, Nat.reduceBEq]
     repeat refine And.intro (by first | omega | exact ⟨by omega, by omega⟩ | exact ⟨by omega, by omega, by omega⟩ | exact ⟨⟨by omega, by omega⟩, by omega, by omega⟩ | exact okS (by kernel_rfl)) ?_
     exact .bool (.inr rfl) rfl rfl (by simp [UpdAll]))
theorem given_ok {F : SF} {L nx : Nat} (ps : List Fl) (lim : Int) (h0 : -1 ≤ lim) (h1 : lim ≤ 14) (hlen : ps.length ≤ 1000) :
    Con Try.prog 70 [.fs 14 (ps.map Fl.row), .int .i64 lim] F L nx nx (.bool (decide (0 ≤ lim) && ps.any (givenB lim))) [] [] := by
  refine Con.body (cxOk (L + 1)) rfl rfl (fn := Try.f70) (c := Try.f70.body.getD .skip) (by kernel_rfl) (by rfl) (by kernel_rfl) rfl (by simp) ?_
  intro F3 hF1 hF2
  cases hd : decide (0 ≤ lim) with
  | false =>
    simp only [Try.f70, cx, hd, Nat.reduceBEq, Nat.reduceAdd, go_sem, meths, Nat.reduceSub, Nat.reduceAdd, Nat.reduceLT, Nat.reduceLeDiff, Nat.reduceBEq]
    exact .bool (.inr rfl) rfl rfl (by simp [UpdAll])
  | true =>
    simp only [Try.f70, cx, hd, Nat.reduceBEq, Nat.reduceAdd, go_sem, meths, Nat.reduceSub, Nat.reduceAdd, Nat.reduceLT, Nat.reduceLeDiff, Nat.reduceBEq, reduceCtorEq]
    refine CallVC.same (containsFuncF_ok ps 96 [] [.ptr ⟨L + 1, 0⟩ 0 0] (givenB lim) [⟨L + 1, 0⟩] (by simp) hlen (fun x hx L' nx' hL => given1_ok x ⟨L + 1, 0⟩ hL 3 true true lim h0 h1 (by simp))) ?_
    simp only [Nat.reduceAdd, go_sem, Nat.reduceAdd]
    exact .bool (.inr rfl) rfl rfl (by simp [UpdAll])
def badL (x : Int) : Bool := decide (x < -1) || decide (14 < x)
def badF (n : Nat) (f : Fl) : Bool := decide (f.d.st < 0) || decide ((n : Int) ≤ f.d.st)
theorem drops1_ok {F : SF} {L nx : Nat} (x : Int) : Con Try.prog 67 [.int .i64 x] F L nx nx (.bool (badL x)) [] [] := by
  refine Con.body (cxOk (L + 1)) rfl rfl (fn := Try.f67) (c := Try.f67.body.getD .skip) (by kernel_rfl) (by rfl) (by kernel_rfl) rfl (by simp) ?_
  intro F3 hF1 hF2
  unfold badL
  cases h1 : decide (x < -1) <;> cases h2 : decide (14 < x) <;>
    (simp only [Try.f67, cx, h1, h2, Nat.reduceAdd, go_sem, meths, Nat.reduceSub, Nat.reduceAdd, Nat.reduceLT]
     exact .bool (.inr rfl) rfl rfl (by simp [UpdAll]))
theorem drops2_ok {F : SF} {L nx : Nat} (f : Fl) (a : Nm) (ha : a.l ≤ L) (ea : TypeId) (o p : Bool) (lims : List Int) (hF : F a = some (.rows ea 1 o p [[.fs 1 (lims.map eI)]])) :
    Con Try.prog 69 [.agg f.row, .ptr a 0 0] F L nx nx (.bool (badF lims.length f)) [] [a] := by
  refine Con.body (cxOk (L + 1)) rfl rfl (fn := Try.f69) (c := Try.f69.body.getD .skip) (by kernel_rfl) (by rfl) (by kernel_rfl) rfl  (by simpa using ha) ?_
  intro F3 hF1 hF2
  have hF := (hF1 a (by simp)).trans hF
  have q1 := nm_out' ha
  have q2 := nm_out ha
  unfold badF
  cases h1 : decide (f.d.st < 0) <;> cases h2 : decide ((lims.length : Int) ≤ f.d.st) <;>
    (simp only [Try.f69, cx, Fl.row, hF, q2, h1, h2, List.length_map, Nat.reduceBEq, Nat.reduceAdd, Nat.add_zero, go_sem, meths, Nat.reduceSub, Nat.reduceAdd, Nat.reduceLT, Nat.reduceLeDiff, Nat.reduceBEq]
     repeat refine And.intro (by first | omega | exact ⟨by omega, by omega⟩ | exact ⟨by omega, by omega, by omega⟩ | exact ⟨⟨by omega, by omega⟩, by omega, by omega⟩ | exact okS (by kernel_rfl)) ?_
     exact .bool (.inr rfl) rfl rfl (by simp [UpdAll]))
end Go.Proofs.Ytfhhbkehlfipgaa
end

section
set_option linter.unusedSimpArgs false
set_option linter.unusedVariables false
set_option linter.unnecessarySimpa false
set_option linter.unusedSectionVars false
namespace Go.Proofs.Ytfhhbkehlfipgaa
open Go.Tx
set_option maxRecDepth 100000
set_option maxHeartbeats 16000000
set_option linter.unusedSimpArgs false
set_option linter.unusedVariables false
def flZ : Fl := ⟨datZ, 0, 0, 0, false, false, false⟩
def dropTo (l : List Fl) (lims : List Int) (out : List Int) : List Int :=
  let lim := lims.getD (l.getD 0 flZ).d.st.toNat 0
  if decide (0 ≤ lim) && l.any (givenB lim) then out ++ (l.filter keepB).map (fun f => f.d.tsn) else out
def dropStep (fls : List Fl) (lims : List Int) (z : Int × List Int) (k : Nat) : Int × List Int :=
  let f := fls.getD k flZ
  let fr := if f.d.fi then (k : Int) else z.1
  if !f.d.la || decide (fr < 0) then (fr, z.2)
  else (-1, dropTo ((fls.drop fr.toNat).take (k + 1 - fr.toNat)) lims z.2)
def dropsZ (fls : List Fl) (lims : List Int) (k : Nat) : Int × List Int := (List.range k).foldl (dropStep fls lims) (-1, [])
def dropsL (fls : List Fl) (lims : List Int) : List Int := (dropsZ fls lims fls.length).2
theorem dropsZ_succ (fls : List Fl) (lims : List Int) (k : Nat) : dropsZ fls lims (k + 1) = dropStep fls lims (dropsZ fls lims k) k := by
  unfold dropsZ
  rw [List.range_succ, List.foldl_append]; rfl
def outJ (out : List Int) (l : List Fl) (j : Nat) : List Int := out ++ ((l.take j).filter keepB).map (fun f => f.d.tsn)
theorem outJ_zero (out : List Int) (l : List Fl) : outJ out l 0 = out := by simp [outJ]
theorem outJ_len (out : List Int) (l : List Fl) (j : Nat) : (outJ out l j).length ≤ out.length + j := by
  have := List.length_filter_le keepB (l.take j)
  simp only [outJ, List.length_append, List.length_map]
  have := List.length_take_le j l
  omega
theorem outJ_succ (out : List Int) (l : List Fl) (j : Nat) (h : j < l.length) : outJ out l (j + 1) = outJ out l j ++ (if keepB l[j] then [l[j].d.tsn] else []) := by
  simp only [outJ]
  rw [List.take_add_one, List.getElem?_eq_getElem h, List.filter_append, List.map_append, List.append_assoc]
  congr 2
  by_cases hk : keepB l[j] = true <;> simp [hk]
structure DrZ where
  k : Nat
  i : Nat
  q : Nat
  fr : Int
  out : List Int
structure DrY where
  j : Nat
  i : Nat
  q : Nat
theorem drops_ok {F : SF} {L nx : Nat} (fls : List Fl) (lims : List Int) (h1 : fls.length ≤ 30) (h2 : lims.length ≤ 16) (h3 : lims.any badL = false) (h4 : fls.any (badF lims.length) = false) :
    Con Try.prog 34 [.fs 14 (fls.map Fl.row), .fs 1 (lims.map eI)] F L nx nx (.tup [.fs 1 ((dropsL fls lims).map eI), .int .i64 0]) [] [] := by
  have f0 : decide ((-1 : Int) < 0) = true := rfl
  have g1 : decide ((30 : Int) < (fls.length : Int)) = false := dF (by omega)
  have g2 : decide ((16 : Int) < (lims.length : Int)) = false := dF (by omega)
  have hlim : ∀ x ∈ lims, -1 ≤ x ∧ x ≤ 14 := by
    intro x hx
    rw [List.any_eq_false] at h3
    have := h3 x hx
    simp [badL] at this; omega
  have hst : ∀ f ∈ fls, 0 ≤ f.d.st ∧ f.d.st < lims.length := by
    intro f hf
    rw [List.any_eq_false] at h4
    have := h4 f hf
    simp [badF] at this; omega
  refine Con.body (cxOk (L + 1)) rfl rfl (fn := Try.f34) (c := Try.f34.body.getD .skip) (by kernel_rfl) (by rfl) (by kernel_rfl) rfl (by simp) ?_
  intro F3 hF1 hF2
  simp only [Try.f34, cx, g1, g2, List.length_map, Nat.reduceBEq, Nat.reduceAdd, go_sem, meths, Nat.reduceSub, Nat.reduceAdd, Nat.reduceLT, Nat.reduceLeDiff, Nat.reduceBEq]
  refine CallVC.same (containsFunc_ok lims 67 [] [] badL [] (by simp) (by omega) (fun x hx L' nx' hL => drops1_ok x)) ?_
  simp only [h3, Nat.reduceAdd, go_sem, Nat.reduceAdd, reduceCtorEq]
  refine CallVC.same (containsFuncF_ok fls 69 [] [.ptr ⟨L + 1, 0⟩ 0 0] (badF lims.length) [⟨L + 1, 0⟩] (by simp) (by omega) (fun x hx L' nx' hL => drops2_ok x ⟨L + 1, 0⟩ hL 31 true true lims (by simp))) ?_
  simp only [h4, List.length_map, Nat.reduceAdd, go_sem, Nat.reduceAdd, Nat.reduceLT]
  refine loopK.intro _ _ (I := fun z : DrZ => ⟨[some (.fs 14 (fls.map Fl.row)), none, none, some (.ptr ⟨L + 1, 0⟩ 0 0), none, none, some (.sl ⟨L + 1, z.q⟩ 0 z.out.length), some (.int .i64 z.fr), none, none, none, none, none, none, none, none, none, none, none, none, none, none, none, none, none, none, none, none, some (.fs 14 (fls.map Fl.row)), some (.int .i64 fls.length), some (.int .i64 z.k), none, none, none, none, none, none, none, none, none, none, none, none, none, none, none, none, none, none, none, none, none, none, none, none, none, none, none, none, none, none, none, none, none, none, none, none, none, none, none, none, none, none, none, none, none, none, none, none, none, none, none, none, none, none],
    [(⟨L + 1, 0⟩, .rows 31 1 true true [[.fs 1 (lims.map eI)]]), (⟨L + 1, z.q⟩, .rows 3 1 true true (z.out.map eI))], 10000 * (z.i + 1)⟩)
    (pre := fun z => z.k ≤ fls.length ∧ -1 ≤ z.fr ∧ z.fr < z.k ∧ (z.fr, z.out) = dropsZ fls lims z.k ∧ z.out.length ≤ 31 * z.k ∧ 100 ≤ z.q ∧ z.q < 10000 * (z.i + 1)) (μ := fun z => fls.length - z.k) ⟨0, 0, 672, -1, []⟩ ⟨by simp, by simp, by simp, rfl, by simp, by simp, by simp⟩ ?_ ?_
  · refine Sub.trans (Sub.nilName 6 3 (wd := 1) (by omega) rfl) ?_
    refine Sub.of (fun n hn => hF2 n (by have : n.l = L + 1 := hn; omega)) (by simp only [go_sem, subT, and_self, Int.natCast_zero]) ?_ (by simp [subK, keys, updH, setH]) (by simp)
    simp [subH, Tx.look, updH, setH]
  · rintro ⟨k, i, q, fr, out⟩ ⟨e1, e2, e3, e4, e5, k1, k2⟩
    simp only at e1 e2 e3 e4 e5 k1 k2 ⊢
    have q_0 : (q = 0) = False := by apply eq_false; omega
    have n0_q : (0 = q) = False := by apply eq_false; omega
    have q_n1 : ∀ kk, (10000 * (i + 1) + kk = q) = False := fun kk => by apply eq_false; omega
    have q_n2 : ∀ kk, (q = 10000 * (i + 1) + kk) = False := fun kk => by apply eq_false; omega
    have q_n3 : (10000 * (i + 1) = q) = False := by apply eq_false; omega
    have q_n4 : (q = 10000 * (i + 1)) = False := by apply eq_false; omega
    have q_n5 : ∀ kk, ((⟨L + 1, q⟩ : Nm) == ⟨L + 1, 10000 * (i + 1) + kk⟩) = false := fun kk => by simp; omega
    by_cases hlt : k < fls.length
    · have c1 : decide ((k : Int) < (fls.length : Int)) = true := dT (by omega)
      have r0 := rowF hlt
      obtain ⟨f, hf⟩ : ∃ f, f = fls[k] := ⟨_, rfl⟩
      have hfd : fls.getD k flZ = f := by rw [hf]; simp [List.getD_eq_getElem?_getD, hlt]
      rw [← hf] at r0
      have hz := dropsZ_succ fls lims k
      rw [← e4] at hz
      unfold dropStep at hz
      simp only [hfd] at hz
      cases hfi : f.d.fi with
      | true =>
        have hfn : decide ((k : Int) < 0) = false := dF (by omega)
        simp only [hfi, if_true, hfn, Bool.or_false] at hz
        cases hla : f.d.la with
        | false =>
          simp only [hla, Bool.not_false, if_true] at hz
          simp only [c1, hfi, hla, r0, Fl.row, Int.toNat_natCast, List.length_map, q_n1, Nat.reduceBEq, Nat.add_assoc, Nat.reduceAdd, Nat.add_zero, go_sem, Nat.reduceAdd, Nat.reduceLT, Nat.reduceLeDiff, Nat.reduceBEq, reduceCtorEq]
          repeat refine And.intro (by first | omega | exact ⟨by omega, by omega⟩ | exact ⟨by omega, by omega, by omega⟩ | exact ⟨⟨by omega, by omega⟩, by omega, by omega⟩ | exact okS (by kernel_rfl)) ?_
          refine ⟨⟨k + 1, i + 1, q, k, out⟩, ⟨by simp only []; omega, by simp only []; omega, by simp only []; omega, hz.symm, by simp only []; omega, k1, by simp only []; omega⟩, by simp only []; omega, ?_⟩
          refine Sub.of (fun n hn => hF2 n (by have : n.l = L + 1 := hn; omega)) (by simp only [go_sem, subT, and_self, Int.natCast_succ]) ?_ (by simp [subK, keys]) (by simp only []; omega)
          simp [subH, Tx.look, q_0]
        | true =>
          simp only [hla, Bool.not_true, if_false, Bool.false_eq_true] at hz
          simp only [Int.toNat_natCast] at hz
          have hmk : k ≤ k := by omega
          obtain ⟨l, hl⟩ : ∃ l, l = (fls.drop k).take (k + 1 - k) := ⟨_, rfl⟩
          rw [← hl] at hz
          have hll : l.length = k + 1 - k := by rw [hl]; simp; omega
          have hsub : ∀ x ∈ l, x ∈ fls := by
            intro x hx
            rw [hl] at hx
            exact List.mem_of_mem_drop (List.mem_of_mem_take hx)
          have hl0 : l.getD 0 flZ ∈ fls := by
            rw [List.getD_eq_getElem?_getD, List.getElem?_eq_getElem (by omega), Option.getD_some]
            exact hsub _ (List.getElem_mem _)
          obtain ⟨y, hy⟩ : ∃ y, y = l.getD 0 flZ := ⟨_, rfl⟩
          rw [← hy] at hl0
          have hys := hst y hl0
          have ek : ((k : Int) + 1).toNat = k + 1 := by omega
          have etl : List.take (k + 1 - k) (List.drop k (fls.map Fl.row)) = l.map Fl.row := by rw [hl, List.map_take, List.map_drop]
          have ry : (l.map Fl.row).getD 0 [] = y.row := by
            rw [hy, List.getD_eq_getElem?_getD, List.getElem?_map, List.getD_eq_getElem?_getD, List.getElem?_eq_getElem (by omega)]; rfl
          have rl := getD_eI lims (i := y.d.st.toNat) (by omega)
          obtain ⟨lim, hlm⟩ : ∃ x, x = lims.getD y.d.st.toNat 0 := ⟨_, rfl⟩
          have hto : dropTo l lims out = if decide (0 ≤ lim) && l.any (givenB lim) then out ++ (l.filter keepB).map (fun f => f.d.tsn) else out := by rw [hlm, hy]; rfl
          rw [← hlm] at rl
          have hlb : -1 ≤ lim ∧ lim ≤ 14 := hlim lim (by rw [hlm, List.getD_eq_getElem?_getD, List.getElem?_eq_getElem (by omega)]; simp)
          simp only [Fl.row] at ry
          simp only [c1, hfi, hla, hfn, ek, etl, ry, rl, eI, hll, r0, Fl.row, Int.toNat_natCast, List.length_map, n0_q, q_n1, Nat.reduceBEq, Nat.add_assoc, Nat.reduceAdd, Nat.add_zero, go_sem, Nat.reduceAdd, Nat.reduceLT, Nat.reduceLeDiff, Nat.reduceBEq, reduceCtorEq, Int.reduceToNat]
          repeat refine And.intro (by first | omega | exact ⟨by omega, by omega⟩ | exact ⟨by omega, by omega, by omega⟩ | exact ⟨⟨by omega, by omega⟩, by omega, by omega⟩ | exact okS (by kernel_rfl)) ?_
          refine CallVC.same (given_ok l lim hlb.1 hlb.2 (by omega)) ?_
          cases hgi : decide (0 ≤ lim) && l.any (givenB lim) with
          | false =>
            rw [hgi] at hto
            simp only [if_false, Bool.false_eq_true] at hto
            rw [hto] at hz
            simp only [Nat.add_assoc, Nat.reduceAdd, go_sem, Nat.reduceAdd, Nat.reduceLT]
            refine ⟨okDyn_num (fun _ => 0) (by simp only [numF, List.map]; kernel_rfl), ⟨by omega, by omega⟩, ⟨k + 1, i + 1, q, -1, out⟩, ⟨by simp only []; omega, by simp only []; omega, by simp only []; omega, hz.symm, by simp only []; omega, k1, by simp only []; omega⟩, by simp only []; omega, ?_⟩
            refine Sub.of (fun n hn => hF2 n (by have : n.l = L + 1 := hn; omega)) (by simp only [go_sem, subT, and_self, Int.natCast_succ]) ?_ (by simp [subK, keys]) (by simp only []; omega)
            simp [subH, Tx.look, q_0]
          | true =>
            rw [hgi] at hto
            simp only [if_true] at hto
            rw [hto] at hz
            simp only [List.length_map, Nat.add_assoc, Nat.reduceAdd, go_sem, Nat.reduceAdd, Nat.reduceLT]
            refine ⟨okDyn_num (fun _ => 0) (by simp only [numF, List.map]; kernel_rfl), ?_⟩
            refine loopK.intro _ _ (I := fun z : DrY => ⟨[some (.fs 14 (fls.map Fl.row)), none, none, some (.ptr ⟨L + 1, 0⟩ 0 0), none, none, some (.sl ⟨L + 1, z.q⟩ 0 (outJ out l z.j).length), none, none, none, none, none, none, none, none, none, none, none, none, none, none, none, none, none, none, none, none, none, some (.fs 14 (fls.map Fl.row)), some (.int .i64 fls.length), some (.int .i64 k), none, none, none, none, none, none, none, none, none, none, none, none, none, none, none, none, none, none, none, none, none, none, none, none, none, none, none, none, none, none, none, some (.fs 14 (l.map Fl.row)), some (.int .i64 l.length), some (.int .i64 z.j), none, none, none, none, none, none, none, none, none, none, none, none, none, none, none, none, none, none, none, none],
              [(⟨L + 1, 0⟩, .rows 31 1 true true [[.fs 1 (lims.map eI)]]), (⟨L + 1, z.q⟩, .rows 3 1 true true ((outJ out l z.j).map eI))], 10000 * (z.i + 1)⟩)
              (pre := fun z => z.j ≤ l.length ∧ 100 ≤ z.q ∧ z.q < 10000 * (z.i + 1)) (μ := fun z => l.length - z.j) ⟨0, i + 1, q⟩ ⟨by simp, k1, by simp only []; omega⟩ ?_ ?_
            · refine Sub.of (fun n hn => hF2 n (by have : n.l = L + 1 := hn; omega)) (by simp only [go_sem, subT, and_self, outJ_zero, Int.natCast_zero]) ?_ (by simp [subK, keys]) (by simp only []; omega)
              simp [subH, Tx.look, outJ_zero, q_0]
            · clear q_n1 q_n2 q_n3 q_n4 q_n5 q_0 n0_q k1 k2
              clear i q
              rintro ⟨j, i, q⟩ ⟨d1, k1, k2⟩
              simp only at d1 k1 k2 ⊢
              have q_0 : (q = 0) = False := by apply eq_false; omega
              have n0_q : (0 = q) = False := by apply eq_false; omega
              have q_n1 : ∀ kk, (10000 * (i + 1) + kk = q) = False := fun kk => by apply eq_false; omega
              have q_n2 : ∀ kk, (q = 10000 * (i + 1) + kk) = False := fun kk => by apply eq_false; omega
              have q_n3 : (10000 * (i + 1) = q) = False := by apply eq_false; omega
              have q_n4 : (q = 10000 * (i + 1)) = False := by apply eq_false; omega
              have q_n5 : ∀ kk, ((⟨L + 1, q⟩ : Nm) == ⟨L + 1, 10000 * (i + 1) + kk⟩) = false := fun kk => by simp; omega
              have hol := outJ_len out l j
              by_cases hjt : j < l.length
              · have c2 : decide ((j : Int) < (l.length : Int)) = true := dT (by omega)
                have r2 := rowF hjt
                obtain ⟨x, hx⟩ : ∃ x, x = l[j] := ⟨_, rfl⟩
                have hsu := outJ_succ out l j hjt
                rw [← hx] at r2 hsu
                cases hxg : x.gap with
                | true =>
                  have hsu : outJ out l (j + 1) = outJ out l j := by rw [hsu]; simp [keepB, hxg]
                  simp only [c2, r2, Fl.row, hxg, List.length_map, q_n1, Nat.reduceBEq, Nat.add_assoc, Nat.reduceAdd, go_sem, Nat.reduceAdd, Nat.reduceLT, Nat.reduceLeDiff, Nat.reduceBEq, reduceCtorEq]
                  repeat refine And.intro (by first | omega | exact ⟨by omega, by omega⟩ | exact ⟨by omega, by omega, by omega⟩ | exact ⟨⟨by omega, by omega⟩, by omega, by omega⟩ | exact okS (by kernel_rfl)) ?_
                  refine ⟨⟨j + 1, i + 1, q⟩, ⟨by simp only []; omega, k1, by simp only []; omega⟩, by simp only []; omega, ?_⟩
                  refine Sub.of (fun n hn => hF2 n (by have : n.l = L + 1 := hn; omega)) (by simp only [hsu, go_sem, subT, and_self, Int.natCast_succ]) ?_ (by simp [subK, keys]) (by simp only []; omega)
                  simp [subH, Tx.look, hsu, q_0]
                | false =>
                  cases hxd : x.drp with
                  | true =>
                    have hsu : outJ out l (j + 1) = outJ out l j := by rw [hsu]; simp [keepB, hxg, hxd]
                    simp only [c2, r2, Fl.row, hxg, hxd, List.length_map, q_n1, Nat.reduceBEq, Nat.add_assoc, Nat.reduceAdd, go_sem, Nat.reduceAdd, Nat.reduceLT, Nat.reduceLeDiff, Nat.reduceBEq, reduceCtorEq]
                    repeat refine And.intro (by first | omega | exact ⟨by omega, by omega⟩ | exact ⟨by omega, by omega, by omega⟩ | exact ⟨⟨by omega, by omega⟩, by omega, by omega⟩ | exact okS (by kernel_rfl)) ?_
                    refine ⟨⟨j + 1, i + 1, q⟩, ⟨by simp only []; omega, k1, by simp only []; omega⟩, by simp only []; omega, ?_⟩
                    refine Sub.of (fun n hn => hF2 n (by have : n.l = L + 1 := hn; omega)) (by simp only [hsu, go_sem, subT, and_self, Int.natCast_succ]) ?_ (by simp [subK, keys]) (by simp only []; omega)
                    simp [subH, Tx.look, hsu, q_0]
                  | false =>
                    have hsu : outJ out l (j + 1) = outJ out l j ++ [x.d.tsn] := by rw [hsu]; simp [keepB, hxg, hxd]
                    simp only [c2, r2, Fl.row, hxg, hxd, List.length_map, q_0, q_n1, q_n2, q_n5, Nat.reduceBEq, nS2, Nat.add_assoc, Nat.reduceAdd, Nat.add_zero, go_sem, Nat.reduceAdd, Nat.reduceMul, Nat.reduceEqDiff, Nat.reduceLT, Nat.reduceLeDiff, Nat.reduceBEq, reduceCtorEq]
                    repeat refine And.intro (by first | omega | exact ⟨by omega, by omega⟩ | exact ⟨by omega, by omega, by omega⟩ | exact ⟨⟨by omega, by omega⟩, by omega, by omega⟩ | exact okS (by kernel_rfl)) ?_
                    have hl1 : (outJ out l (j + 1)).length = (outJ out l j).length + 1 := by rw [hsu]; simp
                    have hme : (outJ out l (j + 1)).map eI = (outJ out l j).map eI ++ [[.int .i64 x.d.tsn]] := by rw [hsu]; simp [eI]
                    refine ⟨⟨j + 1, i + 1, 10000 * (i + 1) + 576⟩, ⟨by simp only []; omega, by simp only []; omega, by simp only []; omega⟩, by simp only []; omega, ?_⟩
                    refine Sub.of (fun n hn => hF2 n (by have : n.l = L + 1 := hn; omega)) (by simp only [hl1, go_sem, subT, and_self, Int.natCast_succ]) ?_ (by simp [subK, keys]) (by simp only []; omega)
                    simp [subH, Tx.look, hme, q_n1, nB]
              · have c2 : decide ((j : Int) < (l.length : Int)) = false := dF (by omega)
                have e : j = l.length := by omega
                have hfin : outJ out l j = out ++ (l.filter keepB).map (fun f => f.d.tsn) := by rw [e, outJ, List.take_length]
                rw [← hfin] at hz
                have hlb2 : (outJ out l j).length ≤ 31 * (k + 1) := by omega
                simp only [c2, Nat.add_assoc, Nat.reduceAdd, go_sem, Nat.reduceAdd, Nat.reduceEqDiff, Nat.reduceLT, reduceCtorEq]
                repeat refine And.intro (by first | omega | exact ⟨by omega, by omega⟩ | exact ⟨by omega, by omega, by omega⟩ | exact ⟨⟨by omega, by omega⟩, by omega, by omega⟩ | exact okS (by kernel_rfl)) ?_
                refine ⟨⟨k + 1, i + 1, q, -1, outJ out l j⟩, ⟨by simp only []; omega, by simp only []; omega, by simp only []; omega, hz.symm, hlb2, k1, by simp only []; omega⟩, by simp only []; omega, ?_⟩
                refine Sub.of (fun n hn => hF2 n (by have : n.l = L + 1 := hn; omega)) (by simp only [go_sem, subT, and_self, Int.natCast_succ]) ?_ (by simp [subK, keys]) (by simp only []; omega)
                simp [subH, Tx.look, q_0]
      | false =>
        simp only [hfi, if_false, Bool.false_eq_true] at hz
        cases hla : f.d.la with
        | false =>
          simp only [hla, Bool.not_false, Bool.true_or, if_true] at hz
          simp only [c1, hfi, hla, r0, Fl.row, Int.toNat_natCast, List.length_map, q_n1, Nat.reduceBEq, Nat.add_assoc, Nat.reduceAdd, Nat.add_zero, go_sem, Nat.reduceAdd, Nat.reduceLT, Nat.reduceLeDiff, Nat.reduceBEq, reduceCtorEq]
          repeat refine And.intro (by first | omega | exact ⟨by omega, by omega⟩ | exact ⟨by omega, by omega, by omega⟩ | exact ⟨⟨by omega, by omega⟩, by omega, by omega⟩ | exact okS (by kernel_rfl)) ?_
          refine ⟨⟨k + 1, i + 1, q, fr, out⟩, ⟨by simp only []; omega, by simp only []; omega, by simp only []; omega, hz.symm, by simp only []; omega, k1, by simp only []; omega⟩, by simp only []; omega, ?_⟩
          refine Sub.of (fun n hn => hF2 n (by have : n.l = L + 1 := hn; omega)) (by simp only [go_sem, subT, and_self, Int.natCast_succ]) ?_ (by simp [subK, keys]) (by simp only []; omega)
          simp [subH, Tx.look, q_0]
        | true =>
          simp only [hla, Bool.not_true, Bool.false_or] at hz
          cases hfn : decide (fr < 0) with
          | true =>
            simp only [hfn, if_true] at hz
            simp only [c1, hfi, hla, hfn, r0, Fl.row, Int.toNat_natCast, List.length_map, q_n1, Nat.reduceBEq, Nat.add_assoc, Nat.reduceAdd, Nat.add_zero, go_sem, Nat.reduceAdd, Nat.reduceLT, Nat.reduceLeDiff, Nat.reduceBEq, reduceCtorEq]
            repeat refine And.intro (by first | omega | exact ⟨by omega, by omega⟩ | exact ⟨by omega, by omega, by omega⟩ | exact ⟨⟨by omega, by omega⟩, by omega, by omega⟩ | exact okS (by kernel_rfl)) ?_
            refine ⟨⟨k + 1, i + 1, q, fr, out⟩, ⟨by simp only []; omega, by simp only []; omega, by simp only []; omega, hz.symm, by simp only []; omega, k1, by simp only []; omega⟩, by simp only []; omega, ?_⟩
            refine Sub.of (fun n hn => hF2 n (by have : n.l = L + 1 := hn; omega)) (by simp only [go_sem, subT, and_self, Int.natCast_succ]) ?_ (by simp [subK, keys]) (by simp only []; omega)
            simp [subH, Tx.look, q_0]
          | false =>
            simp only [hfn, if_false, Bool.false_eq_true] at hz
            obtain ⟨m, hm⟩ : ∃ m : Nat, fr = m := ⟨fr.toNat, by simp at hfn; omega⟩
            subst hm
            simp only [Int.toNat_natCast] at hz
            have hmk : m ≤ k := by omega
            obtain ⟨l, hl⟩ : ∃ l, l = (fls.drop m).take (k + 1 - m) := ⟨_, rfl⟩
            rw [← hl] at hz
            have hll : l.length = k + 1 - m := by rw [hl]; simp; omega
            have hsub : ∀ x ∈ l, x ∈ fls := by
              intro x hx
              rw [hl] at hx
              exact List.mem_of_mem_drop (List.mem_of_mem_take hx)
            have hl0 : l.getD 0 flZ ∈ fls := by
              rw [List.getD_eq_getElem?_getD, List.getElem?_eq_getElem (by omega), Option.getD_some]
              exact hsub _ (List.getElem_mem _)
            obtain ⟨y, hy⟩ : ∃ y, y = l.getD 0 flZ := ⟨_, rfl⟩
            rw [← hy] at hl0
            have hys := hst y hl0
            have ek : ((k : Int) + 1).toNat = k + 1 := by omega
            have etl : List.take (k + 1 - m) (List.drop m (fls.map Fl.row)) = l.map Fl.row := by rw [hl, List.map_take, List.map_drop]
            have ry : (l.map Fl.row).getD 0 [] = y.row := by
              rw [hy, List.getD_eq_getElem?_getD, List.getElem?_map, List.getD_eq_getElem?_getD, List.getElem?_eq_getElem (by omega)]; rfl
            have rl := getD_eI lims (i := y.d.st.toNat) (by omega)
            obtain ⟨lim, hlm⟩ : ∃ x, x = lims.getD y.d.st.toNat 0 := ⟨_, rfl⟩
            have hto : dropTo l lims out = if decide (0 ≤ lim) && l.any (givenB lim) then out ++ (l.filter keepB).map (fun f => f.d.tsn) else out := by rw [hlm, hy]; rfl
            rw [← hlm] at rl
            have hlb : -1 ≤ lim ∧ lim ≤ 14 := hlim lim (by rw [hlm, List.getD_eq_getElem?_getD, List.getElem?_eq_getElem (by omega)]; simp)
            simp only [Fl.row] at ry
            simp only [c1, hfi, hla, hfn, ek, etl, ry, rl, eI, hll, r0, Fl.row, Int.toNat_natCast, List.length_map, n0_q, q_n1, Nat.reduceBEq, Nat.add_assoc, Nat.reduceAdd, Nat.add_zero, go_sem, Nat.reduceAdd, Nat.reduceLT, Nat.reduceLeDiff, Nat.reduceBEq, reduceCtorEq, Int.reduceToNat]
            repeat refine And.intro (by first | omega | exact ⟨by omega, by omega⟩ | exact ⟨by omega, by omega, by omega⟩ | exact ⟨⟨by omega, by omega⟩, by omega, by omega⟩ | exact okS (by kernel_rfl)) ?_
            refine CallVC.same (given_ok l lim hlb.1 hlb.2 (by omega)) ?_
            cases hgi : decide (0 ≤ lim) && l.any (givenB lim) with
            | false =>
              rw [hgi] at hto
              simp only [if_false, Bool.false_eq_true] at hto
              rw [hto] at hz
              simp only [Nat.add_assoc, Nat.reduceAdd, go_sem, Nat.reduceAdd, Nat.reduceLT]
              refine ⟨okDyn_num (fun _ => 0) (by simp only [numF, List.map]; kernel_rfl), ⟨by omega, by omega⟩, ⟨k + 1, i + 1, q, -1, out⟩, ⟨by simp only []; omega, by simp only []; omega, by simp only []; omega, hz.symm, by simp only []; omega, k1, by simp only []; omega⟩, by simp only []; omega, ?_⟩
              refine Sub.of (fun n hn => hF2 n (by have : n.l = L + 1 := hn; omega)) (by simp only [go_sem, subT, and_self, Int.natCast_succ]) ?_ (by simp [subK, keys]) (by simp only []; omega)
              simp [subH, Tx.look, q_0]
            | true =>
              rw [hgi] at hto
              simp only [if_true] at hto
              rw [hto] at hz
              simp only [List.length_map, Nat.add_assoc, Nat.reduceAdd, go_sem, Nat.reduceAdd, Nat.reduceLT]
              refine ⟨okDyn_num (fun _ => 0) (by simp only [numF, List.map]; kernel_rfl), ?_⟩
              refine loopK.intro _ _ (I := fun z : DrY => ⟨[some (.fs 14 (fls.map Fl.row)), none, none, some (.ptr ⟨L + 1, 0⟩ 0 0), none, none, some (.sl ⟨L + 1, z.q⟩ 0 (outJ out l z.j).length), none, none, none, none, none, none, none, none, none, none, none, none, none, none, none, none, none, none, none, none, none, some (.fs 14 (fls.map Fl.row)), some (.int .i64 fls.length), some (.int .i64 k), none, none, none, none, none, none, none, none, none, none, none, none, none, none, none, none, none, none, none, none, none, none, none, none, none, none, none, none, none, none, none, some (.fs 14 (l.map Fl.row)), some (.int .i64 l.length), some (.int .i64 z.j), none, none, none, none, none, none, none, none, none, none, none, none, none, none, none, none, none, none, none, none],
                [(⟨L + 1, 0⟩, .rows 31 1 true true [[.fs 1 (lims.map eI)]]), (⟨L + 1, z.q⟩, .rows 3 1 true true ((outJ out l z.j).map eI))], 10000 * (z.i + 1)⟩)
                (pre := fun z => z.j ≤ l.length ∧ 100 ≤ z.q ∧ z.q < 10000 * (z.i + 1)) (μ := fun z => l.length - z.j) ⟨0, i + 1, q⟩ ⟨by simp, k1, by simp only []; omega⟩ ?_ ?_
              · refine Sub.of (fun n hn => hF2 n (by have : n.l = L + 1 := hn; omega)) (by simp only [go_sem, subT, and_self, outJ_zero, Int.natCast_zero]) ?_ (by simp [subK, keys]) (by simp only []; omega)
                simp [subH, Tx.look, outJ_zero, q_0]
              · clear q_n1 q_n2 q_n3 q_n4 q_n5 q_0 n0_q k1 k2
                clear i q
                rintro ⟨j, i, q⟩ ⟨d1, k1, k2⟩
                simp only at d1 k1 k2 ⊢
                have q_0 : (q = 0) = False := by apply eq_false; omega
                have n0_q : (0 = q) = False := by apply eq_false; omega
                have q_n1 : ∀ kk, (10000 * (i + 1) + kk = q) = False := fun kk => by apply eq_false; omega
                have q_n2 : ∀ kk, (q = 10000 * (i + 1) + kk) = False := fun kk => by apply eq_false; omega
                have q_n3 : (10000 * (i + 1) = q) = False := by apply eq_false; omega
                have q_n4 : (q = 10000 * (i + 1)) = False := by apply eq_false; omega
                have q_n5 : ∀ kk, ((⟨L + 1, q⟩ : Nm) == ⟨L + 1, 10000 * (i + 1) + kk⟩) = false := fun kk => by simp; omega
                have hol := outJ_len out l j
                by_cases hjt : j < l.length
                · have c2 : decide ((j : Int) < (l.length : Int)) = true := dT (by omega)
                  have r2 := rowF hjt
                  obtain ⟨x, hx⟩ : ∃ x, x = l[j] := ⟨_, rfl⟩
                  have hsu := outJ_succ out l j hjt
                  rw [← hx] at r2 hsu
                  cases hxg : x.gap with
                  | true =>
                    have hsu : outJ out l (j + 1) = outJ out l j := by rw [hsu]; simp [keepB, hxg]
                    simp only [c2, r2, Fl.row, hxg, List.length_map, q_n1, Nat.reduceBEq, Nat.add_assoc, Nat.reduceAdd, go_sem, Nat.reduceAdd, Nat.reduceLT, Nat.reduceLeDiff, Nat.reduceBEq, reduceCtorEq]
                    repeat refine And.intro (by first | omega | exact ⟨by omega, by omega⟩ | exact ⟨by omega, by omega, by omega⟩ | exact ⟨⟨by omega, by omega⟩, by omega, by omega⟩ | exact okS (by kernel_rfl)) ?_
                    refine ⟨⟨j + 1, i + 1, q⟩, ⟨by simp only []; omega, k1, by simp only []; omega⟩, by simp only []; omega, ?_⟩
                    refine Sub.of (fun n hn => hF2 n (by have : n.l = L + 1 := hn; omega)) (by simp only [hsu, go_sem, subT, and_self, Int.natCast_succ]) ?_ (by simp [subK, keys]) (by simp only []; omega)
                    simp [subH, Tx.look, hsu, q_0]
                  | false =>
                    cases hxd : x.drp with
                    | true =>
                      have hsu : outJ out l (j + 1) = outJ out l j := by rw [hsu]; simp [keepB, hxg, hxd]
                      simp only [c2, r2, Fl.row, hxg, hxd, List.length_map, q_n1, Nat.reduceBEq, Nat.add_assoc, Nat.reduceAdd, go_sem, Nat.reduceAdd, Nat.reduceLT, Nat.reduceLeDiff, Nat.reduceBEq, reduceCtorEq]
                      repeat refine And.intro (by first | omega | exact ⟨by omega, by omega⟩ | exact ⟨by omega, by omega, by omega⟩ | exact ⟨⟨by omega, by omega⟩, by omega, by omega⟩ | exact okS (by kernel_rfl)) ?_
                      refine ⟨⟨j + 1, i + 1, q⟩, ⟨by simp only []; omega, k1, by simp only []; omega⟩, by simp only []; omega, ?_⟩
                      refine Sub.of (fun n hn => hF2 n (by have : n.l = L + 1 := hn; omega)) (by simp only [hsu, go_sem, subT, and_self, Int.natCast_succ]) ?_ (by simp [subK, keys]) (by simp only []; omega)
                      simp [subH, Tx.look, hsu, q_0]
                    | false =>
                      have hsu : outJ out l (j + 1) = outJ out l j ++ [x.d.tsn] := by rw [hsu]; simp [keepB, hxg, hxd]
                      simp only [c2, r2, Fl.row, hxg, hxd, List.length_map, q_0, q_n1, q_n2, q_n5, Nat.reduceBEq, nS2, Nat.add_assoc, Nat.reduceAdd, Nat.add_zero, go_sem, Nat.reduceAdd, Nat.reduceMul, Nat.reduceEqDiff, Nat.reduceLT, Nat.reduceLeDiff, Nat.reduceBEq, reduceCtorEq]
                      repeat refine And.intro (by first | omega | exact ⟨by omega, by omega⟩ | exact ⟨by omega, by omega, by omega⟩ | exact ⟨⟨by omega, by omega⟩, by omega, by omega⟩ | exact okS (by kernel_rfl)) ?_
                      have hl1 : (outJ out l (j + 1)).length = (outJ out l j).length + 1 := by rw [hsu]; simp
                      have hme : (outJ out l (j + 1)).map eI = (outJ out l j).map eI ++ [[.int .i64 x.d.tsn]] := by rw [hsu]; simp [eI]
                      refine ⟨⟨j + 1, i + 1, 10000 * (i + 1) + 576⟩, ⟨by simp only []; omega, by simp only []; omega, by simp only []; omega⟩, by simp only []; omega, ?_⟩
                      refine Sub.of (fun n hn => hF2 n (by have : n.l = L + 1 := hn; omega)) (by simp only [hl1, go_sem, subT, and_self, Int.natCast_succ]) ?_ (by simp [subK, keys]) (by simp only []; omega)
                      simp [subH, Tx.look, hme, q_n1, nB]
                · have c2 : decide ((j : Int) < (l.length : Int)) = false := dF (by omega)
                  have e : j = l.length := by omega
                  have hfin : outJ out l j = out ++ (l.filter keepB).map (fun f => f.d.tsn) := by rw [e, outJ, List.take_length]
                  rw [← hfin] at hz
                  have hlb2 : (outJ out l j).length ≤ 31 * (k + 1) := by omega
                  simp only [c2, Nat.add_assoc, Nat.reduceAdd, go_sem, Nat.reduceAdd, Nat.reduceEqDiff, Nat.reduceLT, reduceCtorEq]
                  repeat refine And.intro (by first | omega | exact ⟨by omega, by omega⟩ | exact ⟨by omega, by omega, by omega⟩ | exact ⟨⟨by omega, by omega⟩, by omega, by omega⟩ | exact okS (by kernel_rfl)) ?_
                  refine ⟨⟨k + 1, i + 1, q, -1, outJ out l j⟩, ⟨by simp only []; omega, by simp only []; omega, by simp only []; omega, hz.symm, hlb2, k1, by simp only []; omega⟩, by simp only []; omega, ?_⟩
                  refine Sub.of (fun n hn => hF2 n (by have : n.l = L + 1 := hn; omega)) (by simp only [go_sem, subT, and_self, Int.natCast_succ]) ?_ (by simp [subK, keys]) (by simp only []; omega)
                  simp [subH, Tx.look, q_0]
    · have c1 : decide ((k : Int) < (fls.length : Int)) = false := dF (by omega)
      have e : k = fls.length := by omega
      have ed : dropsL fls lims = out := by unfold dropsL; rw [← e, ← e4]
      rw [ed]
      simp only [c1, Nat.add_assoc, Nat.reduceAdd, go_sem, Nat.reduceAdd, Nat.reduceLT]
      repeat refine And.intro (by first | omega | exact ⟨by omega, by omega⟩ | exact ⟨by omega, by omega, by omega⟩ | exact ⟨⟨by omega, by omega⟩, by omega, by omega⟩ | exact okS (by kernel_rfl)) ?_
      exact PostF.of (p := True) (v0 := .tup [.sl ⟨L + 1, q⟩ 0 out.length, .int .i64 0] ) (.inr rfl) (by simp only [resVal, resVals, resVal1, one, go_sem]) trivial (by simp [Wk, WkL, Tx.look, List.take_of_length_le, q_0]) (by simp [wkN, wkNL]) (by simp [Tx.nf, nfl]) trivial (by simp [UpdAll, keys])
end Go.Proofs.Ytfhhbkehlfipgaa
end

section
set_option linter.unusedSimpArgs false
set_option linter.unusedVariables false
set_option linter.unnecessarySimpa false
set_option linter.unusedSectionVars false
namespace Go.Proofs.Ytfhhbkehlfipgaa
open Go.Tx
set_option maxRecDepth 100000
set_option maxHeartbeats 16000000
set_option linter.unusedSimpArgs false
set_option linter.unusedVariables false
def Ends (fls : List Fl) (m t : Nat) : Prop := m ≤ t ∧ t < fls.length ∧ (fls.getD m flZ).d.fi = true ∧ (fls.getD t flZ).d.la = true ∧ (∀ i, m < i → i ≤ t → (fls.getD i flZ).d.fi = false) ∧ ∀ i, m ≤ i → i < t → (fls.getD i flZ).d.la = false
theorem Ends.uniq {fls : List Fl} {m t t' : Nat} (h : Ends fls m t) (h' : Ends fls m t') : t = t' := by
  obtain ⟨a1, a2, a3, a4, a5, a6⟩ := h
  obtain ⟨b1, b2, b3, b4, b5, b6⟩ := h'
  rcases Nat.lt_trichotomy t t' with hh | hh | hh
  · have := b6 t a1 hh; rw [a4] at this; cases this
  · exact hh
  · have := a6 t' b1 hh; rw [b4] at this; cases this
open Classical in
noncomputable def endsI (fls : List Fl) (m : Nat) : Int := if h : ∃ t, Ends fls m t then ((Classical.choose h : Nat) : Int) else -1
theorem endsI_eq {fls : List Fl} {m t : Nat} (h : Ends fls m t) : endsI fls m = t := by
  unfold endsI
  rw [dif_pos ⟨t, h⟩, (Classical.choose_spec (⟨t, h⟩ : ∃ t, Ends fls m t)).uniq h]
theorem endsI_no {fls : List Fl} {m : Nat} (h : ¬ ∃ t, Ends fls m t) : endsI fls m = -1 := dif_neg h
theorem endsI_cases (fls : List Fl) (m : Nat) : (∃ t, Ends fls m t ∧ endsI fls m = t) ∨ endsI fls m = -1 := by
  by_cases h : ∃ t, Ends fls m t
  · obtain ⟨t, h⟩ := h
    exact .inl ⟨t, h, endsI_eq h⟩
  · exact .inr (endsI_no h)
noncomputable def refStep (fls : List Fl) (lims : List Int) (out : List Int) (m : Nat) : List Int :=
  if endsI fls m < 0 then out else dropTo ((fls.drop m).take ((endsI fls m).toNat + 1 - m)) lims out
noncomputable def refL (fls : List Fl) (lims : List Int) (k : Nat) : List Int := (List.range k).foldl (refStep fls lims) []
theorem refL_succ (fls : List Fl) (lims : List Int) (k : Nat) : refL fls lims (k + 1) = refStep fls lims (refL fls lims k) k := by
  unfold refL
  rw [List.range_succ, List.foldl_append]; rfl
theorem refStep_no {fls : List Fl} {lims : List Int} {out : List Int} {m : Nat} (h : ¬ ∃ t, Ends fls m t) : refStep fls lims out m = out := by
  rw [refStep, endsI_no h]; rfl
theorem refStep_yes {fls : List Fl} {lims : List Int} {out : List Int} {m t : Nat} (h : Ends fls m t) : refStep fls lims out m = dropTo ((fls.drop m).take (t + 1 - m)) lims out := by
  rw [refStep, endsI_eq h, if_neg (by omega)]; rfl
theorem not_ends {fls : List Fl} {m : Nat} (h : (fls.getD m flZ).d.fi = false) : ¬ ∃ t, Ends fls m t := by
  rintro ⟨t, _, _, h3, _⟩
  rw [h] at h3; cases h3
theorem refL_skip {fls : List Fl} {lims : List Int} {a : Nat} : ∀ {b : Nat}, a ≤ b → (∀ i, a ≤ i → i < b → (fls.getD i flZ).d.fi = false) → refL fls lims b = refL fls lims a
  | 0, h, _ => by rw [Nat.le_zero.mp h]
  | b + 1, h, hf => by
    by_cases he : a = b + 1
    · rw [he]
    · rw [refL_succ, refStep_no (not_ends (hf b (by omega) (by omega))), refL_skip (by omega) (fun i h1 h2 => hf i h1 (by omega))]
def DrInv (fls : List Fl) (lims : List Int) (k : Nat) (z : Int × List Int) : Prop :=
  (z.1 = -1 ∧ z.2 = refL fls lims k) ∨ ∃ m : Nat, z.1 = m ∧ m < k ∧ z.2 = refL fls lims m ∧ (fls.getD m flZ).d.fi = true ∧ (∀ i, m < i → i < k → (fls.getD i flZ).d.fi = false) ∧ ∀ i, m ≤ i → i < k → (fls.getD i flZ).d.la = false
theorem drInv (fls : List Fl) (lims : List Int) : ∀ k, k ≤ fls.length → DrInv fls lims k (dropsZ fls lims k)
  | 0, _ => .inl ⟨rfl, rfl⟩
  | k + 1, hk => by
    have ih := drInv fls lims k (by omega)
    rw [dropsZ_succ]
    obtain ⟨⟨fr, out⟩, hz⟩ : ∃ z, z = dropsZ fls lims k := ⟨_, rfl⟩
    rw [← hz] at ih ⊢
    unfold dropStep
    obtain ⟨f, hf⟩ : ∃ f, f = fls.getD k flZ := ⟨_, rfl⟩
    simp only [← hf]
    cases hfi : f.d.fi with
    | true =>
      have ho : out = refL fls lims k := by
        rcases ih with ⟨_, h2⟩ | ⟨m, h1, h2, h3, h4, h5, h6⟩
        · exact h2
        · simp only at h1 h2 h3
          have hno : ¬ ∃ t, Ends fls m t := by
            rintro ⟨t, a1, a2, a3, a4, a5, a6⟩
            by_cases htk : t < k
            · rw [h6 t a1 htk] at a4; cases a4
            · have := a5 k h2 (by omega); rw [← hf, hfi] at this; cases this
          have e1 : refL fls lims (m + 1) = refL fls lims m := by rw [refL_succ, refStep_no hno]
          rw [h3, ← e1]
          exact (refL_skip (by omega) (fun i a b => h5 i (by omega) b)).symm
      simp only [if_true]
      have e0 : decide ((k : Int) < 0) = false := by first | (simp; done) | (simp; omega)
      cases hla : f.d.la with
      | false =>
        simp only [Bool.not_false, Bool.true_or, if_true]
        exact .inr ⟨k, rfl, by omega, ho, by rw [← hf]; exact hfi, fun i a b => absurd b (by omega), fun i a b => by rw [show i = k by omega, ← hf]; exact hla⟩
      | true =>
        simp only [Bool.not_true, Bool.false_or, e0, Bool.false_eq_true, if_false]
        have he : Ends fls k k := ⟨Nat.le_refl _, by omega, by rw [← hf]; exact hfi, by rw [← hf]; exact hla, fun i a b => absurd b (by omega), fun i a b => absurd b (by omega)⟩
        exact .inl ⟨rfl, by rw [refL_succ, refStep_yes he, ho]; simp only [Int.toNat_natCast]⟩
    | false =>
      simp only [Bool.false_eq_true, if_false]
      have hno := not_ends (fls := fls) (m := k) (by rw [← hf]; exact hfi)
      rcases ih with ⟨h1, h2⟩ | ⟨m, h1, h2, h3, h4, h5, h6⟩
      · simp only at h1 h2
        subst h1
        simp only [show decide ((-1 : Int) < 0) = true from rfl, Bool.or_true, if_true]
        exact .inl ⟨rfl, by rw [refL_succ, refStep_no hno]; exact h2⟩
      · simp only at h1 h2 h3
        subst h1
        have e0 : decide ((m : Int) < 0) = false := by first | (simp; done) | (simp; omega)
        cases hla : f.d.la with
        | false =>
          simp only [Bool.not_false, Bool.true_or, if_true]
          refine .inr ⟨m, rfl, by omega, h3, h4, fun i a b => ?_, fun i a b => ?_⟩
          · by_cases hik : i = k
            · rw [hik, ← hf]; exact hfi
            · exact h5 i a (by omega)
          · by_cases hik : i = k
            · rw [hik, ← hf]; exact hla
            · exact h6 i a (by omega)
        | true =>
          simp only [Bool.not_true, Bool.false_or, e0, Bool.false_eq_true, if_false]
          have he : Ends fls m k := by
            refine ⟨by omega, by omega, h4, by rw [← hf]; exact hla, fun i a b => ?_, h6⟩
            by_cases hik : i = k
            · rw [hik, ← hf]; exact hfi
            · exact h5 i a (by omega)
          refine .inl ⟨rfl, ?_⟩
          have e1 : refL fls lims (k + 1) = refL fls lims (m + 1) := by
            refine refL_skip (by omega) (fun i a b => ?_)
            by_cases hik : i = k
            · rw [hik, ← hf]; exact hfi
            · exact h5 i (by omega) (by omega)
          rw [e1, refL_succ, refStep_yes he, ← h3]
          simp only [Int.toNat_natCast]
theorem drops_ref (fls : List Fl) (lims : List Int) : dropsL fls lims = refL fls lims fls.length := by
  unfold dropsL
  rcases drInv fls lims fls.length (Nat.le_refl _) with ⟨_, h⟩ | ⟨m, h1, h2, h3, h4, h5, h6⟩
  · exact h
  · rw [h3]
    have hno : ¬ ∃ t, Ends fls m t := by
      rintro ⟨t, a1, a2, a3, a4, a5, a6⟩
      rw [h6 t a1 a2] at a4; cases a4
    have e1 : refL fls lims (m + 1) = refL fls lims m := by rw [refL_succ, refStep_no hno]
    rw [← e1]
    exact (refL_skip (by omega) (fun i a b => h5 i (by omega) b)).symm
theorem getD_F {l : List Fl} {i : Nat} (h : i < l.length) : l[i] = l.getD i flZ := by simp [List.getD_eq_getElem?_getD, h]
theorem refEnds_ok {F : SF} {L nx : Nat} (fls : List Fl) (m : Nat) (hm : m < fls.length) (hlen : fls.length ≤ 1000) :
    Con Try.prog 71 [.fs 14 (fls.map Fl.row), .int .i64 m] F L nx nx (.int .i64 (endsI fls m)) [] [] := by
  refine Con.body (cxOk (L + 1)) rfl rfl (fn := Try.f71) (c := Try.f71.body.getD .skip) (by kernel_rfl) (by rfl) (by kernel_rfl) rfl (by simp) ?_
  intro F3 hF1 hF2
  have r0 := rowF hm
  rw [getD_F hm] at r0
  cases hfi : (fls.getD m flZ).d.fi with
  | false =>
    simp only [Try.f71, cx, r0, Fl.row, hfi, List.length_map, Nat.reduceBEq, Nat.reduceAdd, Nat.add_zero, go_sem, meths, Nat.reduceSub, Nat.reduceAdd, Nat.reduceLT, Nat.reduceLeDiff, Nat.reduceBEq]
    repeat refine And.intro (by first | omega | exact ⟨by omega, by omega⟩ | exact ⟨by omega, by omega, by omega⟩ | exact ⟨⟨by omega, by omega⟩, by omega, by omega⟩ | exact okS (by kernel_rfl)) ?_
    exact .int (.inr rfl) rfl (endsI_no (not_ends hfi)).symm (by simp [UpdAll])
  | true =>
    simp only [Try.f71, cx, r0, Fl.row, hfi, List.length_map, Nat.reduceBEq, Nat.reduceAdd, Nat.add_zero, go_sem, meths, Nat.reduceSub, Nat.reduceAdd, Nat.reduceLT, Nat.reduceLeDiff, Nat.reduceBEq]
    repeat refine And.intro (by first | omega | exact ⟨by omega, by omega⟩ | exact ⟨by omega, by omega, by omega⟩ | exact ⟨⟨by omega, by omega⟩, by omega, by omega⟩ | exact okS (by kernel_rfl)) ?_
    refine loopK.intro _ _ (I := fun i : Nat => ⟨[some (.fs 14 (fls.map Fl.row)), some (.int .i64 m), none, none, none, some (.int .i64 i), none, none, none, none, none, none, none, none, none, none, none, none, none, none, none, none, none, none, none, none, none, none, none, none, none, none, none, none, none, none, none, none], [], 10000 * (i + 1)⟩) (pre := fun i => m ≤ i ∧ i ≤ fls.length ∧ (∀ j, m < j → j < i → (fls.getD j flZ).d.fi = false) ∧ ∀ j, m ≤ j → j < i → (fls.getD j flZ).d.la = false) (μ := fun i => fls.length - i) m ⟨by omega, by omega, fun j a b => absurd b (by omega), fun j a b => absurd b (by omega)⟩ ?_ ?_
    · exact Sub.of (fun n hn => hF2 n (by have : n.l = L + 1 := hn; omega)) (by simp only [go_sem, subT, and_self]) trivial trivial (by simp only []; omega)
    · rintro i ⟨h1, h2, h3, h4⟩
      by_cases hlt : i < fls.length
      · have c1 : decide ((i : Int) < (fls.length : Int)) = true := dT (by omega)
        have r1 := rowF hlt
        rw [getD_F hlt] at r1
        by_cases him : m < i
        · have c2 : decide ((m : Int) < (i : Int)) = true := dT (by omega)
          cases hfx : (fls.getD i flZ).d.fi with
          | true =>
            simp only [c1, c2, r1, Fl.row, hfx, List.length_map, Nat.reduceBEq, Nat.add_assoc, Nat.reduceAdd, Nat.add_zero, go_sem, Nat.reduceAdd, Nat.reduceLT, Nat.reduceLeDiff, Nat.reduceBEq]
            repeat refine And.intro (by first | omega | exact ⟨by omega, by omega⟩ | exact ⟨by omega, by omega, by omega⟩ | exact ⟨⟨by omega, by omega⟩, by omega, by omega⟩ | exact okS (by kernel_rfl)) ?_
            refine .int (.inr rfl) rfl (endsI_no ?_).symm (by simp [UpdAll])
            rintro ⟨t, a1, a2, a3, a4, a5, a6⟩
            by_cases hti : t < i
            · rw [h4 t a1 hti] at a4; cases a4
            · rw [a5 i him (by omega)] at hfx; cases hfx
          | false =>
            cases hlx : (fls.getD i flZ).d.la with
            | true =>
              simp only [c1, c2, r1, Fl.row, hfx, hlx, List.length_map, Nat.reduceBEq, Nat.add_assoc, Nat.reduceAdd, Nat.add_zero, go_sem, Nat.reduceAdd, Nat.reduceLT, Nat.reduceLeDiff, Nat.reduceBEq]
              repeat refine And.intro (by first | omega | exact ⟨by omega, by omega⟩ | exact ⟨by omega, by omega, by omega⟩ | exact ⟨⟨by omega, by omega⟩, by omega, by omega⟩ | exact okS (by kernel_rfl)) ?_
              refine .int (.inr rfl) rfl (endsI_eq ⟨h1, hlt, hfi, hlx, fun j a b => ?_, h4⟩).symm (by simp [UpdAll])
              by_cases hji : j = i
              · rw [hji]; exact hfx
              · exact h3 j a (by omega)
            | false =>
              simp only [c1, c2, r1, Fl.row, hfx, hlx, List.length_map, Nat.reduceBEq, Nat.add_assoc, Nat.reduceAdd, Nat.add_zero, go_sem, Nat.reduceAdd, Nat.reduceLT, Nat.reduceLeDiff, Nat.reduceBEq]
              repeat refine And.intro (by first | omega | exact ⟨by omega, by omega⟩ | exact ⟨by omega, by omega, by omega⟩ | exact ⟨⟨by omega, by omega⟩, by omega, by omega⟩ | exact okS (by kernel_rfl)) ?_
              refine ⟨i + 1, ⟨by omega, by omega, fun j a b => ?_, fun j a b => ?_⟩, by omega, Sub.of (fun n hn => hF2 n (by have : n.l = L + 1 := hn; omega)) (by simp only [go_sem, subT, and_self, Int.natCast_succ]) trivial trivial (by simp only []; omega)⟩
              · by_cases hji : j = i
                · rw [hji]; exact hfx
                · exact h3 j a (by omega)
              · by_cases hji : j = i
                · rw [hji]; exact hlx
                · exact h4 j a (by omega)
        · have c2 : decide ((m : Int) < (i : Int)) = false := dF (by omega)
          have e : i = m := by omega
          subst e
          cases hlx : (fls.getD i flZ).d.la with
          | true =>
            simp only [c1, c2, r1, Fl.row, hlx, List.length_map, Nat.reduceBEq, Nat.add_assoc, Nat.reduceAdd, Nat.add_zero, go_sem, Nat.reduceAdd, Nat.reduceLT, Nat.reduceLeDiff, Nat.reduceBEq]
            repeat refine And.intro (by first | omega | exact ⟨by omega, by omega⟩ | exact ⟨by omega, by omega, by omega⟩ | exact ⟨⟨by omega, by omega⟩, by omega, by omega⟩ | exact okS (by kernel_rfl)) ?_
            exact .int (.inr rfl) rfl (endsI_eq ⟨h1, hlt, hfi, hlx, fun j a b => absurd b (by omega), h4⟩).symm (by simp [UpdAll])
          | false =>
            simp only [c1, c2, r1, Fl.row, hlx, List.length_map, Nat.reduceBEq, Nat.add_assoc, Nat.reduceAdd, Nat.add_zero, go_sem, Nat.reduceAdd, Nat.reduceLT, Nat.reduceLeDiff, Nat.reduceBEq]
            repeat refine And.intro (by first | omega | exact ⟨by omega, by omega⟩ | exact ⟨by omega, by omega, by omega⟩ | exact ⟨⟨by omega, by omega⟩, by omega, by omega⟩ | exact okS (by kernel_rfl)) ?_
            refine ⟨i + 1, ⟨by omega, by omega, fun j a b => absurd b (by omega), fun j a b => ?_⟩, by omega, Sub.of (fun n hn => hF2 n (by have : n.l = L + 1 := hn; omega)) (by simp only [go_sem, subT, and_self, Int.natCast_succ]) trivial trivial (by simp only []; omega)⟩
            rw [show j = i by omega]; exact hlx
      · have c1 : decide ((i : Int) < (fls.length : Int)) = false := dF (by omega)
        simp only [c1, List.length_map, Nat.add_assoc, Nat.reduceAdd, go_sem, Nat.reduceAdd, Nat.reduceLT]
        refine .int (.inr rfl) rfl (endsI_no ?_).symm (by simp [UpdAll])
        rintro ⟨t, a1, a2, a3, a4, a5, a6⟩
        rw [h4 t a1 (by omega)] at a4; cases a4
end Go.Proofs.Ytfhhbkehlfipgaa
end
