/- Lemmas for the walk: C58. -/
import Derived.Test.YtfhhbkehlfipgaaP14
import Derived.Test.YtfhhbkehlfipgaaP16
section
set_option linter.unusedSimpArgs false
set_option linter.unusedVariables false
set_option linter.unnecessarySimpa false
set_option linter.unusedSectionVars false
namespace Go.Proofs.Ytfhhbkehlfipgaa
open Go.Tx
set_option maxRecDepth 100000
set_option maxHeartbeats 16000000
set_option linter.unusedSimpArgs false
set_option linter.unusedVariables false
def e8 (x : Int) : PV := .int .i8 x
def cutF (f : Fl) : Fl := { f with d := { f.d with pl := f.d.pl.take 100 } }
def rawS (R : List Fl) (i : Nat) : List Fl := (R.take i).map cutF ++ R.drop i
theorem rawS_len (R : List Fl) (i : Nat) : (rawS R i).length = R.length := by simp [rawS]; omega
theorem rawS_zero (R : List Fl) : rawS R 0 = R := by simp [rawS]
theorem rawS_at {R : List Fl} {i : Nat} (h : i < R.length) : (rawS R i).getD i flZ = R.getD i flZ := by
  rw [rawS, List.getD_eq_getElem?_getD, List.getElem?_append_right (by simp; omega)]
  simp [List.getD_eq_getElem?_getD, show i - min i R.length = 0 by omega]
theorem rawS_succ {R : List Fl} {i : Nat} (h : i < R.length) : rawS R (i + 1) = (rawS R i).set i (cutF (R.getD i flZ)) := by
  apply List.ext_getElem?
  intro k
  by_cases hk : k = i
  · subst hk
    rw [List.getElem?_set_self (by rw [rawS_len]; exact h), rawS, List.getElem?_append_left (by simp; omega)]
    simp [List.getD_eq_getElem?_getD, h]
  · rw [List.getElem?_set_ne (by omega)]
    rcases Nat.lt_or_ge k i with hlt | hge
    · rw [rawS, rawS, List.getElem?_append_left (by simp; omega), List.getElem?_append_left (by simp; omega)]
      simp [hlt, show k < i + 1 by omega]
    · rw [rawS, rawS, List.getElem?_append_right (by simp; omega), List.getElem?_append_right (by simp; omega)]
      simp only [List.length_map, List.length_take, List.getElem?_drop]
      congr 1
      omega
def markF (d : Dat) : Option Nat → Fl
  | none => ⟨d, 0, 1, 0, false, false, false⟩
  | some k => ⟨d, 0, 1 + ((k : Int).tmod 5), 0, decide (0 < Go.Sx.ibits .and .u8 k 32), decide (0 < Go.Sx.ibits .and .u8 k 64), decide (0 < Go.Sx.ibits .and .u8 k 128)⟩
def drS (ds : List Dat) (marks : List Nat) (i : Nat) : List Fl := (List.range i).map fun j => markF (ds.getD j datZ) marks[j]?
theorem drS_len (ds : List Dat) (marks : List Nat) (i : Nat) : (drS ds marks i).length = i := by simp [drS]
theorem drS_succ (ds : List Dat) (marks : List Nat) (i : Nat) : drS ds marks (i + 1) = drS ds marks i ++ [markF (ds.getD i datZ) marks[i]?] := by simp [drS, List.range_succ]
theorem numG_len8 (f : Int) : ∀ (out : List Int) (l : List Msg) (acc : List Dat), (∀ m ∈ l, m.tx.length ≤ 8000) → (numG f out l acc).2.length ≤ acc.length + 8 * l.length
  | out, [], acc, _ => by simp [numG]
  | out, m :: l, acc, h => by
    have h1 := h m (by simp)
    have h2 := numG_len8 f (outS out m.st.toNat m.lo) l (acc ++ stampL f acc.length (cutsM out m) (cutsM out m).length) (fun x hx => h x (by simp [hx]))
    have h3 : (cutsM out m).length ≤ 8 := by rw [cutsM, sendD_len]; omega
    simp only [numG, List.length_cons]
    simp only [List.length_append, stampL_len] at h2
    omega
theorem piecesW_len (i0 : Nat) (f b : Int) (ws : List Wd) : (piecesW i0 f b ws).length ≤ 96 := by
  have h := msgsW_ok (N := 1 + i0 % 16) (by omega) ws
  have := numG_len8 f (startI i0 b) (msgsW (1 + i0 % 16) ws) [] (fun m hm => Nat.le_trans (h.t2 m hm) (by omega))
  have h2 := h.len
  unfold piecesW
  simp only [List.length_nil] at this
  omega
def smF (x : Int) : Int := if x.tmod 5 < -1 then -1 else x.tmod 5
def smP (few : List Int) (i : Nat) : List Int := (List.range 16).map fun j => if j < i then smF (few.getD j 0) else 0
theorem smP_len (few : List Int) (i : Nat) : (smP few i).length = 16 := by simp [smP]
theorem smP_succ (few : List Int) {i : Nat} (h : i < 16) : smP few (i + 1) = (smP few i).set i (smF (few.getD i 0)) := by
  apply List.ext_getElem?
  intro k
  by_cases hk : k = i
  · subst hk
    rw [List.getElem?_set_self (by rw [smP_len]; exact h)]
    simp [smP, h]
  · rw [List.getElem?_set_ne (by omega)]
    simp only [smP, List.getElem?_map]
    cases hr : (List.range 16)[k]? with
    | none => rfl
    | some j =>
      have : j = k := by
        obtain ⟨h1, h2⟩ := List.getElem?_eq_some_iff.1 hr
        simpa using h2.symm
      subst this
      have e : (j < i + 1) = (j < i) := by apply propext; omega
      simp only [Option.map_some, e]
structure DlX where
  k : Nat
  i : Nat
  q : Nat
theorem dropTo_len (l : List Fl) (lims out : List Int) : (dropTo l lims out).length ≤ out.length + l.length := by
  unfold dropTo
  have := List.length_filter_le keepB l
  simp only []
  split
  · simp only [List.length_append, List.length_map]; omega
  · omega
theorem dropsZ_len (fls : List Fl) (lims : List Int) : ∀ k, (dropsZ fls lims k).2.length ≤ fls.length * k
  | 0 => by simp [dropsZ]
  | k + 1 => by
    have ih := dropsZ_len fls lims k
    rw [dropsZ_succ, Nat.mul_succ]
    have key : ∀ z : Int × List Int, (dropStep fls lims z k).2.length ≤ z.2.length + fls.length := by
      intro z
      dsimp only [dropStep]
      generalize (if (fls.getD k flZ).d.fi = true then (k : Int) else z.1) = fr
      by_cases h : (!(fls.getD k flZ).d.la || decide (fr < 0)) = true
      · rw [if_pos h]; simp only []; omega
      · rw [if_neg h]
        refine Nat.le_trans (dropTo_len _ _ _) ?_
        simp only [List.length_take, List.length_drop]
        omega
    have := key (dropsZ fls lims k)
    omega
theorem dropsR_len (fls : List Fl) (lims : List Int) : (dropsR fls lims).1.length ≤ 1000 := by
  unfold dropsR
  split
  · simp
  · rename_i h
    split
    · simp
    · have h1 := dropsZ_len fls lims fls.length
      simp at h
      have h2 : fls.length * fls.length ≤ 30 * 30 := Nat.mul_le_mul (by omega) (by omega)
      simp only [dropsL]
      omega
theorem dropsLaw_ok {F : SF} {L nx : Nat} (raw : List Fl) (hraw : raw.length ≤ 9223372036854775807) (lims : List Int) (hlims : lims.length ≤ 9223372036854775807)
    (o i0 : Nat) (f : Nat) (hf : f < 4294967296) (a b : Int) (ho : o < 256) (hi0 : i0 < 256) (ha1 : 0 ≤ a) (ha2 : a < 65536) (hb1 : 0 ≤ b) (hb2 : b < 65536) (ws : List Wd) (hws : ∀ w ∈ ws, w.ok) (hwl : ws.length ≤ 9223372036854775807) (ks : List Nat)
    (marks : List Nat) (hmk : ∀ k ∈ marks, k < 256) (hml : marks.length ≤ 9223372036854775807) (few : List Int) (hfew : few.length = 16) (hfw : ∀ x ∈ few, -128 ≤ x ∧ x < 128) :
    Con Try.prog 8 [.fs 14 (raw.map Fl.row), .fs 1 (lims.map eI), .agg [.int .u8 o, .int .u8 i0, .int .u32 f, .int .u16 a, .int .u16 b, .fs 4 (ws.map Wd.row), .fs 1 (ks.map oU)], .fs 1 (marks.map oU), .agg (few.map e8)] F L nx nx (.bool true) [] [] := by
  obtain ⟨R, hR⟩ : ∃ x, x = raw.take 32 := ⟨_, rfl⟩
  have hRl : R.length ≤ 32 := by rw [hR]; simp; omega
  have eR : List.take ((min (raw.length : Int) 32).toNat - 0) (raw.map Fl.row) = R.map Fl.row := by
    rw [hR, List.map_take, List.take_eq_take_iff]; simp; omega
  obtain ⟨lm, hlm⟩ : ∃ x, x = lims.take 18 := ⟨_, rfl⟩
  have hll : lm.length ≤ 18 := by rw [hlm]; simp; omega
  have el : List.take ((min (lims.length : Int) 18).toNat - 0) (lims.map eI) = lm.map eI := by
    rw [hlm, List.map_take, List.take_eq_take_iff]; simp; omega
  have hnf : nfl (few.map e8) = true := by
    clear hfew hfw
    induction few with
    | nil => rfl
    | cons x l ih => simp [nfl, nf, e8] at ih ⊢; exact ih
  refine Con.body (cxOk (L + 1)) rfl rfl (fn := Try.f8) (c := Try.f8.body.getD .skip) (by kernel_rfl) (by rfl) (by kernel_rfl) rfl (by simp) ?_
  intro F3 hF1 hF2
  simp only [Try.f8, cx, List.length_map, hfew, Nat.reduceBEq, Nat.reduceAdd, go_sem, meths, Nat.reduceSub, Nat.reduceAdd, Nat.reduceLT, Nat.reduceBEq, reduceCtorEq]
  repeat refine And.intro (by first | omega | exact ⟨by omega, by omega⟩ | exact ⟨by omega, by omega, by omega⟩ | exact ⟨⟨by omega, by omega⟩, by omega, by omega⟩ | exact okS (by kernel_rfl)) ?_
  refine CallVC.same works_ok ?_
  simp only [List.length_map, Nat.reduceBEq, Nat.reduceAdd, go_sem, Nat.reduceAdd, Nat.reduceEqDiff, Nat.reduceLT, Nat.reduceBEq, reduceCtorEq]
  repeat refine And.intro (by first | omega | exact ⟨by omega, by omega⟩ | exact ⟨by omega, by omega, by omega⟩ | exact ⟨⟨by omega, by omega⟩, by omega, by omega⟩ | exact okS (by kernel_rfl)) ?_
  simp only [eR, el, hnf, List.length_map]
  refine ⟨⟨by omega, by omega⟩, ⟨by omega, by omega, by omega⟩, okDyn_num (fun x => x.i) (by kernel_rfl), ?_⟩
  refine loopK.intro _ _ (I := fun i : Nat => ⟨[some (.sl ⟨L + 1, 320⟩ 0 R.length), some (.fs 1 (lm.map eI)), none, some (.fs 1 (marks.map oU)), none, none, none, some (.ptr ⟨L + 1, 0⟩ 0 0), none, some (.ptr ⟨L + 1, 32⟩ 0 0), some (.bool false), none, none, none, none, none, none, none, none, none, none, none, none, none, none, none, none, none, none, none, none, none, none, none, none, none, none, none, none, none, none, none, some (.int .i64 R.length), some (.int .i64 i), none, none, none, none, none, none, none, none, none, none, none, none, none, none, none, none, none, none, none, none, none, none, none, none, none, none, none, none, none, none, none, none, none, none, none, none, none, none, none, none, none, none, none, none, none, none, none, none, none, none, none, none, none, none, none, none, none, none, none, none, none, none, none, none, none, none, none, none, none, none, none, none, none, none, none, none, none, none, none, none, none, none, none, none, none, none, none, none, none, none, none, none, none, none, none, none, none, none, none, none, none, none, none, none, none, none, none, none, none, none, none, none, none, none, none, none, none, none, none, none, none, none, none, none, none, none, none, none, none, none, none, none, none, none, none, none, none, none],
    [(⟨L + 1, 0⟩, .rows 28 7 true true [[.int .u8 o, .int .u8 i0, .int .u32 f, .int .u16 a, .int .u16 b, .fs 4 (ws.map Wd.row), .fs 1 (ks.map oU)]]), (⟨L + 1, 32⟩, .rows 82 16 true true [few.map e8]), (⟨L + 1, 320⟩, .rows 85 14 true true ((rawS R i).map Fl.row))], if i = R.length then 1000000 else 10000 * (i + 1)⟩)
    (pre := fun i => i ≤ R.length) (μ := fun i => R.length - i) 0 (by omega) ?_ ?_
  · refine Sub.of (fun n hn => hF2 n (by have : n.l = L + 1 := hn; omega)) (by simp only [go_sem, subT, and_self, Int.natCast_zero]) ?_ (by simp [subK, keys]) (by simp only []; split <;> omega)
    simp [subH, Tx.look, rawS_zero]
  · rintro i hi
    have hSl := rawS_len R i
    by_cases hlt : i < R.length
    · have f1 : decide ((i : Int) < (R.length : Int)) = true := dT (by omega)
      have hne : ¬ i = R.length := by omega
      obtain ⟨x, hx⟩ : ∃ x, x = R.getD i flZ := ⟨_, rfl⟩
      have r0 : ((rawS R i).map Fl.row).getD i [] = x.row := by
        rw [rowF (by omega), getD_F (by omega), rawS_at hlt, hx]
      have hpay : List.take ((min (x.d.pl.length : Int) 100).toNat - 0) x.d.pl = x.d.pl.take 100 := by
        rw [List.take_eq_take_iff]; omega
      have hsu := rawS_succ hlt
      rw [← hx] at hsu
      have hme : (rawS R (i + 1)).map Fl.row = ((rawS R i).map Fl.row).set i [.int .i64 x.d.tsn, .int .i64 x.d.st, .int .i64 x.d.sq, .int .i64 x.d.pr, .bool x.d.fi, .bool x.d.la, .bool x.d.lo, .str (x.d.pl.take 100), .int .i64 x.at_, .int .i64 x.tr, .int .i64 x.mi, .bool x.gap, .bool x.lost, .bool x.drp] := by
        rw [hsu, List.map_set]; rfl
      simp only [f1, hne, if_false, r0, Fl.row, hpay, hSl, List.length_map, Nat.reduceBEq, Nat.add_assoc, Nat.reduceAdd, Nat.add_zero, go_sem, Nat.reduceAdd, Nat.reduceEqDiff, Nat.reduceLT, Nat.reduceLeDiff, Nat.reduceBEq, reduceCtorEq]
      refine ⟨by kernel_rfl, ⟨by omega, by omega⟩, by omega, ⟨by omega, by omega⟩, by omega, ⟨by omega, by omega, by omega⟩, ⟨by omega, by omega⟩, by omega, okDyn_num (fun x => x.i) (by simp only [numF, List.map]; kernel_rfl), ⟨by omega, by omega⟩, i + 1, by omega, by omega, ?_⟩
      refine Sub.of (fun n hn => hF2 n (by have : n.l = L + 1 := hn; omega)) (by simp only [go_sem, subT, and_self, Int.natCast_succ]) ?_ (by simp [subK, keys]) (by simp only []; split <;> omega)
      simp only [hme]
      simp [subH, Tx.look]
    · have f1 : decide ((R.length : Int) < (R.length : Int)) = false := dF (by omega)
      have ei : i = R.length := by omega
      subst ei
      simp only [f1, if_true, Nat.reduceAdd, go_sem, Nat.reduceAdd, Nat.reduceLT, Nat.reduceLeDiff, reduceCtorEq]
      refine CallVC.same (piecesD_ok o i0 f hf a b ho hi0 ha1 ha2 hb1 hb2 ws hws hwl ks) ?_
      have hdl := piecesW_len i0 f b ws
      obtain ⟨ds, hds⟩ : ∃ x, x = piecesW i0 f b ws := ⟨_, rfl⟩
      rw [← hds] at hdl ⊢
      obtain ⟨RR, hRR⟩ : ∃ x, x = rawS R R.length := ⟨_, rfl⟩
      rw [← hRR] at hSl ⊢
      simp only [List.length_map, Nat.reduceAdd, go_sem, Nat.reduceAdd]
      refine loopK.intro _ _ (I := fun z : DlX => ⟨[some (.sl ⟨L + 1, 320⟩ 0 R.length), some (.fs 1 (lm.map eI)), none, some (.fs 1 (marks.map oU)), none, none, none, none, none, some (.ptr ⟨L + 1, 32⟩ 0 0), some (.bool false), none, some (.sl ⟨L + 1, z.q⟩ 0 z.k), none, none, none, none, none, none, none, none, none, none, none, none, none, none, none, none, none, none, none, none, none, none, none, none, none, none, none, none, none, none, none, none, none, none, none, none, none, none, none, none, none, none, none, none, none, none, none, none, none, none, none, none, none, none, none, some (.fs 8 (ds.map Dat.row)), some (.int .i64 ds.length), some (.int .i64 z.k), none, none, none, none, none, none, none, none, none, none, none, none, none, none, none, none, none, none, none, none, none, none, none, none, none, none, none, none, none, none, none, none, none, none, none, none, none, none, none, none, none, none, none, none, none, none, none, none, none, none, none, none, none, none, none, none, none, none, none, none, none, none, none, none, none, none, none, none, none, none, none, none, none, none, none, none, none, none, none, none, none, none, none, none, none, none, none, none, none, none, none, none, none, none, none, none, none, none, none, none, none, none, none, none, none, none, none, none, none, none, none],
        [(⟨L + 1, 32⟩, .rows 82 16 true true [few.map e8]), (⟨L + 1, 320⟩, .rows 85 14 true true (RR.map Fl.row)), (⟨L + 1, z.q⟩, .rows 85 14 true true ((drS ds marks z.k).map Fl.row))], if z.k = ds.length then 10000000 else 10000 * (z.i + 1)⟩)
        (pre := fun z => z.k ≤ ds.length ∧ z.i ≤ z.k + 200 ∧ 1000 ≤ z.q ∧ z.q < 10000 * (z.i + 1)) (μ := fun z => ds.length - z.k) ⟨0, 200, 1000160⟩ ⟨by simp, by simp, by simp, by simp⟩ ?_ ?_
      · refine Sub.trans (Sub.nilName 12 85 (wd := 14) (by omega) rfl) ?_
        have e9 : drS ds marks 0 = [] := rfl
        refine Sub.of (fun n hn => hF2 n (by have : n.l = L + 1 := hn; omega)) (by simp only [go_sem, subT, and_self, Int.natCast_zero]) ?_ (by simp [subK, keys, updH, setH]) (by simp only []; split <;> omega)
        simp [subH, Tx.look, updH, setH, e9]
      · clear f1 hi hlt
        rintro ⟨k, i, q⟩ ⟨c1, c2, c3, c4⟩
        simp only at c1 c2 c3 c4 ⊢
        have q_0 : (q = 0) = False := by apply eq_false; omega
        have n0_q : (0 = q) = False := by apply eq_false; omega
        have q_32 : (q = 32) = False := by apply eq_false; omega
        have n32_q : (32 = q) = False := by apply eq_false; omega
        have q_320 : (q = 320) = False := by apply eq_false; omega
        have n320_q : (320 = q) = False := by apply eq_false; omega
        have q_10000032 : (q = 10000032) = False := by apply eq_false; omega
        have n10000032_q : (10000032 = q) = False := by apply eq_false; omega
        have q_n1 : ∀ kk, (10000 * (i + 1) + kk = q) = False := fun kk => by apply eq_false; omega
        have q_n2 : ∀ kk, (q = 10000 * (i + 1) + kk) = False := fun kk => by apply eq_false; omega
        have q_n3 : (10000 * (i + 1) = q) = False := by apply eq_false; omega
        have q_n4 : (q = 10000 * (i + 1)) = False := by apply eq_false; omega
        have q_n5 : ∀ kk, ((⟨L + 1, q⟩ : Nm) == ⟨L + 1, 10000 * (i + 1) + kk⟩) = false := fun kk => by simp; omega
        by_cases hlt : k < ds.length
        · have f1 : decide ((k : Int) < (ds.length : Int)) = true := dT (by omega)
          have hne : ¬ k = ds.length := by omega
          have r0 : (ds.map Dat.row).getD k [] = (ds.getD k datZ).row := by simp [hlt, List.getD_eq_getElem?_getD]
          have hsu := drS_succ ds marks k
          have hdl2 := drS_len ds marks k
          obtain ⟨d, hd⟩ : ∃ x, x = ds.getD k datZ := ⟨_, rfl⟩
          rw [← hd] at r0 hsu
          by_cases hkm : k < marks.length
          · have f2 : decide ((k : Int) < (marks.length : Int)) = true := dT (by omega)
            obtain ⟨m, hm⟩ : ∃ x, x = marks[k] := ⟨_, rfl⟩
            have r1 : (marks.map oU).getD k [] = [.int .u8 m] := by rw [hm]; simp [hkm, List.getD_eq_getElem?_getD, oU]
            have hmb := hmk m (by rw [hm]; exact List.getElem_mem hkm)
            rw [List.getElem?_eq_getElem hkm, ← hm] at hsu
            simp only [f1, f2, hne, if_false, r0, r1, Dat.row, List.length_map, q_32, q_320, q_n1, q_n2, q_n5, Nat.reduceBEq, nB, nS2, Nat.add_assoc, Nat.reduceAdd, go_sem, Nat.reduceAdd, Nat.reduceMul, Nat.reduceEqDiff, Nat.reduceLT, Nat.reduceLeDiff, Nat.reduceBEq]
            have ht5 : (m : Int).tmod 5 = ((m % 5 : Nat) : Int) := rfl
            have hme : (drS ds marks (k + 1)).map Fl.row = (drS ds marks k).map Fl.row ++ [[.int .i64 d.tsn, .int .i64 d.st, .int .i64 d.sq, .int .i64 d.pr, .bool d.fi, .bool d.la, .bool d.lo, .str d.pl, .int .i64 0, .int .i64 (1 + (m : Int).tmod 5), .int .i64 0, .bool (decide (0 < Go.Sx.ibits .and .u8 m 32)), .bool (decide (0 < Go.Sx.ibits .and .u8 m 64)), .bool (decide (0 < Go.Sx.ibits .and .u8 m 128))]] := by
              rw [hsu, List.map_append]; rfl
            repeat refine And.intro (by first | omega | exact ⟨by omega, by omega⟩ | exact ⟨by omega, by omega, by omega⟩ | exact ⟨⟨by omega, by omega⟩, by omega, by omega⟩ | exact okS (by kernel_rfl)) ?_
            refine ⟨okDyn_num (fun y => y.i % 10000) (by simp only [numF, List.map, Nat.mul_add_mod, Nat.reduceMod]; kernel_rfl), ⟨by omega, by omega, by omega⟩, ⟨by omega, by omega⟩, ⟨k + 1, i + 1, 10000 * (i + 1) + 1632⟩, ⟨by simp only []; omega, by simp only []; omega, by simp only []; omega, by simp only []; omega⟩, by simp only []; omega, ?_⟩
            refine Sub.of (fun n hn => hF2 n (by have : n.l = L + 1 := hn; omega)) (by simp only [go_sem, subT, and_self, Int.natCast_succ]) ?_ (by simp [subK, keys]) (by simp only []; split <;> omega)
            simp only [hme]
            simp [subH, Tx.look, q_n1]
          · have f2 : decide ((k : Int) < (marks.length : Int)) = false := dF (by omega)
            rw [List.getElem?_eq_none (by omega)] at hsu
            simp only [f1, f2, hne, if_false, r0, Dat.row, List.length_map, q_32, q_320, q_n1, q_n2, q_n5, Nat.reduceBEq, nB, nS2, Nat.add_assoc, Nat.reduceAdd, go_sem, Nat.reduceAdd, Nat.reduceMul, Nat.reduceEqDiff, Nat.reduceLT, Nat.reduceLeDiff, Nat.reduceBEq]
            repeat refine And.intro (by first | omega | exact ⟨by omega, by omega⟩ | exact ⟨by omega, by omega, by omega⟩ | exact ⟨⟨by omega, by omega⟩, by omega, by omega⟩ | exact okS (by kernel_rfl)) ?_
            have hme : (drS ds marks (k + 1)).map Fl.row = (drS ds marks k).map Fl.row ++ [[.int .i64 d.tsn, .int .i64 d.st, .int .i64 d.sq, .int .i64 d.pr, .bool d.fi, .bool d.la, .bool d.lo, .str d.pl, .int .i64 0, .int .i64 1, .int .i64 0, .bool false, .bool false, .bool false]] := by
              rw [hsu, List.map_append]; rfl
            refine ⟨⟨k + 1, i + 1, 10000 * (i + 1) + 576⟩, ⟨by simp only []; omega, by simp only []; omega, by simp only []; omega, by simp only []; omega⟩, by simp only []; omega, ?_⟩
            refine Sub.of (fun n hn => hF2 n (by have : n.l = L + 1 := hn; omega)) (by simp only [go_sem, subT, and_self, Int.natCast_succ]) ?_ (by simp [subK, keys]) (by simp only []; split <;> omega)
            simp only [hme]
            simp [subH, Tx.look, q_n1]
        · have f1 : decide ((ds.length : Int) < (ds.length : Int)) = false := dF (by omega)
          have ek : k = ds.length := by omega
          subst ek
          obtain ⟨m, hm⟩ : ∃ x, x = ds.length := ⟨_, rfl⟩
          rw [← hm] at f1 hdl c1 c2 ⊢
          have hDl := drS_len ds marks m
          obtain ⟨D, hD⟩ : ∃ x, x = drS ds marks m := ⟨_, rfl⟩
          rw [← hD] at hDl ⊢
          simp only [f1, if_true, n32_q, n10000032_q, Nat.reduceBEq, Nat.reduceAdd, go_sem, Nat.reduceAdd, Nat.reduceEqDiff, Nat.reduceLT, Nat.reduceLeDiff, Nat.reduceBEq, Int.reduceToNat]
          repeat refine And.intro (by first | omega | exact ⟨by omega, by omega⟩ | exact ⟨by omega, by omega, by omega⟩ | exact ⟨⟨by omega, by omega⟩, by omega, by omega⟩ | exact okS (by kernel_rfl)) ?_
          refine loopK.intro _ _ (I := fun z : Nat => ⟨[some (.sl ⟨L + 1, 320⟩ 0 R.length), some (.fs 1 (lm.map eI)), none, some (.fs 1 (marks.map oU)), none, none, none, none, none, none, some (.bool false), none, some (.sl ⟨L + 1, q⟩ 0 m), none, none, none, some (.sl ⟨L + 1, 10000032⟩ 0 16), none, none, none, none, none, none, none, none, none, none, none, none, none, none, none, none, none, none, none, none, none, none, none, none, none, none, none, none, none, none, none, none, none, none, none, none, none, none, none, none, none, none, none, none, none, none, none, none, none, none, none, none, none, none, none, none, none, none, none, none, none, none, none, none, none, none, none, none, none, none, none, none, none, none, none, none, none, none, none, none, none, none, none, none, none, none, none, none, none, none, none, none, none, none, none, none, none, none, none, some (.agg (few.map e8)), some (.int .i64 z), none, none, none, none, none, none, none, none, none, none, none, none, none, none, none, none, none, none, none, none, none, none, none, none, none, none, none, none, none, none, none, none, none, none, none, none, none, none, none, none, none, none, none, none, none, none, none, none, none, none, none, none, none, none, none, none, none, none, none, none, none, none, none, none],
            [(⟨L + 1, 320⟩, .rows 85 14 true true (RR.map Fl.row)), (⟨L + 1, q⟩, .rows 85 14 true true (D.map Fl.row)), (⟨L + 1, 10000032⟩, .rows 3 1 true true ((smP few z).map eI))], if z = 16 then 1000000000 else 10000 * (z + 10000 + 1)⟩)
            (pre := fun z => z ≤ 16) (μ := fun z => 16 - z) 0 (by omega) ?_ ?_
          · have e9 : (smP few 0).map eI = List.replicate 16 [.int .i64 0] := rfl
            refine Sub.of (fun n hn => hF2 n (by have : n.l = L + 1 := hn; omega)) (by simp only [go_sem, subT, and_self, Int.natCast_zero]) ?_ (by simp [subK, keys]) (by simp only []; split <;> omega)
            simp only [e9]
            simp [subH, Tx.look, q_32, q_320, n10000032_q]
          · rintro z hz
            obtain ⟨i2, hi2⟩ : ∃ x, x = z + 10000 := ⟨_, rfl⟩
            rw [← hi2]
            by_cases hlt2 : z < 16
            · have f2 : decide ((z : Int) < 16) = true := dT (by omega)
              have hne : ¬ z = 16 := by omega
              have hsl := smP_len few z
              obtain ⟨x, hx⟩ : ∃ x, x = few.getD z 0 := ⟨_, rfl⟩
              have r0 : (few.map e8).getD z (.tup []) = .int .i8 x := by rw [hx]; simp [hfew, hlt2, List.getD_eq_getElem?_getD, e8]
              have hxb : -128 ≤ x ∧ x < 128 := hfw x (by rw [hx, List.getD_eq_getElem?_getD, List.getElem?_eq_getElem (by omega)]; simp)
              have hsu := smP_succ few hlt2
              rw [← hx] at hsu
              obtain ⟨t, ht⟩ : ∃ t, t = x.tmod 5 := ⟨_, rfl⟩
              have rg := getD_eI (smP few z) (i := z) (by omega)
              have r1 : (((smP few z).map eI).set z [.int .i64 t]).getD z [] = [.int .i64 t] := by simp [List.getD_eq_getElem?_getD, hsl, hlt2]
              cases hlt3 : decide (t < -1) with
              | true =>
                simp only [f2, hne, if_false, r0, r1, rg, eI, ← ht, hlt3, List.length_map, List.length_set, hfew, hsl, n10000032_q, Nat.add_assoc, Nat.reduceAdd, go_sem, Nat.reduceAdd, Nat.reduceEqDiff, Nat.reduceLT, Nat.reduceLeDiff]
                repeat refine And.intro (by first | omega | exact ⟨by omega, by omega⟩ | exact ⟨by omega, by omega, by omega⟩ | exact ⟨⟨by omega, by omega⟩, by omega, by omega⟩ | exact okS (by kernel_rfl)) ?_
                have hme : (smP few (z + 1)).map eI = (((smP few z).map eI).set z [.int .i64 t]).set z [.int .i64 (-1)] := by
                  rw [hsu, List.map_set, List.set_set]
                  simp [smF, ← ht, of_decide_eq_true hlt3, eI]
                refine ⟨z + 1, by omega, by omega, ?_⟩
                refine Sub.of (fun n hn => hF2 n (by have : n.l = L + 1 := hn; omega)) (by simp only [go_sem, subT, and_self, Int.natCast_succ]) ?_ (by simp [subK, keys]) (by simp only []; split <;> omega)
                simp only [hme]
                simp [subH, Tx.look, q_320, n10000032_q]
              | false =>
                simp only [f2, hne, if_false, r0, r1, rg, eI, ← ht, hlt3, List.length_map, List.length_set, hfew, hsl, n10000032_q, Nat.add_assoc, Nat.reduceAdd, go_sem, Nat.reduceAdd, Nat.reduceEqDiff, Nat.reduceLT, Nat.reduceLeDiff]
                repeat refine And.intro (by first | omega | exact ⟨by omega, by omega⟩ | exact ⟨by omega, by omega, by omega⟩ | exact ⟨⟨by omega, by omega⟩, by omega, by omega⟩ | exact okS (by kernel_rfl)) ?_
                have hme : (smP few (z + 1)).map eI = ((smP few z).map eI).set z [.int .i64 t] := by
                  rw [hsu, List.map_set]
                  simp [smF, ← ht, of_decide_eq_false hlt3, eI]
                refine ⟨z + 1, by omega, by omega, ?_⟩
                refine Sub.of (fun n hn => hF2 n (by have : n.l = L + 1 := hn; omega)) (by simp only [go_sem, subT, and_self, Int.natCast_succ]) ?_ (by simp [subK, keys]) (by simp only []; split <;> omega)
                simp only [hme]
                simp [subH, Tx.look, q_320, n10000032_q]
            · have f2 : decide (((16 : Nat) : Int) < 16) = false := rfl
              have ez : z = 16 := by omega
              rw [hi2]
              clear hi2 i2
              subst ez
              obtain ⟨SM, hSM⟩ : ∃ x, x = smP few 16 := ⟨_, rfl⟩
              have hSMl := smP_len few 16
              rw [← hSM] at hSMl ⊢
              simp only [f2, if_true, List.length_map, q_320, q_10000032, Nat.add_assoc, Nat.reduceAdd, Nat.add_zero, go_sem, Nat.reduceSub, Nat.reduceAdd, Nat.reduceMul, Nat.reduceLT, Nat.reduceLeDiff]
              repeat refine And.intro (by first | omega | exact ⟨by omega, by omega⟩ | exact ⟨by omega, by omega, by omega⟩ | exact ⟨⟨by omega, by omega⟩, by omega, by omega⟩ | exact okS (by kernel_rfl)) ?_
              obtain ⟨m3, hm3⟩ : ∃ x, x = (min (m : Int) 30).toNat - 0 := ⟨_, rfl⟩
              have hm3b : m3 ≤ m := by omega
              refine ⟨⟨by omega, by omega, by omega, .inl trivial⟩, ?_⟩
              rw [← hm3]
              have hq8 : q < 10000000 := by omega
              have hq9 : q < 10000 * (200000 + 1) := by omega
              refine loopK.intro _ _ (I := fun z : DlX => ⟨[none, some (.fs 1 (lm.map eI)), none, some (.fs 1 (marks.map oU)), none, none, none, none, none, none, none, none, none, none, none, none, some (.sl ⟨L + 1, 10000032⟩ 0 16), none, none, none, none, none, none, none, none, none, none, none, none, none, none, none, none, none, none, none, none, none, none, none, none, none, none, none, none, none, none, none, none, none, none, none, none, none, none, none, none, none, none, none, none, none, none, none, none, none, none, none, none, none, none, none, none, none, none, none, none, none, none, none, none, none, none, none, none, none, none, none, none, none, none, none, none, none, none, none, none, none, none, none, none, none, none, none, none, none, none, none, none, none, none, none, none, none, none, none, none, none, none, none, none, none, none, none, none, none, none, none, none, none, none, none, none, none, none, none, none, none, none, none, none, none, none, some (.agg [.sl ⟨L + 1, 320⟩ 0 R.length, .sl ⟨L + 1, q⟩ 0 m, .sl ⟨L + 1, q⟩ 0 m3]), some (.int .i64 z.k), none, none, none, none, none, none, none, none, none, none, none, none, none, none, none, none, none, none, none, none, none, none, none, none, none, none, none, none, none, none, none, none, none, none, none, none, none],
                [(⟨L + 1, 320⟩, .rows 85 14 false true (RR.map Fl.row)), (⟨L + 1, q⟩, .rows 85 14 false true (D.map Fl.row)), (⟨L + 1, 10000032⟩, .rows 3 1 false true (SM.map eI))], 10000 * (z.i + 1)⟩)
                (pre := fun z => z.k ≤ 3 ∧ 200000 ≤ z.i) (μ := fun z => 3 - z.k) ⟨0, 200000, 0⟩ ⟨by simp, by simp⟩ ?_ ?_
              · refine Sub.trans (Sub.letGo [⟨L + 1, 320⟩, ⟨L + 1, q⟩, ⟨L + 1, 10000032⟩]) ?_
                refine Sub.of (fun n hn => hF2 n (by have : n.l = L + 1 := hn; omega)) (by simp only [go_sem, subT, and_self, Int.natCast_zero]) ?_ ?_ (by simp)
                · simp [subH, Tx.look, unown, updH, setH, q_320, n10000032_q]
                · simp [subK, keys, Tx.look, unown, updH, setH, q_320, n320_q, q_10000032, n10000032_q]
              · clear q_n1 q_n2 q_n3 q_n4 q_n5
                clear i c2 c4
                rintro ⟨k4, i, q'⟩ ⟨d1, d2⟩
                simp only at d1 d2 ⊢
                have q_0 : (q = 0) = False := by apply eq_false; omega
                have n0_q : (0 = q) = False := by apply eq_false; omega
                have q_32 : (q = 32) = False := by apply eq_false; omega
                have n32_q : (32 = q) = False := by apply eq_false; omega
                have q_320 : (q = 320) = False := by apply eq_false; omega
                have n320_q : (320 = q) = False := by apply eq_false; omega
                have q_10000032 : (q = 10000032) = False := by apply eq_false; omega
                have n10000032_q : (10000032 = q) = False := by apply eq_false; omega
                have q_n1 : ∀ kk, (10000 * (i + 1) + kk = q) = False := fun kk => by apply eq_false; omega
                have q_n2 : ∀ kk, (q = 10000 * (i + 1) + kk) = False := fun kk => by apply eq_false; omega
                have q_n3 : (10000 * (i + 1) = q) = False := by apply eq_false; omega
                have q_n4 : (q = 10000 * (i + 1)) = False := by apply eq_false; omega
                have q_n5 : ∀ kk, ((⟨L + 1, q⟩ : Nm) == ⟨L + 1, 10000 * (i + 1) + kk⟩) = false := fun kk => by simp; omega
                by_cases hk4 : k4 < 3
                · have f3 : decide ((k4 : Int) < 3) = true := dT (by omega)
                  rcases (show k4 = 0 ∨ k4 = 1 ∨ k4 = 2 by omega) with rfl | rfl | rfl
                  · simp only [f3, List.length_map, n10000032_q, Nat.add_assoc, Nat.reduceAdd, Nat.add_zero, go_sem, Nat.reduceSub, Nat.reduceAdd, Nat.reduceMul, Nat.reduceEqDiff, Nat.reduceLT, Nat.reduceLeDiff]
                    repeat refine And.intro (by first | omega | exact ⟨by omega, by omega⟩ | exact ⟨by omega, by omega, by omega⟩ | exact ⟨⟨by omega, by omega⟩, by omega, by omega⟩ | exact okS (by kernel_rfl)) ?_
                    have t16 : (marks.length : Int).tmod 16 = ((marks.length % 16 : Nat) : Int) := rfl
                    rw [t16]
                    obtain ⟨sm, hsm⟩ : ∃ x, x = ((1 : Int) + ((marks.length % 16 : Nat) : Int)).toNat - 0 := ⟨_, rfl⟩
                    have hsm16 : sm ≤ 16 := by omega
                    obtain ⟨SM2, hSM2⟩ : ∃ x, x = SM.take sm := ⟨_, rfl⟩
                    have hSM2l : SM2.length ≤ 16 := by rw [hSM2]; simp; omega
                    have hSMw : List.take 16 (SM.map eI) = SM.map eI := List.take_of_length_le (by simp; omega)
                    have hSMw2 : List.take sm (SM.map eI) = SM2.map eI := by rw [hSM2, List.map_take]
                    have hFl : R.length ≤ RR.length := by omega
                    have hFw : List.take R.length (RR.map Fl.row) = RR.map Fl.row := List.take_of_length_le (by simp; omega)
                    refine ⟨⟨by omega, by omega⟩, ⟨by omega, by omega, by omega, .inl trivial⟩, ?_⟩
                    rw [← hsm]
                    refine loopK.intro _ _ (I := fun z : DlX => ⟨[none, some (.fs 1 (lm.map eI)), none, some (.fs 1 (marks.map oU)), none, none, none, none, none, none, none, none, none, none, none, none, some (.sl ⟨L + 1, 10000032⟩ 0 16), none, none, none, some (.sl ⟨L + 1, 320⟩ 0 R.length), none, none, none, none, none, none, none, none, none, none, none, none, none, none, none, none, none, none, none, none, none, none, none, none, none, none, none, none, none, none, none, none, none, none, none, none, none, none, none, none, none, none, none, none, none, none, none, none, none, none, none, none, none, none, none, none, none, none, none, none, none, none, none, none, none, none, none, none, none, none, none, none, none, none, none, none, none, none, none, none, none, none, none, none, none, none, none, none, none, none, none, none, none, none, none, none, none, none, none, none, none, none, none, none, none, none, none, none, none, none, none, none, none, none, none, none, none, none, none, none, none, none, some (.agg [.sl ⟨L + 1, 320⟩ 0 R.length, .sl ⟨L + 1, q⟩ 0 m, .sl ⟨L + 1, q⟩ 0 m3]), some (.int .i64 ((0 : Nat) : Int)), none, none, none, none, none, none, none, none, none, none, some (.agg [.fs 1 (lm.map eI), .sl ⟨L + 1, 10000032⟩ 0 16, .sl ⟨L + 1, 10000032⟩ 0 sm]), some (.int .i64 z.k), none, none, none, none, none, none, none, none, none, none, none, none, none, none, none, none, none, none, none, none, none, none, none, none, none],
                      [(⟨L + 1, 320⟩, .rows 85 14 false true (RR.map Fl.row)), (⟨L + 1, q⟩, .rows 85 14 false true (D.map Fl.row)), (⟨L + 1, 10000032⟩, .rows 3 1 false true (SM.map eI))], 10000 * (z.i + 1)⟩)
                      (pre := fun z => z.k ≤ 3 ∧ 200000 ≤ z.i) (μ := fun z => 3 - z.k) ⟨0, i + 1, 0⟩ ⟨by simp, by simp only []; omega⟩ ?_ ?_
                    · refine Sub.of (fun n hn => hF2 n (by have : n.l = L + 1 := hn; omega)) (by simp only [go_sem, subT, and_self, Int.natCast_zero]) ?_ (by simp [subK, keys]) (by simp only []; omega)
                      simp [subH, Tx.look, q_320, n10000032_q]
                    · clear q_n1 q_n2 q_n3 q_n4 q_n5 q_0 q_32 q_320 q_10000032 n0_q n32_q n320_q n10000032_q
                      clear d2 i
                      rintro ⟨k5, i, q'⟩ ⟨d1, d2⟩
                      simp only at d1 d2 ⊢
                      have q_0 : (q = 0) = False := by apply eq_false; omega
                      have n0_q : (0 = q) = False := by apply eq_false; omega
                      have q_32 : (q = 32) = False := by apply eq_false; omega
                      have n32_q : (32 = q) = False := by apply eq_false; omega
                      have q_320 : (q = 320) = False := by apply eq_false; omega
                      have n320_q : (320 = q) = False := by apply eq_false; omega
                      have q_10000032 : (q = 10000032) = False := by apply eq_false; omega
                      have n10000032_q : (10000032 = q) = False := by apply eq_false; omega
                      have q_n1 : ∀ kk, (10000 * (i + 1) + kk = q) = False := fun kk => by apply eq_false; omega
                      have q_n2 : ∀ kk, (q = 10000 * (i + 1) + kk) = False := fun kk => by apply eq_false; omega
                      have q_n3 : (10000 * (i + 1) = q) = False := by apply eq_false; omega
                      have q_n4 : (q = 10000 * (i + 1)) = False := by apply eq_false; omega
                      have q_n5 : ∀ kk, ((⟨L + 1, q⟩ : Nm) == ⟨L + 1, 10000 * (i + 1) + kk⟩) = false := fun kk => by simp; omega
                      by_cases hk5 : k5 < 3
                      · have f4 : decide ((k5 : Int) < 3) = true := dT (by omega)
                        rcases (show k5 = 0 ∨ k5 = 1 ∨ k5 = 2 by omega) with rfl | rfl | rfl
                        · have fne : ((dropsR RR lm).2 != (dropsR RR lm).2) = false := neF rfl
                          have hdr := dropsR_len RR lm
                          have hdA := fun F L nx => dropsAll_ok (F := F) (L := L) (nx := nx) RR lm (by omega) (by omega)
                          have hdB := fun F L nx => refDrops_ok (F := F) (L := L) (nx := nx) RR lm (by omega) (by omega)
                          have hin := fun F L nx => ints_ok (F := F) (L := L) (nx := nx) (dropsR RR lm).1 (dropsR RR lm).1 (by omega) (by omega)
                          rw [beq_self_eq_true] at hin
                          simp only [f3, Nat.add_assoc, Nat.reduceAdd, go_sem, Nat.reduceSub, Nat.reduceAdd, Nat.reduceLT]
                          repeat refine And.intro (by first | omega | exact ⟨by omega, by omega⟩ | exact ⟨by omega, by omega, by omega⟩ | exact ⟨⟨by omega, by omega⟩, by omega, by omega⟩ | exact okS (by kernel_rfl)) ?_
                          refine CallVC.gen (by simp [Wk, WkL, hFw, hFl, -List.map_take]) (hdA _ _ _) ?_
                          simp only [wkNL, wkN, unown, n320_q, Nat.add_assoc, Nat.reduceAdd, go_sem, Nat.reduceAdd, Nat.reduceEqDiff, Nat.reduceLT]
                          refine CallVC.gen (by simp [Wk, WkL, hFw, hFl, -List.map_take]) (hdB _ _ _) ?_
                          simp only [wkNL, wkN, unown, fne, n320_q, Nat.add_assoc, Nat.reduceAdd, go_sem, Nat.reduceAdd, Nat.reduceEqDiff, Nat.reduceLT]
                          refine CallVC.same (hin _ _ _) ?_
                          simp only [Nat.add_assoc, Nat.reduceAdd, go_sem, Nat.reduceAdd, Nat.reduceLT]
                          repeat refine And.intro (by first | omega | exact ⟨by omega, by omega⟩ | exact ⟨by omega, by omega, by omega⟩ | exact ⟨⟨by omega, by omega⟩, by omega, by omega⟩ | exact okS (by kernel_rfl)) ?_
                          refine ⟨⟨0 + 1, i + 1, 0⟩, ⟨by simp, by simp only []; omega⟩, by simp, ?_⟩
                          refine Sub.of (fun n hn => hF2 n (by have : n.l = L + 1 := hn; omega)) (by simp only [go_sem, subT, and_self, Int.natCast_succ]) ?_ (by simp [subK, keys]) (by simp only []; omega)
                          simp [subH, Tx.look, q_320, n10000032_q]
                        · have fne : ((dropsR RR SM).2 != (dropsR RR SM).2) = false := neF rfl
                          have hdr := dropsR_len RR SM
                          have hdA := fun F L nx => dropsAll_ok (F := F) (L := L) (nx := nx) RR SM (by omega) (by omega)
                          have hdB := fun F L nx => refDrops_ok (F := F) (L := L) (nx := nx) RR SM (by omega) (by omega)
                          have hin := fun F L nx => ints_ok (F := F) (L := L) (nx := nx) (dropsR RR SM).1 (dropsR RR SM).1 (by omega) (by omega)
                          rw [beq_self_eq_true] at hin
                          simp only [f4, Nat.add_assoc, Nat.reduceAdd, go_sem, Nat.reduceSub, Nat.reduceAdd, Nat.reduceMul, Nat.reduceLT]
                          repeat refine And.intro (by first | omega | exact ⟨by omega, by omega⟩ | exact ⟨by omega, by omega, by omega⟩ | exact ⟨⟨by omega, by omega⟩, by omega, by omega⟩ | exact okS (by kernel_rfl)) ?_
                          refine CallVC.gen (by simp [Wk, WkL, hFw, hSMw, hFl, hSMl, n10000032_q, -List.map_take]) (hdA _ _ _) ?_
                          simp only [wkNL, wkN, unown, n320_q, n10000032_q, Nat.add_assoc, Nat.reduceAdd, go_sem, Nat.reduceAdd, Nat.reduceEqDiff, Nat.reduceLT]
                          refine CallVC.gen (by simp [Wk, WkL, hFw, hSMw, hFl, hSMl, n10000032_q, -List.map_take]) (hdB _ _ _) ?_
                          simp only [wkNL, wkN, unown, fne, n320_q, n10000032_q, Nat.add_assoc, Nat.reduceAdd, go_sem, Nat.reduceAdd, Nat.reduceEqDiff, Nat.reduceLT]
                          refine CallVC.same (hin _ _ _) ?_
                          simp only [Nat.add_assoc, Nat.reduceAdd, go_sem, Nat.reduceAdd, Nat.reduceLT]
                          repeat refine And.intro (by first | omega | exact ⟨by omega, by omega⟩ | exact ⟨by omega, by omega, by omega⟩ | exact ⟨⟨by omega, by omega⟩, by omega, by omega⟩ | exact okS (by kernel_rfl)) ?_
                          refine ⟨⟨1 + 1, i + 1, 0⟩, ⟨by simp, by simp only []; omega⟩, by simp, ?_⟩
                          refine Sub.of (fun n hn => hF2 n (by have : n.l = L + 1 := hn; omega)) (by simp only [go_sem, subT, and_self, Nat.reduceAdd, Int.natCast_succ]) ?_ (by simp [subK, keys]) (by simp only []; omega)
                          simp [subH, Tx.look, q_320, n10000032_q]
                        · have fne : ((dropsR RR SM2).2 != (dropsR RR SM2).2) = false := neF rfl
                          have hdr := dropsR_len RR SM2
                          have hdA := fun F L nx => dropsAll_ok (F := F) (L := L) (nx := nx) RR SM2 (by omega) (by omega)
                          have hdB := fun F L nx => refDrops_ok (F := F) (L := L) (nx := nx) RR SM2 (by omega) (by omega)
                          have hin := fun F L nx => ints_ok (F := F) (L := L) (nx := nx) (dropsR RR SM2).1 (dropsR RR SM2).1 (by omega) (by omega)
                          rw [beq_self_eq_true] at hin
                          simp only [f4, Nat.add_assoc, Nat.reduceAdd, go_sem, Nat.reduceSub, Nat.reduceAdd, Nat.reduceMul, Nat.reduceLT]
                          repeat refine And.intro (by first | omega | exact ⟨by omega, by omega⟩ | exact ⟨by omega, by omega, by omega⟩ | exact ⟨⟨by omega, by omega⟩, by omega, by omega⟩ | exact okS (by kernel_rfl)) ?_
                          refine CallVC.gen (by simp [Wk, WkL, hFw, hSMw2, hFl, hSMl, hsm16, n10000032_q, -List.map_take]) (hdA _ _ _) ?_
                          simp only [wkNL, wkN, unown, n320_q, n10000032_q, Nat.add_assoc, Nat.reduceAdd, go_sem, Nat.reduceAdd, Nat.reduceEqDiff, Nat.reduceLT]
                          refine CallVC.gen (by simp [Wk, WkL, hFw, hSMw2, hFl, hSMl, hsm16, n10000032_q, -List.map_take]) (hdB _ _ _) ?_
                          simp only [wkNL, wkN, unown, fne, n320_q, n10000032_q, Nat.add_assoc, Nat.reduceAdd, go_sem, Nat.reduceAdd, Nat.reduceEqDiff, Nat.reduceLT]
                          refine CallVC.same (hin _ _ _) ?_
                          simp only [Nat.add_assoc, Nat.reduceAdd, go_sem, Nat.reduceAdd, Nat.reduceLT]
                          repeat refine And.intro (by first | omega | exact ⟨by omega, by omega⟩ | exact ⟨by omega, by omega, by omega⟩ | exact ⟨⟨by omega, by omega⟩, by omega, by omega⟩ | exact okS (by kernel_rfl)) ?_
                          refine ⟨⟨2 + 1, i + 1, 0⟩, ⟨by simp, by simp only []; omega⟩, by simp, ?_⟩
                          refine Sub.of (fun n hn => hF2 n (by have : n.l = L + 1 := hn; omega)) (by simp only [go_sem, subT, and_self, Nat.reduceAdd, Int.natCast_succ]) ?_ (by simp [subK, keys]) (by simp only []; omega)
                          simp [subH, Tx.look, q_320, n10000032_q]
                      · have f4 : decide ((k5 : Int) < 3) = false := dF (by omega)
                        simp only [f4, Nat.add_assoc, Nat.reduceAdd, go_sem, Nat.reduceAdd, Nat.reduceEqDiff, Nat.reduceLT]
                        repeat refine And.intro (by first | omega | exact ⟨by omega, by omega⟩ | exact ⟨by omega, by omega, by omega⟩ | exact ⟨⟨by omega, by omega⟩, by omega, by omega⟩ | exact okS (by kernel_rfl)) ?_
                        refine ⟨⟨0 + 1, i + 1, 0⟩, ⟨by simp, by simp only []; omega⟩, by simp, ?_⟩
                        refine Sub.of (fun n hn => hF2 n (by have : n.l = L + 1 := hn; omega)) (by simp only [go_sem, subT, and_self, Int.natCast_succ]) ?_ (by simp [subK, keys]) (by simp only []; omega)
                        simp [subH, Tx.look, q_320, n10000032_q]
                  · simp only [f3, List.length_map, n10000032_q, Nat.add_assoc, Nat.reduceAdd, Nat.add_zero, go_sem, Nat.reduceSub, Nat.reduceAdd, Nat.reduceMul, Nat.reduceEqDiff, Nat.reduceLT, Nat.reduceLeDiff]
                    repeat refine And.intro (by first | omega | exact ⟨by omega, by omega⟩ | exact ⟨by omega, by omega, by omega⟩ | exact ⟨⟨by omega, by omega⟩, by omega, by omega⟩ | exact okS (by kernel_rfl)) ?_
                    have t16 : (marks.length : Int).tmod 16 = ((marks.length % 16 : Nat) : Int) := rfl
                    rw [t16]
                    obtain ⟨sm, hsm⟩ : ∃ x, x = ((1 : Int) + ((marks.length % 16 : Nat) : Int)).toNat - 0 := ⟨_, rfl⟩
                    have hsm16 : sm ≤ 16 := by omega
                    obtain ⟨SM2, hSM2⟩ : ∃ x, x = SM.take sm := ⟨_, rfl⟩
                    have hSM2l : SM2.length ≤ 16 := by rw [hSM2]; simp; omega
                    have hSMw : List.take 16 (SM.map eI) = SM.map eI := List.take_of_length_le (by simp; omega)
                    have hSMw2 : List.take sm (SM.map eI) = SM2.map eI := by rw [hSM2, List.map_take]
                    have hFl : m ≤ D.length := by omega
                    have hFw : List.take m (D.map Fl.row) = D.map Fl.row := List.take_of_length_le (by simp; omega)
                    refine ⟨⟨by omega, by omega⟩, ⟨by omega, by omega, by omega, .inl trivial⟩, ?_⟩
                    rw [← hsm]
                    refine loopK.intro _ _ (I := fun z : DlX => ⟨[none, some (.fs 1 (lm.map eI)), none, some (.fs 1 (marks.map oU)), none, none, none, none, none, none, none, none, none, none, none, none, some (.sl ⟨L + 1, 10000032⟩ 0 16), none, none, none, some (.sl ⟨L + 1, q⟩ 0 m), none, none, none, none, none, none, none, none, none, none, none, none, none, none, none, none, none, none, none, none, none, none, none, none, none, none, none, none, none, none, none, none, none, none, none, none, none, none, none, none, none, none, none, none, none, none, none, none, none, none, none, none, none, none, none, none, none, none, none, none, none, none, none, none, none, none, none, none, none, none, none, none, none, none, none, none, none, none, none, none, none, none, none, none, none, none, none, none, none, none, none, none, none, none, none, none, none, none, none, none, none, none, none, none, none, none, none, none, none, none, none, none, none, none, none, none, none, none, none, none, none, none, some (.agg [.sl ⟨L + 1, 320⟩ 0 R.length, .sl ⟨L + 1, q⟩ 0 m, .sl ⟨L + 1, q⟩ 0 m3]), some (.int .i64 ((1 : Nat) : Int)), none, none, none, none, none, none, none, none, none, none, some (.agg [.fs 1 (lm.map eI), .sl ⟨L + 1, 10000032⟩ 0 16, .sl ⟨L + 1, 10000032⟩ 0 sm]), some (.int .i64 z.k), none, none, none, none, none, none, none, none, none, none, none, none, none, none, none, none, none, none, none, none, none, none, none, none, none],
                      [(⟨L + 1, 320⟩, .rows 85 14 false true (RR.map Fl.row)), (⟨L + 1, q⟩, .rows 85 14 false true (D.map Fl.row)), (⟨L + 1, 10000032⟩, .rows 3 1 false true (SM.map eI))], 10000 * (z.i + 1)⟩)
                      (pre := fun z => z.k ≤ 3 ∧ 200000 ≤ z.i) (μ := fun z => 3 - z.k) ⟨0, i + 1, 0⟩ ⟨by simp, by simp only []; omega⟩ ?_ ?_
                    · refine Sub.of (fun n hn => hF2 n (by have : n.l = L + 1 := hn; omega)) (by simp only [go_sem, subT, and_self, Int.natCast_zero]) ?_ (by simp [subK, keys]) (by simp only []; omega)
                      simp [subH, Tx.look, q_320, n10000032_q]
                    · clear q_n1 q_n2 q_n3 q_n4 q_n5 q_0 q_32 q_320 q_10000032 n0_q n32_q n320_q n10000032_q
                      clear d2 i
                      rintro ⟨k5, i, q'⟩ ⟨d1, d2⟩
                      simp only at d1 d2 ⊢
                      have q_0 : (q = 0) = False := by apply eq_false; omega
                      have n0_q : (0 = q) = False := by apply eq_false; omega
                      have q_32 : (q = 32) = False := by apply eq_false; omega
                      have n32_q : (32 = q) = False := by apply eq_false; omega
                      have q_320 : (q = 320) = False := by apply eq_false; omega
                      have n320_q : (320 = q) = False := by apply eq_false; omega
                      have q_10000032 : (q = 10000032) = False := by apply eq_false; omega
                      have n10000032_q : (10000032 = q) = False := by apply eq_false; omega
                      have q_n1 : ∀ kk, (10000 * (i + 1) + kk = q) = False := fun kk => by apply eq_false; omega
                      have q_n2 : ∀ kk, (q = 10000 * (i + 1) + kk) = False := fun kk => by apply eq_false; omega
                      have q_n3 : (10000 * (i + 1) = q) = False := by apply eq_false; omega
                      have q_n4 : (q = 10000 * (i + 1)) = False := by apply eq_false; omega
                      have q_n5 : ∀ kk, ((⟨L + 1, q⟩ : Nm) == ⟨L + 1, 10000 * (i + 1) + kk⟩) = false := fun kk => by simp; omega
                      by_cases hk5 : k5 < 3
                      · have f4 : decide ((k5 : Int) < 3) = true := dT (by omega)
                        rcases (show k5 = 0 ∨ k5 = 1 ∨ k5 = 2 by omega) with rfl | rfl | rfl
                        · have fne : ((dropsR D lm).2 != (dropsR D lm).2) = false := neF rfl
                          have hdr := dropsR_len D lm
                          have hdA := fun F L nx => dropsAll_ok (F := F) (L := L) (nx := nx) D lm (by omega) (by omega)
                          have hdB := fun F L nx => refDrops_ok (F := F) (L := L) (nx := nx) D lm (by omega) (by omega)
                          have hin := fun F L nx => ints_ok (F := F) (L := L) (nx := nx) (dropsR D lm).1 (dropsR D lm).1 (by omega) (by omega)
                          rw [beq_self_eq_true] at hin
                          simp only [f4, Nat.add_assoc, Nat.reduceAdd, go_sem, Nat.reduceSub, Nat.reduceAdd, Nat.reduceLT]
                          repeat refine And.intro (by first | omega | exact ⟨by omega, by omega⟩ | exact ⟨by omega, by omega, by omega⟩ | exact ⟨⟨by omega, by omega⟩, by omega, by omega⟩ | exact okS (by kernel_rfl)) ?_
                          refine CallVC.gen (by simp [Wk, WkL, hFw, hFl, q_320, -List.map_take]) (hdA _ _ _) ?_
                          simp only [wkNL, wkN, unown, q_320, q_10000032, Nat.add_assoc, Nat.reduceAdd, go_sem, Nat.reduceAdd, Nat.reduceLT]
                          refine CallVC.gen (by simp [Wk, WkL, hFw, hFl, q_320, -List.map_take]) (hdB _ _ _) ?_
                          simp only [wkNL, wkN, unown, fne, q_320, q_10000032, Nat.add_assoc, Nat.reduceAdd, go_sem, Nat.reduceAdd, Nat.reduceLT]
                          refine CallVC.same (hin _ _ _) ?_
                          simp only [Nat.add_assoc, Nat.reduceAdd, go_sem, Nat.reduceAdd, Nat.reduceLT]
                          repeat refine And.intro (by first | omega | exact ⟨by omega, by omega⟩ | exact ⟨by omega, by omega, by omega⟩ | exact ⟨⟨by omega, by omega⟩, by omega, by omega⟩ | exact okS (by kernel_rfl)) ?_
                          refine ⟨⟨0 + 1, i + 1, 0⟩, ⟨by simp, by simp only []; omega⟩, by simp, ?_⟩
                          refine Sub.of (fun n hn => hF2 n (by have : n.l = L + 1 := hn; omega)) (by simp only [go_sem, subT, and_self, Int.natCast_succ]) ?_ (by simp [subK, keys]) (by simp only []; omega)
                          simp [subH, Tx.look, q_320, n10000032_q]
                        · have fne : ((dropsR D SM).2 != (dropsR D SM).2) = false := neF rfl
                          have hdr := dropsR_len D SM
                          have hdA := fun F L nx => dropsAll_ok (F := F) (L := L) (nx := nx) D SM (by omega) (by omega)
                          have hdB := fun F L nx => refDrops_ok (F := F) (L := L) (nx := nx) D SM (by omega) (by omega)
                          have hin := fun F L nx => ints_ok (F := F) (L := L) (nx := nx) (dropsR D SM).1 (dropsR D SM).1 (by omega) (by omega)
                          rw [beq_self_eq_true] at hin
                          simp only [f3, Nat.add_assoc, Nat.reduceAdd, go_sem, Nat.reduceSub, Nat.reduceAdd, Nat.reduceMul, Nat.reduceLT]
                          repeat refine And.intro (by first | omega | exact ⟨by omega, by omega⟩ | exact ⟨by omega, by omega, by omega⟩ | exact ⟨⟨by omega, by omega⟩, by omega, by omega⟩ | exact okS (by kernel_rfl)) ?_
                          refine CallVC.gen (by simp [Wk, WkL, hFw, hSMw, hFl, hSMl, q_320, n10000032_q, -List.map_take]) (hdA _ _ _) ?_
                          simp only [wkNL, wkN, unown, q_320, q_10000032, n10000032_q, Nat.add_assoc, Nat.reduceAdd, go_sem, Nat.reduceAdd, Nat.reduceEqDiff, Nat.reduceLT]
                          refine CallVC.gen (by simp [Wk, WkL, hFw, hSMw, hFl, hSMl, q_320, n10000032_q, -List.map_take]) (hdB _ _ _) ?_
                          simp only [wkNL, wkN, unown, fne, q_320, q_10000032, n10000032_q, Nat.add_assoc, Nat.reduceAdd, go_sem, Nat.reduceAdd, Nat.reduceEqDiff, Nat.reduceLT]
                          refine CallVC.same (hin _ _ _) ?_
                          simp only [Nat.add_assoc, Nat.reduceAdd, go_sem, Nat.reduceAdd, Nat.reduceLT]
                          repeat refine And.intro (by first | omega | exact ⟨by omega, by omega⟩ | exact ⟨by omega, by omega, by omega⟩ | exact ⟨⟨by omega, by omega⟩, by omega, by omega⟩ | exact okS (by kernel_rfl)) ?_
                          refine ⟨⟨1 + 1, i + 1, 0⟩, ⟨by simp, by simp only []; omega⟩, by simp, ?_⟩
                          refine Sub.of (fun n hn => hF2 n (by have : n.l = L + 1 := hn; omega)) (by simp only [go_sem, subT, and_self, Nat.reduceAdd, Int.natCast_succ]) ?_ (by simp [subK, keys]) (by simp only []; omega)
                          simp [subH, Tx.look, q_320, n10000032_q]
                        · have fne : ((dropsR D SM2).2 != (dropsR D SM2).2) = false := neF rfl
                          have hdr := dropsR_len D SM2
                          have hdA := fun F L nx => dropsAll_ok (F := F) (L := L) (nx := nx) D SM2 (by omega) (by omega)
                          have hdB := fun F L nx => refDrops_ok (F := F) (L := L) (nx := nx) D SM2 (by omega) (by omega)
                          have hin := fun F L nx => ints_ok (F := F) (L := L) (nx := nx) (dropsR D SM2).1 (dropsR D SM2).1 (by omega) (by omega)
                          rw [beq_self_eq_true] at hin
                          simp only [f4, Nat.add_assoc, Nat.reduceAdd, go_sem, Nat.reduceSub, Nat.reduceAdd, Nat.reduceMul, Nat.reduceLT]
                          repeat refine And.intro (by first | omega | exact ⟨by omega, by omega⟩ | exact ⟨by omega, by omega, by omega⟩ | exact ⟨⟨by omega, by omega⟩, by omega, by omega⟩ | exact okS (by kernel_rfl)) ?_
                          refine CallVC.gen (by simp [Wk, WkL, hFw, hSMw2, hFl, hSMl, hsm16, q_320, n10000032_q, -List.map_take]) (hdA _ _ _) ?_
                          simp only [wkNL, wkN, unown, q_320, q_10000032, n10000032_q, Nat.add_assoc, Nat.reduceAdd, go_sem, Nat.reduceAdd, Nat.reduceEqDiff, Nat.reduceLT]
                          refine CallVC.gen (by simp [Wk, WkL, hFw, hSMw2, hFl, hSMl, hsm16, q_320, n10000032_q, -List.map_take]) (hdB _ _ _) ?_
                          simp only [wkNL, wkN, unown, fne, q_320, q_10000032, n10000032_q, Nat.add_assoc, Nat.reduceAdd, go_sem, Nat.reduceAdd, Nat.reduceEqDiff, Nat.reduceLT]
                          refine CallVC.same (hin _ _ _) ?_
                          simp only [Nat.add_assoc, Nat.reduceAdd, go_sem, Nat.reduceAdd, Nat.reduceLT]
                          repeat refine And.intro (by first | omega | exact ⟨by omega, by omega⟩ | exact ⟨by omega, by omega, by omega⟩ | exact ⟨⟨by omega, by omega⟩, by omega, by omega⟩ | exact okS (by kernel_rfl)) ?_
                          refine ⟨⟨2 + 1, i + 1, 0⟩, ⟨by simp, by simp only []; omega⟩, by simp, ?_⟩
                          refine Sub.of (fun n hn => hF2 n (by have : n.l = L + 1 := hn; omega)) (by simp only [go_sem, subT, and_self, Nat.reduceAdd, Int.natCast_succ]) ?_ (by simp [subK, keys]) (by simp only []; omega)
                          simp [subH, Tx.look, q_320, n10000032_q]
                      · have f4 : decide ((k5 : Int) < 3) = false := dF (by omega)
                        simp only [f4, Nat.add_assoc, Nat.reduceAdd, go_sem, Nat.reduceAdd, Nat.reduceEqDiff, Nat.reduceLT]
                        repeat refine And.intro (by first | omega | exact ⟨by omega, by omega⟩ | exact ⟨by omega, by omega, by omega⟩ | exact ⟨⟨by omega, by omega⟩, by omega, by omega⟩ | exact okS (by kernel_rfl)) ?_
                        refine ⟨⟨1 + 1, i + 1, 0⟩, ⟨by simp, by simp only []; omega⟩, by simp, ?_⟩
                        refine Sub.of (fun n hn => hF2 n (by have : n.l = L + 1 := hn; omega)) (by simp only [go_sem, subT, and_self, Nat.reduceAdd, Int.natCast_succ]) ?_ (by simp [subK, keys]) (by simp only []; omega)
                        simp [subH, Tx.look, q_320, n10000032_q]
                  · simp only [f3, List.length_map, n10000032_q, Nat.add_assoc, Nat.reduceAdd, Nat.add_zero, go_sem, Nat.reduceSub, Nat.reduceAdd, Nat.reduceMul, Nat.reduceEqDiff, Nat.reduceLT, Nat.reduceLeDiff]
                    repeat refine And.intro (by first | omega | exact ⟨by omega, by omega⟩ | exact ⟨by omega, by omega, by omega⟩ | exact ⟨⟨by omega, by omega⟩, by omega, by omega⟩ | exact okS (by kernel_rfl)) ?_
                    have t16 : (marks.length : Int).tmod 16 = ((marks.length % 16 : Nat) : Int) := rfl
                    rw [t16]
                    obtain ⟨sm, hsm⟩ : ∃ x, x = ((1 : Int) + ((marks.length % 16 : Nat) : Int)).toNat - 0 := ⟨_, rfl⟩
                    have hsm16 : sm ≤ 16 := by omega
                    obtain ⟨SM2, hSM2⟩ : ∃ x, x = SM.take sm := ⟨_, rfl⟩
                    have hSM2l : SM2.length ≤ 16 := by rw [hSM2]; simp; omega
                    have hSMw : List.take 16 (SM.map eI) = SM.map eI := List.take_of_length_le (by simp; omega)
                    have hSMw2 : List.take sm (SM.map eI) = SM2.map eI := by rw [hSM2, List.map_take]
                    obtain ⟨D3, hD3⟩ : ∃ x, x = D.take m3 := ⟨_, rfl⟩
                    have hD3l : D3.length ≤ 96 := by rw [hD3]; simp; omega
                    have hFl : m3 ≤ D.length := by omega
                    have hFw : List.take m3 (D.map Fl.row) = D3.map Fl.row := by rw [hD3, List.map_take]
                    refine ⟨⟨by omega, by omega⟩, ⟨by omega, by omega, by omega, .inl trivial⟩, ?_⟩
                    rw [← hsm]
                    refine loopK.intro _ _ (I := fun z : DlX => ⟨[none, some (.fs 1 (lm.map eI)), none, some (.fs 1 (marks.map oU)), none, none, none, none, none, none, none, none, none, none, none, none, some (.sl ⟨L + 1, 10000032⟩ 0 16), none, none, none, some (.sl ⟨L + 1, q⟩ 0 m3), none, none, none, none, none, none, none, none, none, none, none, none, none, none, none, none, none, none, none, none, none, none, none, none, none, none, none, none, none, none, none, none, none, none, none, none, none, none, none, none, none, none, none, none, none, none, none, none, none, none, none, none, none, none, none, none, none, none, none, none, none, none, none, none, none, none, none, none, none, none, none, none, none, none, none, none, none, none, none, none, none, none, none, none, none, none, none, none, none, none, none, none, none, none, none, none, none, none, none, none, none, none, none, none, none, none, none, none, none, none, none, none, none, none, none, none, none, none, none, none, none, none, some (.agg [.sl ⟨L + 1, 320⟩ 0 R.length, .sl ⟨L + 1, q⟩ 0 m, .sl ⟨L + 1, q⟩ 0 m3]), some (.int .i64 ((2 : Nat) : Int)), none, none, none, none, none, none, none, none, none, none, some (.agg [.fs 1 (lm.map eI), .sl ⟨L + 1, 10000032⟩ 0 16, .sl ⟨L + 1, 10000032⟩ 0 sm]), some (.int .i64 z.k), none, none, none, none, none, none, none, none, none, none, none, none, none, none, none, none, none, none, none, none, none, none, none, none, none],
                      [(⟨L + 1, 320⟩, .rows 85 14 false true (RR.map Fl.row)), (⟨L + 1, q⟩, .rows 85 14 false true (D.map Fl.row)), (⟨L + 1, 10000032⟩, .rows 3 1 false true (SM.map eI))], 10000 * (z.i + 1)⟩)
                      (pre := fun z => z.k ≤ 3 ∧ 200000 ≤ z.i) (μ := fun z => 3 - z.k) ⟨0, i + 1, 0⟩ ⟨by simp, by simp only []; omega⟩ ?_ ?_
                    · refine Sub.of (fun n hn => hF2 n (by have : n.l = L + 1 := hn; omega)) (by simp only [go_sem, subT, and_self, Int.natCast_zero]) ?_ (by simp [subK, keys]) (by simp only []; omega)
                      simp [subH, Tx.look, q_320, n10000032_q]
                    · clear q_n1 q_n2 q_n3 q_n4 q_n5 q_0 q_32 q_320 q_10000032 n0_q n32_q n320_q n10000032_q
                      clear d2 i
                      rintro ⟨k5, i, q'⟩ ⟨d1, d2⟩
                      simp only at d1 d2 ⊢
                      have q_0 : (q = 0) = False := by apply eq_false; omega
                      have n0_q : (0 = q) = False := by apply eq_false; omega
                      have q_32 : (q = 32) = False := by apply eq_false; omega
                      have n32_q : (32 = q) = False := by apply eq_false; omega
                      have q_320 : (q = 320) = False := by apply eq_false; omega
                      have n320_q : (320 = q) = False := by apply eq_false; omega
                      have q_10000032 : (q = 10000032) = False := by apply eq_false; omega
                      have n10000032_q : (10000032 = q) = False := by apply eq_false; omega
                      have q_n1 : ∀ kk, (10000 * (i + 1) + kk = q) = False := fun kk => by apply eq_false; omega
                      have q_n2 : ∀ kk, (q = 10000 * (i + 1) + kk) = False := fun kk => by apply eq_false; omega
                      have q_n3 : (10000 * (i + 1) = q) = False := by apply eq_false; omega
                      have q_n4 : (q = 10000 * (i + 1)) = False := by apply eq_false; omega
                      have q_n5 : ∀ kk, ((⟨L + 1, q⟩ : Nm) == ⟨L + 1, 10000 * (i + 1) + kk⟩) = false := fun kk => by simp; omega
                      by_cases hk5 : k5 < 3
                      · have f4 : decide ((k5 : Int) < 3) = true := dT (by omega)
                        rcases (show k5 = 0 ∨ k5 = 1 ∨ k5 = 2 by omega) with rfl | rfl | rfl
                        · have fne : ((dropsR D3 lm).2 != (dropsR D3 lm).2) = false := neF rfl
                          have hdr := dropsR_len D3 lm
                          have hdA := fun F L nx => dropsAll_ok (F := F) (L := L) (nx := nx) D3 lm (by omega) (by omega)
                          have hdB := fun F L nx => refDrops_ok (F := F) (L := L) (nx := nx) D3 lm (by omega) (by omega)
                          have hin := fun F L nx => ints_ok (F := F) (L := L) (nx := nx) (dropsR D3 lm).1 (dropsR D3 lm).1 (by omega) (by omega)
                          rw [beq_self_eq_true] at hin
                          simp only [f4, Nat.add_assoc, Nat.reduceAdd, go_sem, Nat.reduceSub, Nat.reduceAdd, Nat.reduceLT]
                          repeat refine And.intro (by first | omega | exact ⟨by omega, by omega⟩ | exact ⟨by omega, by omega, by omega⟩ | exact ⟨⟨by omega, by omega⟩, by omega, by omega⟩ | exact okS (by kernel_rfl)) ?_
                          refine CallVC.gen (by simp [Wk, WkL, hFw, hFl, q_320, -List.map_take]) (hdA _ _ _) ?_
                          simp only [wkNL, wkN, unown, q_320, q_10000032, Nat.add_assoc, Nat.reduceAdd, go_sem, Nat.reduceAdd, Nat.reduceLT]
                          refine CallVC.gen (by simp [Wk, WkL, hFw, hFl, q_320, -List.map_take]) (hdB _ _ _) ?_
                          simp only [wkNL, wkN, unown, fne, q_320, q_10000032, Nat.add_assoc, Nat.reduceAdd, go_sem, Nat.reduceAdd, Nat.reduceLT]
                          refine CallVC.same (hin _ _ _) ?_
                          simp only [Nat.add_assoc, Nat.reduceAdd, go_sem, Nat.reduceAdd, Nat.reduceLT]
                          repeat refine And.intro (by first | omega | exact ⟨by omega, by omega⟩ | exact ⟨by omega, by omega, by omega⟩ | exact ⟨⟨by omega, by omega⟩, by omega, by omega⟩ | exact okS (by kernel_rfl)) ?_
                          refine ⟨⟨0 + 1, i + 1, 0⟩, ⟨by simp, by simp only []; omega⟩, by simp, ?_⟩
                          refine Sub.of (fun n hn => hF2 n (by have : n.l = L + 1 := hn; omega)) (by simp only [go_sem, subT, and_self, Int.natCast_succ]) ?_ (by simp [subK, keys]) (by simp only []; omega)
                          simp [subH, Tx.look, q_320, n10000032_q]
                        · have fne : ((dropsR D3 SM).2 != (dropsR D3 SM).2) = false := neF rfl
                          have hdr := dropsR_len D3 SM
                          have hdA := fun F L nx => dropsAll_ok (F := F) (L := L) (nx := nx) D3 SM (by omega) (by omega)
                          have hdB := fun F L nx => refDrops_ok (F := F) (L := L) (nx := nx) D3 SM (by omega) (by omega)
                          have hin := fun F L nx => ints_ok (F := F) (L := L) (nx := nx) (dropsR D3 SM).1 (dropsR D3 SM).1 (by omega) (by omega)
                          rw [beq_self_eq_true] at hin
                          simp only [f4, Nat.add_assoc, Nat.reduceAdd, go_sem, Nat.reduceSub, Nat.reduceAdd, Nat.reduceMul, Nat.reduceLT]
                          repeat refine And.intro (by first | omega | exact ⟨by omega, by omega⟩ | exact ⟨by omega, by omega, by omega⟩ | exact ⟨⟨by omega, by omega⟩, by omega, by omega⟩ | exact okS (by kernel_rfl)) ?_
                          refine CallVC.gen (by simp [Wk, WkL, hFw, hSMw, hFl, hSMl, q_320, n10000032_q, -List.map_take]) (hdA _ _ _) ?_
                          simp only [wkNL, wkN, unown, q_320, q_10000032, n10000032_q, Nat.add_assoc, Nat.reduceAdd, go_sem, Nat.reduceAdd, Nat.reduceEqDiff, Nat.reduceLT]
                          refine CallVC.gen (by simp [Wk, WkL, hFw, hSMw, hFl, hSMl, q_320, n10000032_q, -List.map_take]) (hdB _ _ _) ?_
                          simp only [wkNL, wkN, unown, fne, q_320, q_10000032, n10000032_q, Nat.add_assoc, Nat.reduceAdd, go_sem, Nat.reduceAdd, Nat.reduceEqDiff, Nat.reduceLT]
                          refine CallVC.same (hin _ _ _) ?_
                          simp only [Nat.add_assoc, Nat.reduceAdd, go_sem, Nat.reduceAdd, Nat.reduceLT]
                          repeat refine And.intro (by first | omega | exact ⟨by omega, by omega⟩ | exact ⟨by omega, by omega, by omega⟩ | exact ⟨⟨by omega, by omega⟩, by omega, by omega⟩ | exact okS (by kernel_rfl)) ?_
                          refine ⟨⟨1 + 1, i + 1, 0⟩, ⟨by simp, by simp only []; omega⟩, by simp, ?_⟩
                          refine Sub.of (fun n hn => hF2 n (by have : n.l = L + 1 := hn; omega)) (by simp only [go_sem, subT, and_self, Nat.reduceAdd, Int.natCast_succ]) ?_ (by simp [subK, keys]) (by simp only []; omega)
                          simp [subH, Tx.look, q_320, n10000032_q]
                        · have fne : ((dropsR D3 SM2).2 != (dropsR D3 SM2).2) = false := neF rfl
                          have hdr := dropsR_len D3 SM2
                          have hdA := fun F L nx => dropsAll_ok (F := F) (L := L) (nx := nx) D3 SM2 (by omega) (by omega)
                          have hdB := fun F L nx => refDrops_ok (F := F) (L := L) (nx := nx) D3 SM2 (by omega) (by omega)
                          have hin := fun F L nx => ints_ok (F := F) (L := L) (nx := nx) (dropsR D3 SM2).1 (dropsR D3 SM2).1 (by omega) (by omega)
                          rw [beq_self_eq_true] at hin
                          simp only [f3, Nat.add_assoc, Nat.reduceAdd, go_sem, Nat.reduceSub, Nat.reduceAdd, Nat.reduceMul, Nat.reduceLT]
                          repeat refine And.intro (by first | omega | exact ⟨by omega, by omega⟩ | exact ⟨by omega, by omega, by omega⟩ | exact ⟨⟨by omega, by omega⟩, by omega, by omega⟩ | exact okS (by kernel_rfl)) ?_
                          refine CallVC.gen (by simp [Wk, WkL, hFw, hSMw2, hFl, hSMl, hsm16, q_320, n10000032_q, -List.map_take]) (hdA _ _ _) ?_
                          simp only [wkNL, wkN, unown, q_320, q_10000032, n10000032_q, Nat.add_assoc, Nat.reduceAdd, go_sem, Nat.reduceAdd, Nat.reduceEqDiff, Nat.reduceLT]
                          refine CallVC.gen (by simp [Wk, WkL, hFw, hSMw2, hFl, hSMl, hsm16, q_320, n10000032_q, -List.map_take]) (hdB _ _ _) ?_
                          simp only [wkNL, wkN, unown, fne, q_320, q_10000032, n10000032_q, Nat.add_assoc, Nat.reduceAdd, go_sem, Nat.reduceAdd, Nat.reduceEqDiff, Nat.reduceLT]
                          refine CallVC.same (hin _ _ _) ?_
                          simp only [Nat.add_assoc, Nat.reduceAdd, go_sem, Nat.reduceAdd, Nat.reduceLT]
                          repeat refine And.intro (by first | omega | exact ⟨by omega, by omega⟩ | exact ⟨by omega, by omega, by omega⟩ | exact ⟨⟨by omega, by omega⟩, by omega, by omega⟩ | exact okS (by kernel_rfl)) ?_
                          refine ⟨⟨2 + 1, i + 1, 0⟩, ⟨by simp, by simp only []; omega⟩, by simp, ?_⟩
                          refine Sub.of (fun n hn => hF2 n (by have : n.l = L + 1 := hn; omega)) (by simp only [go_sem, subT, and_self, Nat.reduceAdd, Int.natCast_succ]) ?_ (by simp [subK, keys]) (by simp only []; omega)
                          simp [subH, Tx.look, q_320, n10000032_q]
                      · have f4 : decide ((k5 : Int) < 3) = false := dF (by omega)
                        simp only [f4, Nat.add_assoc, Nat.reduceAdd, go_sem, Nat.reduceAdd, Nat.reduceEqDiff, Nat.reduceLT]
                        repeat refine And.intro (by first | omega | exact ⟨by omega, by omega⟩ | exact ⟨by omega, by omega, by omega⟩ | exact ⟨⟨by omega, by omega⟩, by omega, by omega⟩ | exact okS (by kernel_rfl)) ?_
                        refine ⟨⟨2 + 1, i + 1, 0⟩, ⟨by simp, by simp only []; omega⟩, by simp, ?_⟩
                        refine Sub.of (fun n hn => hF2 n (by have : n.l = L + 1 := hn; omega)) (by simp only [go_sem, subT, and_self, Nat.reduceAdd, Int.natCast_succ]) ?_ (by simp [subK, keys]) (by simp only []; omega)
                        simp [subH, Tx.look, q_320, n10000032_q]
                · have f3 : decide ((k4 : Int) < 3) = false := dF (by omega)
                  simp only [f3, Nat.add_assoc, Nat.reduceAdd, go_sem, Nat.reduceAdd, Nat.reduceLT]
                  exact .bool (.inr rfl) rfl rfl (by simp [UpdAll])
end Go.Proofs.Ytfhhbkehlfipgaa
end
