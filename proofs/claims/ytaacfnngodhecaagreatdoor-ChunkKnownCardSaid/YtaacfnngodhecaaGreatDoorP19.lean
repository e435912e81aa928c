/- Lemmas for the walk: WK70, WK71. -/
import Derived.Test.YtaacfnngodhecaaGreatDoorP18
import Derived.Test.YtaacfnngodhecaaGreatDoorShelfP
set_option linter.all false
section
namespace Go.Proofs.YtaacfnngodhecaaGreatDoor
open Go.Tx
set_option maxRecDepth 100000
set_option maxHeartbeats 16000000
theorem fnRep : Tryz.prog.funcs[52]? = some Tryz.f52 := by kernel_rfl
theorem repeat_ok {F : SF} {L nx : Nat} (s : List UInt8) (c : Nat) (hc : c ≤ 1000000) (hl : s.length * c ≤ 140737488355328) : Con Tryz.prog 52 [.str s, .int .i64 c] F L nx nx (.str (Lib.repeatL s c)) [] [] := by
 refine ⟨Nat.le_refl _, fun F2 hF2 E w args' hR _ _ hv => ?_⟩
 simp only [VRl, VR] at hv
 obtain ⟨_, _, rfl, rfl, _, _, rfl, rfl, rfl⟩ := hv
 have h := Tryz.strings_Repeat ⟨s.toArray⟩ c w (by omega) (by rw [strV_size]; exact hl)
 rw [callFunc_run fnRep (by rfl) (by kernel_rfl)]
 refine Calls.mono h ?_
 rintro e w' ⟨rfl, hb⟩
 refine ⟨_, rfl, E, ?_, StepR.same hR hb.os hb.tape hb.output hb.size hb.block, fun n h1 h2 => absurd h1 h2⟩
 simp only [VR]
 rfl
theorem repeat1 (a : UInt8) : ∀ c : Nat, Lib.repeatL [a] c = List.replicate c a
 | 0 => rfl
 | c + 1 => by
  have := repeat1 a c
  simp only [Lib.repeatL, List.replicate_succ] at this ⊢
  rw [this]; rfl
theorem rep_ok (a : UInt8) (c : Nat) (hc : c ≤ 1000000) : ∀ (F : SF) (L nx : Nat), Con Tryz.prog 52 [.str [a], .int .i64 c] F L nx nx (.str (List.replicate c a)) [] [] := fun F L nx => by
 have h := repeat_ok (F := F) (L := L) (nx := nx) [a] c hc (by simp; omega)
 rw [repeat1] at h
 exact h
def bodyP (c : Nat) : Pkx := ⟨0, 0, 0, [⟨255, 255, List.replicate c 98⟩]⟩
theorem body_ok {F : SF} {L nx : Nat} (c : Nat) (hc : c ≤ 100000) : Con Tryz.prog 51 [.int .i64 c] F L nx nx (.agg (bodyP c).row) [] [] := by
 have hr := rep_ok 98 c (by omega)
 obtain ⟨t, ht⟩ : ∃ t : List UInt8, t = List.replicate c 98 := ⟨_, rfl⟩
 rw [← ht] at hr
 have hb : bodyP c = ⟨0, 0, 0, [⟨255, 255, t⟩]⟩ := by rw [ht]; rfl
 rw [hb]
 refine bdy Tryz.f51 ?_
 intro F3 hF1 hF2
 simp only [Tryz.f51, cx, go_sem, meths]
 refine CallVC.same (hr _ _ _) ?_
 simp only [go_sem]
 repeat refine sd2 ?_
 exact PostF.of (p := True) (v0 := .agg [.int .i64 0, .int .i64 0, .int .i64 0, .sl ⟨L + 1, 96⟩ 0 1]) (.inr rfl) (by simp only [resVal, resVals, resVal1, one, go_sem]) trivial (by simp [Pkx.row, Ckx.row, Wk, WkL, Tx.look]) (by simp [Pkx.row, wkN, wkNL]) (by simp [Pkx.row, Tx.nf, nfl]) trivial (by simp [UpdAll, keys])
theorem good_ok {F : SF} {L nx : Nat} (c : Ckx) : Con Tryz.prog 54 [.agg c.row, .int .i64 0] F L nx nx (.bool true) [] [] := by
 have f1 : ((0 : Int) == 0) = true := rfl
 refine bdy Tryz.f54 ?_
 intro F3 hF1 hF2
 simp only [Tryz.f54, cx, f1, Ckx.row, go_sem, meths]
 exact .bool (.inr rfl) rfl rfl (by simp [UpdAll])
def GoodC (f : FuncId) (x : PV) : Prop := ∃ c : Ckx, ∀ (F : SF) (L nx : Nat), Con Tryz.prog f [x] F L nx nx (.tup [.agg c.row, .int .i64 0]) [] []
def BadC (f : FuncId) (x : PV) : Prop := ∀ (F : SF) (L nx : Nat), Con Tryz.prog f [x] F L nx nx fldP [] []
theorem kD1 {d : Dat} (h : d.ok = true) : GoodC 21 (.agg d.row) := ⟨_, (gpD d h).p⟩
theorem kD0 {d : Dat} (h : d.ok = false) : BadC 21 (.agg d.row) := fun F L nx => by
 have h1 := putData_ok (F := F) (L := L) (nx := nx) d
 rw [h, if_neg (by simp)] at h1
 exact h1
theorem kI1 {d : Ini} (h : d.ok = true) : GoodC 30 (.agg d.row) := ⟨_, (gpI d h).p⟩
theorem kI0 {d : Ini} (h : d.ok = false) : BadC 30 (.agg d.row) := fun F L nx => by
 have h1 := putInit_ok (F := F) (L := L) (nx := nx) d
 rw [h, if_neg (by simp)] at h1
 exact h1
theorem kS1 {c w : Int} {gs : List (Int × Int)} {ds : List Int} (h : sackV c w gs ds = true) : GoodC 26 (sackP c w gs ds) := ⟨_, (gpS c w gs ds h).p⟩
theorem kS0 {c w : Int} {gs : List (Int × Int)} {ds : List Int} (h : sackV c w gs ds = false) (h1 : gs.length ≤ 1000) (h2 : ds.length ≤ 1000) : BadC 26 (sackP c w gs ds) := fun F L nx => by
 have h1 := putSack_ok (F := F) (L := L) (nx := nx) c w gs ds (by omega) (by omega)
 rw [h, if_neg (by simp)] at h1
 exact h1
theorem kF1 {c : Int} {sk : List (Int × Int)} (h : fwdV c sk = true) : GoodC 34 (fwdP c sk) := ⟨_, (gpF c sk h).p⟩
theorem kF0 {c : Int} {sk : List (Int × Int)} (h : fwdV c sk = false) (h1 : sk.length ≤ 1000) : BadC 34 (fwdP c sk) := fun F L nx => by
 have h1 := putForward_ok (F := F) (L := L) (nx := nx) c sk (by omega)
 rw [h, if_neg (by simp)] at h1
 exact h1
theorem kR1 {k n la r : Int} {xs : List Int} (h : resetV k n la r xs = true) (hl : xs.length ≤ 1000) : GoodC 38 (rstP k n la r (.fs 1 (xs.map eI))) := ⟨⟨130, 0, resetB k n la r xs⟩, fun F L nx => by
 have h1 := putReset_ok (F := F) (L := L) (nx := nx) k n la r xs (by omega)
 rw [h, if_pos rfl] at h1
 exact h1⟩
theorem kR0 {k n la r : Int} {xs : List Int} (h : resetV k n la r xs = false) (hl : xs.length ≤ 1000) : BadC 38 (rstP k n la r (.fs 1 (xs.map eI))) := fun F L nx => by
 have h1 := putReset_ok (F := F) (L := L) (nx := nx) k n la r xs (by omega)
 rw [h, if_neg (by simp)] at h1
 exact h1
def bP (t : List UInt8) : Pkx := ⟨0, 0, 0, [⟨255, 255, t⟩]⟩
theorem bP_ok (t : List UInt8) : (bP t).ok = decide (t.length ≤ 1184) := by
 have e : (bP t).ok = (decide (t.length ≤ 1200) && decide (12 + (4 + (t.length + 3) / 4 * 4) ≤ 1200)) := by
  unfold bP Pkx.ok Pkx.hd
  simp [serB, szs, Ckx.sz, Ckx.ok]
 rw [e, ← Bool.decide_and]
 exact decide_eq_decide.2 (by omega)
theorem bodyE (c : Nat) (hc : c ≤ 100000) : ∃ t : List UInt8, t.length = c ∧ ∀ (F : SF) (L nx : Nat), Con Tryz.prog 51 [.int .i64 c] F L nx nx (.agg (bP t).row) [] [] :=
 ⟨List.replicate c 98, by simp, fun F L nx => body_ok c hc⟩
theorem lnAt_take {s : List UInt8} {p m : Nat} (h : p + 4 ≤ m) : lnAt (s.take m) p = lnAt s p := by
 unfold lnAt
 rw [List.drop_take, List.take_take, Nat.min_eq_left (by omega)]
theorem cut_none {t : List UInt8} (ht : t.length = 1184) : decG ((encS (bP t)).take 1196) = none := by
 have hok : (bP t).ok = true := by rw [bP_ok]; simp [ht]
 obtain ⟨hle, h16, h12⟩ := enc_len hok
 have hz : szs (bP t).cs = 1188 := by simp [bP, szs, Ckx.sz, ht]
 have hl : (encS (bP t)).length = 1200 := by omega
 obtain ⟨X, hX, he⟩ : ∃ X : List UInt8, X.length = 12 ∧ encS (bP t) = X ++ (ckB ⟨255, 255, t⟩ ++ []) := by
  have hp : 12 ≤ (pkB (bP t)).length := by rw [pkB_len]; omega
  refine ⟨(pkB (bP t)).take 8 ++ le4 (crcN (sumT (pkB (bP t)))), by rw [List.length_append, List.length_take, le4_len]; omega, ?_⟩
  unfold encS sumS
  congr 1
 have hln : lnAt (encS (bP t)) 12 = 1188 := by
  have := (ck_read (X := X) (R := []) (c := ⟨255, 255, t⟩) (by simp [Ckx.ok, serB, ht])).1
  rw [← he, hX] at this
  rw [this]; simp [ht]
 obtain ⟨u, hu⟩ : ∃ u, u = (encS (bP t)).take 1196 := ⟨_, rfl⟩
 have hul : u.length = 1196 := by rw [hu, List.length_take]; omega
 have hlu : lnAt u 12 = 1188 := by rw [hu, lnAt_take (by omega)]; exact hln
 rw [← hu]
 have key : ∀ f, ((cksF u (f + 1) 12).bind fun cs => if (pkG u cs).ok && sumS u == u then some (pkG u cs) else none) = none := by
  intro f
  have : cksF u (f + 1) 12 = none := by
   unfold cksF
   rw [if_neg (by omega), if_neg]
   unfold ckGood
   rw [hlu, hul]
   simp
  rw [this, Option.bind_none]
 exact key 1999
theorem badK {q : Pkx} (h : q.ok = false) (h1 : q.cs.length ≤ 1000) (h2 : ∀ c ∈ q.cs, c.bd.length ≤ 1000) : ∀ (F : SF) (L nx : Nat), Con Tryz.prog 15 [.agg q.row] F L nx nx (.int .i64 320) [] [] := fun F L nx => by
 have hc := pkCheck_ok (F := F) (L := L) (nx := nx) q (by omega) (fun c hc => by have := h2 c hc; omega)
 simpa only [h, if_false, Bool.false_eq_true] using hc
def qn (a c : Nat) : Nat → Nat
 | 0 => a
 | i + 1 => 10000 * (i + 100) + c
def gsK (i : Nat) : List (Int × Int) := (List.range i).map fun j : Nat => (2 + 3 * (j : Int), 3 + 3 * (j : Int))
def skK (i : Nat) : List (Int × Int) := (List.range i).map fun j : Nat => ((j : Int), 0)
def stK (i : Nat) : List Int := (List.range i).map fun j : Nat => (j : Int)
def mN (n : Nat) : Pkx := ⟨65535, 65535, 4294967295, List.replicate n ⟨0, 0, []⟩⟩
theorem mN40 : (mN 40).ok = true := by kernel_rfl
theorem mN41 : (mN 41).ok = false := by kernel_rfl
theorem mN_len : (encS (mN 40)).length = 172 := by
 rw [(enc_len mN40).1]; kernel_rfl
theorem chunkKnown_law {F : SF} {L nx : Nat} : Con Tryz.prog 9 [] F L nx nx (.bool true) [] [] := by
 obtain ⟨t1, l1, hB1⟩ := bodyE 1184 (by omega)
 obtain ⟨t2, l2, hB2⟩ := bodyE 1185 (by omega)
 obtain ⟨t3, l3, hB3⟩ := bodyE 1201 (by omega)
 have ok1 : (bP t1).ok = true := by rw [bP_ok]; simp [l1]
 have ok2 : (bP t2).ok = false := by rw [bP_ok]; simp [l2]
 have ok3 : (bP t3).ok = false := by rw [bP_ok]; simp [l3]
 have hE1 := fun F L nx => encode_ok (F := F) (L := L) (nx := nx) (bP t1) ok1
 obtain ⟨s1, hs1⟩ : ∃ s, s = encS (bP t1) := ⟨_, rfl⟩
 have ls1 : s1.length = 1200 := by
  obtain ⟨h, _⟩ := enc_len ok1
  rw [hs1, h]; simp [bP, szs, Ckx.sz, l1]
 have hr1 := fun F L nx => refuses_ok (F := F) (L := L) (nx := nx) (s1 ++ [0]) 3 (fun F L nx => decodeLong_ok _ (by rw [List.length_append, ls1]; simp))
 have hcut := cut_none l1
 rw [← hs1] at hE1 hcut
 have hr2 := fun F L nx => refuses_ok (F := F) (L := L) (nx := nx) (s1.take 1196) 5 (fun F L nx => decodeNo_ok _ (by rw [List.length_take]; omega) (by rw [List.length_take]; omega) hcut)
 have hr3 := fun F L nx => refuses_ok (F := F) (L := L) (nx := nx) [] 7 (fun F L nx => decodeShort_ok _ (by simp))
 have hE2 := fun F L nx => encode_ok (F := F) (L := L) (nx := nx) (mN 40) mN40
 have ls2 := mN_len
 obtain ⟨s2, hs2⟩ : ∃ s, s = encS (mN 40) := ⟨_, rfl⟩
 rw [← hs2] at hE2 ls2
 have hC2 := fun F L nx => pkCheck_ok (F := F) (L := L) (nx := nx) (bP t2) (by simp [bP]) (by simp [bP, l2])
 have hC3 := fun F L nx => pkCheck_ok (F := F) (L := L) (nx := nx) (bP t3) (by simp [bP]) (by simp [bP, l3])
 have hC4 := fun F L nx => pkCheck_ok (F := F) (L := L) (nx := nx) (mN 41) (by simp [mN]) (by intro c hc; rw [List.eq_of_mem_replicate hc]; simp)
 have hC5 := fun F L nx => pkCheck_ok (F := F) (L := L) (nx := nx) pkZ (by simp [pkZ]) (by simp [pkZ])
 simp only [ok2, ok3, mN41, show pkZ.ok = false by kernel_rfl, if_false, Bool.false_eq_true] at hC2 hC3 hC4 hC5
 clear hcut hs1 hs2
 have f0 : ((0 : Int) == 0) = true := rfl
 have f32 : ((320 : Int) == 320) = true := rfl
 have fl1 : (((1200 : Nat) : Int) == 1200) = true := rfl
 have fl2 : (((172 : Nat) : Int) == 172) = true := rfl
 refine bdy Tryz.f9 ?_
 intro F3 hF1 hF2
 simp only [Tryz.f9, cx, go_sem, meths]
 refine CallVC.same works32_ok ?_
 simp only [List.append_eq, go_sem]
 repeat refine sd2 ?_
 refine CallVC.same (hB1 _ _ _) ?_
 simp only [bP, Pkx.row, Ckx.row, List.map_cons, go_sem]
 refine CallVC.same (hE1 _ _ _) ?_
 simp only [go_sem]
 refine CallVC.gen (args2 := [.agg (mN 40).row]) (by simp [WkL, Wk, Pkx.row, Ckx.row, mN, List.map_nil]) (hE2 _ _ _) ?_
 simp only [f0, fl1, fl2, ls1, ls2, Pkx.row, List.map_cons, wkNL, wkN, unown, go_sem]
 refine CallVC.same (hB2 _ _ _) ?_
 simp only [bP, Pkx.row, Ckx.row, List.map_cons, go_sem]
 refine CallVC.same (hC2 _ _ _) ?_
 simp only [f32, go_sem]
 refine CallVC.gen (args2 := [.agg (mN 41).row]) (by simp [WkL, Wk, Pkx.row, Ckx.row, mN, List.map_nil]) (hC4 _ _ _) ?_
 simp only [f32, Pkx.row, List.map_cons, wkNL, wkN, unown, go_sem]
 refine CallVC.gen (args2 := [.agg pkZ.row]) (by simp [WkL, Wk, Pkx.row, pkZ, List.map_nil]) (hC5 _ _ _) ?_
 simp only [f32, ls1, Pkx.row, List.map_nil, wkNL, wkN, unown, go_sem]
 repeat refine sd2 ?_
 refine CallVC.same (hr1 _ _ _) ?_
 simp only [ls1, go_sem]
 repeat refine sd2 ?_
 refine CallVC.same (hr2 _ _ _) ?_
 simp only [go_sem]
 repeat refine sd2 ?_
 refine CallVC.same (hr3 _ _ _) ?_
 simp only [go_sem]
 repeat refine sd2 ?_
 refine CallVC.same (hB3 _ _ _) ?_
 simp only [bP, Pkx.row, Ckx.row, List.map_cons, go_sem]
 repeat refine sd2 ?_
 refine ⟨okDyn_num (fun x => x.i) (by kernel_rfl), ?_⟩
 obtain ⟨R, hR⟩ : ∃ R : List PV, R = [.int .i64 65536, .int .i64 0, .int .i64 0, .fs 3 [[.int .i64 0, .int .i64 0, .str []]], .int .i64 0, .int .i64 (-1), .int .i64 0, .fs 3 [[.int .i64 0, .int .i64 0, .str []]], .int .i64 0, .int .i64 0, .int .i64 4294967296, .fs 3 [[.int .i64 0, .int .i64 0, .str []]], .int .i64 0, .int .i64 0, .int .i64 0, .fs 3 [[.int .i64 256, .int .i64 0, .str []]], .int .i64 0, .int .i64 0, .int .i64 0, .fs 3 [[.int .i64 0, .int .i64 (-1), .str []]], .int .i64 0, .int .i64 0, .int .i64 0, .fs 3 [[.int .i64 255, .int .i64 255, .str t3]]] := ⟨_, rfl⟩
 have hqs : ∀ r, r < 6 → ∃ q : Pkx, (∀ (F : SF) (L nx : Nat), Con Tryz.prog 15 [.agg q.row] F L nx nx (.int .i64 320) [] []) ∧ List.take 4 (List.drop (r * 4) R) = [.int .i64 q.fr, .int .i64 q.tt, .int .i64 q.tg, .fs 3 (q.cs.map Ckx.row)] := by
  intro r hr
  rw [hR]
  rcases r with _ | _ | _ | _ | _ | _ | r
  ·exact ⟨⟨65536, 0, 0, [⟨0, 0, []⟩]⟩, badK (by kernel_rfl) (by simp) (by simp), rfl⟩
  ·exact ⟨⟨0, -1, 0, [⟨0, 0, []⟩]⟩, badK (by kernel_rfl) (by simp) (by simp), rfl⟩
  ·exact ⟨⟨0, 0, 4294967296, [⟨0, 0, []⟩]⟩, badK (by kernel_rfl) (by simp) (by simp), rfl⟩
  ·exact ⟨⟨0, 0, 0, [⟨256, 0, []⟩]⟩, badK (by kernel_rfl) (by simp) (by simp), rfl⟩
  ·exact ⟨⟨0, 0, 0, [⟨0, -1, []⟩]⟩, badK (by kernel_rfl) (by simp) (by simp), rfl⟩
  ·exact ⟨bP t3, hC3, rfl⟩
  ·omega
 refine loopK.intro _ _ (I := fun r : Nat => ⟨oz 8 ++ [some (.bool true), none, none, none, none, none, none, none, none, none, none, none, none, none, none, none, none, none, none, none, none, none, none, none, none, none, none, none, none, none, none, none, none, none, none, none, none, none, none, none, none, none, none, none, none, none, none, none, none, none, none, none, none, none, none, none, none, none, none, none, none, none, none, none, none, none, none, none, none, none, none, none, none, none, none, none, none, none, none, none, none, none, none, none, none, none, none, none, none, none, none, none, none, none, none, none, none, none, none, none, some (.agg R), some (.int .i64 r)] ++ oz 380, [], if r = 6 then 100000 else 10000 * (r + 1)⟩) (pre := fun r => r ≤ 6) (μ := fun r => 6 - r) 0 (by omega) ?_ ?_
 ·refine Sub.trans (Sub.frz 108 (.agg R) rfl (by rw [hR]; simp [Wk, WkL, Tx.look])) ?_
  refine Sub.of (hfz hF2) (by simp only [go_sem, subT, and_self, Int.natCast_zero]; try trivial) (by simp [subH]) ?_ ?_
  ·simp [hR, subK, keys, updH, setH, unown, wkN, wkNL, Tx.look]
  ·simp
 intro r hr
 by_cases hlt : r < 6
 ·have u0 : decide ((r : Int) < 6) = true := dT (by omega)
  have hn6 : (if r = 6 then 100000 else 10000 * (r + 1)) = 10000 * (r + 1) := if_neg (by omega)
  obtain ⟨q, hq, hqr⟩ := hqs r hlt
  simp only [Pkx.row] at hq
  rw [hn6]
  simp only [u0, hqr, Nat.add_assoc, go_sem]
  repeat refine sd2 ?_
  refine CallVC.same (hq _ _ _) ?_
  simp only [f32, Nat.add_assoc, go_sem]
  refine ⟨by unfold Sx.inI64; omega, r + 1, by omega, by omega, ?_⟩
  refine Sub.of (hfz hF2) (by simp only [go_sem, subT, and_self, Int.natCast_succ]) ?_ (by simp [subK, keys]) (by simp only []; split <;> omega)
  simp [subH]
 have u0 : decide ((r : Int) < 6) = false := dF (by omega)
 obtain rfl : r = 6 := by omega
 simp only [u0, if_true, go_sem]
 obtain ⟨T, hTl, hT⟩ : ∃ T : List UInt8, T.length = 1101 ∧ ∀ (F : SF) (L nx : Nat), Con Tryz.prog 52 [.str [116], .int .i64 1101] F L nx nx (.str T) [] [] := ⟨List.replicate 1101 116, by simp, rep_ok 116 1101 (by omega)⟩
 refine CallVC.same (hT _ _ _) ?_
 simp only [go_sem]
 refine loopK.intro _ _ (I := fun i : Nat => ⟨oz 8 ++ [some (.bool true), none, none, some (.str T), some (.sl ⟨L + 1, qn 100064 384 i⟩ 0 i), some (.sl ⟨L + 1, qn 100096 544 i⟩ 0 i), some (.sl ⟨L + 1, qn 100128 672 i⟩ 0 i), none, none, none, none, none, none, none, none, none, none, none, none, none, none, none, none, none, none, none, none, none, none, none, none, none, none, none, none, none, none, none, none, none, none, none, none, none, none, none, none, none, none, none, none, none, none, none, none, none, none, none, none, none, none, none, none, none, none, none, none, none, none, none, none, none, none, none, none, none, none, none, none, none, none, none, none, none, none, none, none, none, none, none, none, none, none, none, none, none, none, none, none, none, none, none, none, none, none, none, none, none, none, none, none, none, none, none, none, some (.int .i64 i)] ++ oz 366, [(⟨L + 1, qn 100064 384 i⟩, .rows 118 2 true true ((gsK i).map kE)), (⟨L + 1, qn 100096 544 i⟩, .rows 118 2 true true ((skK i).map kE)), (⟨L + 1, qn 100128 672 i⟩, .rows 3 1 true true ((stK i).map eI))], 10000 * (i + 100)⟩) (pre := fun i => i ≤ 31) (μ := fun i => 31 - i) 0 (by omega) ?_ ?_
 ·refine Sub.of (hfz hF2) (by simp only [go_sem, subT, and_self, qn, Int.natCast_zero]; try trivial) ?_ (by simp [subK, keys, qn]) (by simp)
  simp [subH, Tx.look, qn, gsK, skK, stK]
 intro k hk
 have b1 : qn 100064 384 k < 10000 * (k + 100) ∧ 100000 < qn 100064 384 k := by cases k <;> simp only [qn] <;> omega
 have b2 : qn 100096 544 k < 10000 * (k + 100) ∧ 100000 < qn 100096 544 k := by cases k <;> simp only [qn] <;> omega
 have b3 : qn 100128 672 k < 10000 * (k + 100) ∧ 100000 < qn 100128 672 k := by cases k <;> simp only [qn] <;> omega
 have d12 : (qn 100064 384 k = qn 100096 544 k) = False := by apply eq_false; cases k <;> simp only [qn] <;> omega
 have d13 : (qn 100064 384 k = qn 100128 672 k) = False := by apply eq_false; cases k <;> simp only [qn] <;> omega
 have d23 : (qn 100096 544 k = qn 100128 672 k) = False := by apply eq_false; cases k <;> simp only [qn] <;> omega
 obtain ⟨gl1, gl2, gl3⟩ : ((gsK k).map kE).length = k ∧ ((skK k).map kE).length = k ∧ ((stK k).map eI).length = k := by simp [gsK, skK, stK]
 by_cases hlt : k < 31
 ·have u0 : decide ((k : Int) < 31) = true := dT (by omega)
  obtain ⟨i, hj⟩ : ∃ i, i = k + 99 := ⟨_, rfl⟩
  have hij : k + 100 = i + 1 := by omega
  obtain ⟨p1, hp1⟩ : ∃ p, p = qn 100064 384 k := ⟨_, rfl⟩
  obtain ⟨p2, hp2⟩ : ∃ p, p = qn 100096 544 k := ⟨_, rfl⟩
  obtain ⟨p3, hp3⟩ : ∃ p, p = qn 100128 672 k := ⟨_, rfl⟩
  rw [← hp1, hij] at b1
  rw [← hp2, hij] at b2
  rw [← hp3, hij] at b3
  rw [← hp1, ← hp2] at d12
  rw [← hp1, ← hp3] at d13
  rw [← hp2, ← hp3] at d23
  rw [← hp1, ← hp2, ← hp3, hij]
  have d21 : (p2 = p1) = False := eq_false fun h => by simp [h] at d12
  have d31 : (p3 = p1) = False := eq_false fun h => by simp [h] at d13
  have d32 : (p3 = p2) = False := eq_false fun h => by simp [h] at d23
  obtain ⟨gs, hgs⟩ : ∃ l, l = (gsK k).map kE := ⟨_, rfl⟩
  obtain ⟨sk, hsk⟩ : ∃ l, l = (skK k).map kE := ⟨_, rfl⟩
  obtain ⟨st, hst⟩ : ∃ l, l = (stK k).map eI := ⟨_, rfl⟩
  rw [← hgs] at gl1
  rw [← hsk] at gl2
  rw [← hst] at gl3
  rw [← hgs, ← hsk, ← hst]
  clear hp1 hp2 hp3
  obtain ⟨p1_n1, p1_n2, p1_n3, p1_n4, p1_n5⟩ := nqL L (i := i) (p := p1) (by omega)
  obtain ⟨p2_n1, p2_n2, p2_n3, p2_n4, p2_n5⟩ := nqL L (i := i) (p := p2) (by omega)
  obtain ⟨p3_n1, p3_n2, p3_n3, p3_n4, p3_n5⟩ := nqL L (i := i) (p := p3) (by omega)
  simp only [u0, gl1, gl2, gl3, d12, d13, d23, d21, d31, d32, p1_n1, p1_n2, p1_n5, p2_n1, p2_n2, p2_n5, p3_n1, p3_n2, p3_n5, kS3, Nat.add_assoc, go_sem]
  repeat refine sd2 ?_
  have e1 : gs ++ [[.int .i64 (2 + 3 * (k : Int)), .int .i64 (3 + 3 * (k : Int))]] = (gsK (k + 1)).map kE := by rw [hgs]; simp [gsK, List.range_succ, kE]
  have e2 : sk ++ [[.int .i64 k, .int .i64 0]] = (skK (k + 1)).map kE := by rw [hsk]; simp [skK, List.range_succ, kE]
  have e3 : st ++ [[.int .i64 k]] = (stK (k + 1)).map eI := by rw [hst]; simp [stK, List.range_succ, eI]
  rw [e1, e2, e3]
  refine ⟨k + 1, by omega, by omega, ?_⟩
  have q1 : qn 100064 384 (k + 1) = 10000 * (i + 1) + 384 := by simp only [qn, hij]
  have q2 : qn 100096 544 (k + 1) = 10000 * (i + 1) + 544 := by simp only [qn, hij]
  have q3 : qn 100128 672 (k + 1) = 10000 * (i + 1) + 672 := by simp only [qn, hij]
  rw [q1, q2, q3]
  refine Sub.o hF2 ?_
  simp [subH, Tx.look, p1_n1, p2_n1, p3_n1]
 obtain rfl : k = 31 := by omega
 clear b1 b2 b3 d12 d13 d23
 have u0 : decide (((31 : Nat) : Int) < 31) = false := rfl
 have q1 : qn 100064 384 31 = 1300384 := rfl
 have q2 : qn 100096 544 31 = 1300544 := rfl
 have q3 : qn 100128 672 31 = 1300672 := rfl
 have q4 : 10000 * (31 + 100) = 1310000 := rfl
 rw [q1, q2, q3, q4]
 have n1 : ((gsK 31).take 30).length = 30 := rfl
 have n2 : ((skK 31).take 30).length = 30 := rfl
 have n3 : ((stK 31).take 30).length = 30 := rfl
 obtain ⟨z20, hz20⟩ : ∃ z : List Int, z = List.replicate 20 0 := ⟨_, rfl⟩
 obtain ⟨c1, G1⟩ : GoodC 26 (sackP 0 0 ((gsK 31).take 30) z20) := kS1 (by rw [hz20]; kernel_rfl)
 have G2 : BadC 26 (sackP 0 0 (gsK 31) []) := kS0 (by kernel_rfl) (by simp [gsK]) (by simp)
 obtain ⟨c2, G3⟩ : GoodC 34 (fwdP 0 ((skK 31).take 30)) := kF1 (by kernel_rfl)
 have G4 : BadC 34 (fwdP 0 (skK 31)) := kF0 (by kernel_rfl) (by simp [skK])
 obtain ⟨c3, G5⟩ : GoodC 38 (rstP 1 0 0 0 (.fs 1 (((stK 31).take 30).map eI))) := kR1 (by kernel_rfl) (by simp [stK])
 have G6 : BadC 38 (rstP 1 0 0 0 (.fs 1 ((stK 31).map eI))) := kR0 (by kernel_rfl) (by simp [stK])
 obtain ⟨G, hG⟩ : ∃ G, G = gsK 31 := ⟨_, rfl⟩
 obtain ⟨K, hK⟩ : ∃ K, K = skK 31 := ⟨_, rfl⟩
 obtain ⟨Z, hZ⟩ : ∃ Z, Z = stK 31 := ⟨_, rfl⟩
 rw [← hG] at gl1 G1 G2 n1
 rw [← hK] at gl2 G3 G4 n2
 rw [← hZ] at gl3 G5 G6 n3
 rw [← hG, ← hK, ← hZ]
 clear hG hK hZ
 simp only [u0, go_sem]
 repeat refine sd2 ?_
 have hT11 : (T.take 1100).length = 1100 := by rw [List.length_take]; omega
 obtain ⟨d1, D1⟩ := kD1 (d := ⟨0, 0, 0, 0, false, false, false, T.take 1100⟩) (by unfold Dat.ok; simp only [hT11]; kernel_rfl)
 have D2 := kD0 (d := ⟨0, 0, 0, 0, false, false, false, T⟩) (by unfold Dat.ok; simp only [hTl]; kernel_rfl)
 have D3 := kD0 (d := ⟨0, 0, 0, 0, false, false, false, []⟩) (by kernel_rfl)
 have D4 := kD0 (d := ⟨0, 0, 1, 0, false, false, true, [120]⟩) (by kernel_rfl)
 have D5 := kD0 (d := ⟨4294967296, 0, 0, 0, false, false, false, [120]⟩) (by kernel_rfl)
 have D6 := kD0 (d := ⟨0, 65536, 0, 0, false, false, false, [120]⟩) (by kernel_rfl)
 simp only [Dat.row, Ckx.row] at D1 D2 D3 D4 D5 D6
 refine CallVC.same (D1 _ _ _) ?_
 simp only [go_sem]
 refine CallVC.same (good_ok d1) ?_
 simp only [go_sem]
 refine CallVC.same (D2 _ _ _) ?_
 simp only [fldP,  Nat.reduceAdd, go_sem]
 refine CallVC.same lawFails_ok ?_
 simp only [go_sem]
 refine CallVC.same (D3 _ _ _) ?_
 simp only [fldP,  Nat.reduceAdd, go_sem]
 refine CallVC.same lawFails_ok ?_
 simp only [go_sem]
 refine CallVC.same (D4 _ _ _) ?_
 simp only [fldP,  Nat.reduceAdd, go_sem]
 refine CallVC.same lawFails_ok ?_
 simp only [go_sem]
 refine CallVC.same (D5 _ _ _) ?_
 simp only [fldP,  Nat.reduceAdd, go_sem]
 refine CallVC.same lawFails_ok ?_
 simp only [go_sem]
 refine CallVC.same (D6 _ _ _) ?_
 simp only [fldP,  Nat.reduceAdd, go_sem]
 refine CallVC.same lawFails_ok ?_
 simp only [Nat.add_zero, go_sem]
 obtain ⟨z21, hz21⟩ : ∃ z : List Int, z = List.replicate 21 0 := ⟨_, rfl⟩
 have G7 : BadC 26 (sackP 0 0 [] z21) := kS0 (by rw [hz21]; kernel_rfl) (by simp) (by rw [hz21]; simp)
 have G8 : BadC 26 (sackP 0 0 [] [4294967296]) := kS0 (by kernel_rfl) (by simp) (by simp)
 obtain ⟨c4, G9⟩ : GoodC 26 (sackP 0 0 [(2, 2), (4, 65535)] []) := kS1 (by kernel_rfl)
 have G10 : BadC 26 (sackP 0 0 [(2, 65536)] []) := kS0 (by kernel_rfl) (by simp) (by simp)
 have G11 : BadC 26 (sackP 0 0 [(3, 2)] []) := kS0 (by kernel_rfl) (by simp) (by simp)
 have G12 : BadC 26 (sackP 0 0 [(9223372036854775807, 9223372036854775807), (2, 2)] []) := kS0 (by kernel_rfl) (by simp) (by simp)
 have gt1 : List.take 31 (G.map kE) = G.map kE := List.take_of_length_le (by omega)
 have gt2 : List.take 31 (K.map kE) = K.map kE := List.take_of_length_le (by omega)
 have gt3 : List.take 31 (Z.map eI) = Z.map eI := List.take_of_length_le (by omega)
 have htg : (G.take 30).map kE = (G.map kE).take 30 := List.map_take
 have htk : (K.take 30).map kE = (K.map kE).take 30 := List.map_take
 have htz : (Z.take 30).map eI = (Z.map eI).take 30 := List.map_take
 repeat refine sd2 ?_
 refine CallVC.gen (args2 := [sackP 0 0 (G.take 30) z20]) (by simp [WkL, Wk, sackP, eI, List.map_nil, hz20, htg, gl1]) (G1 _ _ _) ?_
 simp only [sackP, Ckx.row, List.map_cons, wkNL, wkN, unown, go_sem]
 refine CallVC.same (good_ok c1) ?_
 simp only [go_sem]
 repeat refine sd2 ?_
 refine CallVC.gen (args2 := [sackP 0 0 G []]) (by simp [WkL, Wk, sackP, List.map_nil, gt1, gl1]) (G2 _ _ _) ?_
 simp only [fldP,  sackP, List.map_nil, wkNL, wkN, unown, go_sem]
 refine CallVC.same lawFails_ok ?_
 simp only [go_sem]
 repeat refine sd2 ?_
 refine CallVC.gen (args2 := [sackP 0 0 [] z21]) (by simp [WkL, Wk, sackP, eI, List.map_nil, hz21]) (G7 _ _ _) ?_
 simp only [fldP,  sackP, List.map_cons, wkNL, wkN, unown, go_sem]
 refine CallVC.same lawFails_ok ?_
 simp only [go_sem]
 repeat refine sd2 ?_
 refine CallVC.gen (args2 := [sackP 0 0 [] [4294967296]]) (by simp [WkL, Wk, sackP, eI, List.map_nil]) (G8 _ _ _) ?_
 simp only [fldP,  sackP, eI, List.map_cons, wkNL, wkN, unown, go_sem]
 refine CallVC.same lawFails_ok ?_
 simp only [go_sem]
 repeat refine sd2 ?_
 refine CallVC.gen (args2 := [sackP 0 0 [(2, 2), (4, 65535)] []]) (by simp [WkL, Wk, sackP, kE, List.map_nil]) (G9 _ _ _) ?_
 simp only [sackP, kE, Ckx.row, List.map_cons, wkNL, wkN, unown, go_sem]
 refine CallVC.same (good_ok c4) ?_
 simp only [go_sem]
 repeat refine sd2 ?_
 refine CallVC.gen (args2 := [sackP 0 0 [(2, 65536)] []]) (by simp [WkL, Wk, sackP, kE, List.map_nil]) (G10 _ _ _) ?_
 simp only [fldP,  sackP, kE, List.map_cons, wkNL, wkN, unown, go_sem]
 refine CallVC.same lawFails_ok ?_
 simp only [go_sem]
 repeat refine sd2 ?_
 refine CallVC.gen (args2 := [sackP 0 0 [(3, 2)] []]) (by simp [WkL, Wk, sackP, kE, List.map_nil]) (G11 _ _ _) ?_
 simp only [fldP,  sackP, kE, List.map_cons, wkNL, wkN, unown, go_sem]
 refine CallVC.same lawFails_ok ?_
 simp only [go_sem]
 repeat refine sd2 ?_
 refine CallVC.gen (args2 := [sackP 0 0 [(9223372036854775807, 9223372036854775807), (2, 2)] []]) (by simp [WkL, Wk, sackP, kE, List.map_nil]) (G12 _ _ _) ?_
 simp only [fldP,  sackP, kE, List.map_cons, wkNL, wkN, unown, go_sem]
 refine CallVC.same lawFails_ok ?_
 simp only [go_sem]
 refine ⟨okDyn_num (fun x => x.i) (by kernel_rfl), ?_⟩
 have hT20 : (T.take 200).length = 200 := by rw [List.length_take]; omega
 have hT21 : (T.take 201).length = 201 := by rw [List.length_take]; omega
 obtain ⟨c5, I1⟩ := kI1 (d := ⟨1, 0, 1, 1, 0, T.take 200⟩) (by unfold Ini.ok; simp only [hT20]; kernel_rfl)
 have I2 := kI0 (d := ⟨1, 0, 1, 1, 0, T.take 201⟩) (by unfold Ini.ok; simp only [hT21]; kernel_rfl)
 have I3 := kI0 (d := ⟨1, 0, 0, 1, 0, []⟩) (by kernel_rfl)
 have I4 := kI0 (d := ⟨1, 0, 1, 0, 0, []⟩) (by kernel_rfl)
 have F3' : BadC 34 (fwdP 0 [(1, 0), (1, 1)]) := kF0 (by kernel_rfl) (by simp)
 obtain ⟨c6, F4⟩ : GoodC 34 (fwdP 0 []) := kF1 (by kernel_rfl)
 repeat refine sd2 ?_
 refine CallVC.same (I1 _ _ _) ?_
 simp only [Ckx.row, go_sem]
 refine CallVC.same (good_ok c5) ?_
 simp only [go_sem]
 repeat refine sd2 ?_
 refine CallVC.same (I2 _ _ _) ?_
 simp only [fldP,  Nat.reduceAdd, go_sem]
 refine CallVC.same lawFails_ok ?_
 simp only [go_sem]
 repeat refine sd2 ?_
 refine CallVC.same (I3 _ _ _) ?_
 simp only [fldP,  Nat.reduceAdd, go_sem]
 refine CallVC.same lawFails_ok ?_
 simp only [go_sem]
 repeat refine sd2 ?_
 refine CallVC.same (I4 _ _ _) ?_
 simp only [fldP,  Nat.reduceAdd, go_sem]
 refine CallVC.same lawFails_ok ?_
 simp only [Nat.add_zero, go_sem]
 repeat refine sd2 ?_
 refine CallVC.gen (args2 := [fwdP 0 (K.take 30)]) (by simp [WkL, Wk, fwdP, htk, gl2]) (G3 _ _ _) ?_
 simp only [fwdP, Ckx.row, List.map_cons, wkNL, wkN, unown, go_sem]
 refine CallVC.same (good_ok c2) ?_
 simp only [go_sem]
 repeat refine sd2 ?_
 refine CallVC.gen (args2 := [fwdP 0 K]) (by simp [WkL, Wk, fwdP, gt2, gl2]) (G4 _ _ _) ?_
 simp only [fldP,  fwdP, List.map_nil, wkNL, wkN, unown, go_sem]
 refine CallVC.same lawFails_ok ?_
 simp only [go_sem]
 repeat refine sd2 ?_
 refine CallVC.gen (args2 := [fwdP 0 [(1, 0), (1, 1)]]) (by simp [WkL, Wk, fwdP, kE, List.map_nil]) (F3' _ _ _) ?_
 simp only [fldP,  fwdP, kE, List.map_cons, wkNL, wkN, unown, go_sem]
 refine CallVC.same lawFails_ok ?_
 simp only [go_sem]
 repeat refine sd2 ?_
 refine CallVC.gen (args2 := [fwdP 0 []]) (by simp [WkL, Wk, fwdP, List.map_nil]) (F4 _ _ _) ?_
 simp only [fwdP, Ckx.row, List.map_nil, wkNL, wkN, unown, go_sem]
 refine CallVC.same (good_ok c6) ?_
 simp only [Nat.add_zero, go_sem]
 have R3 : BadC 38 (rstP 1 0 0 0 (.fs 1 (([] : List Int).map eI))) := kR0 (by kernel_rfl) (by simp)
 have R4 : BadC 38 (rstP 1 0 0 1 (.fs 1 (([1] : List Int).map eI))) := kR0 (by kernel_rfl) (by simp)
 have R5 : BadC 38 (rstP 2 0 1 0 (.fs 1 (([] : List Int).map eI))) := kR0 (by kernel_rfl) (by simp)
 have R6 : BadC 38 (rstP 2 0 0 256 (.fs 1 (([] : List Int).map eI))) := kR0 (by kernel_rfl) (by simp)
 have R7 : BadC 38 (rstP 0 0 0 0 (.fs 1 (([] : List Int).map eI))) := kR0 (by kernel_rfl) (by simp)
 obtain ⟨c7, R8⟩ : GoodC 38 (rstP 2 0 0 255 (.fs 1 (([] : List Int).map eI))) := kR1 (by kernel_rfl) (by simp)
 repeat refine sd2 ?_
 refine CallVC.gen (args2 := [rstP 1 0 0 0 (.fs 1 ((Z.take 30).map eI))]) (by simp [WkL, Wk, rstP, htz, gl3]) (G5 _ _ _) ?_
 simp only [rstP, Ckx.row, List.map_cons, wkNL, wkN, unown, go_sem]
 refine CallVC.same (good_ok c3) ?_
 simp only [go_sem]
 repeat refine sd2 ?_
 refine CallVC.gen (args2 := [rstP 1 0 0 0 (.fs 1 (Z.map eI))]) (by simp [WkL, Wk, rstP, gt3, gl3]) (G6 _ _ _) ?_
 simp only [fldP,  rstP, List.map_nil, wkNL, wkN, unown, go_sem]
 refine CallVC.same lawFails_ok ?_
 simp only [go_sem]
 repeat refine sd2 ?_
 refine CallVC.gen (args2 := [rstP 1 0 0 0 (.fs 1 (([] : List Int).map eI))]) (by simp [WkL, Wk, rstP, List.map_nil]) (R3 _ _ _) ?_
 simp only [fldP,  rstP, List.map_nil, wkNL, wkN, unown, go_sem]
 refine CallVC.same lawFails_ok ?_
 simp only [go_sem]
 repeat refine sd2 ?_
 refine CallVC.gen (args2 := [rstP 1 0 0 1 (.fs 1 (([1] : List Int).map eI))]) (by simp [WkL, Wk, rstP, eI, List.map_nil]) (R4 _ _ _) ?_
 simp only [fldP,  rstP, eI, List.map_cons, wkNL, wkN, unown, go_sem]
 refine CallVC.same lawFails_ok ?_
 simp only [go_sem]
 repeat refine sd2 ?_
 refine CallVC.gen (args2 := [rstP 2 0 1 0 (.fs 1 (([] : List Int).map eI))]) (by simp [WkL, Wk, rstP, List.map_nil]) (R5 _ _ _) ?_
 simp only [fldP,  rstP, List.map_nil, wkNL, wkN, unown, go_sem]
 refine CallVC.same lawFails_ok ?_
 simp only [go_sem]
 repeat refine sd2 ?_
 refine CallVC.gen (args2 := [rstP 2 0 0 256 (.fs 1 (([] : List Int).map eI))]) (by simp [WkL, Wk, rstP, List.map_nil]) (R6 _ _ _) ?_
 simp only [fldP,  rstP, List.map_nil, wkNL, wkN, unown, go_sem]
 refine CallVC.same lawFails_ok ?_
 simp only [go_sem]
 repeat refine sd2 ?_
 refine CallVC.gen (args2 := [rstP 0 0 0 0 (.fs 1 (([] : List Int).map eI))]) (by simp [WkL, Wk, rstP, List.map_nil]) (R7 _ _ _) ?_
 simp only [fldP,  rstP, List.map_nil, wkNL, wkN, unown, go_sem]
 refine CallVC.same lawFails_ok ?_
 simp only [go_sem]
 repeat refine sd2 ?_
 refine CallVC.gen (args2 := [rstP 2 0 0 255 (.fs 1 (([] : List Int).map eI))]) (by simp [WkL, Wk, rstP, List.map_nil]) (R8 _ _ _) ?_
 simp only [rstP, Ckx.row, List.map_nil, wkNL, wkN, unown, go_sem]
 refine CallVC.same (good_ok c7) ?_
 simp only [go_sem]
 obtain ⟨q12, h12⟩ : ∃ q : List UInt8, q = List.replicate 12 1 := ⟨_, rfl⟩
 obtain ⟨q13, h13⟩ : ∃ q : List UInt8, q = List.replicate 13 1 := ⟨_, rfl⟩
 have P12 := rep_ok 1 12 (by omega)
 have P13 := rep_ok 1 13 (by omega)
 rw [← h12] at P12
 rw [← h13] at P13
 have X1 : ∀ (F : SF) (L nx : Nat), Con Tryz.prog 44 [.agg [.int .i64 2, .int .i64 0, .str ([0, 0, 0, 1] ++ q12)]] F L nx nx (.tup [.agg zIni.row, .int .i64 5]) [] [] := fun F L nx => by
  have h := getInitT_ok (F := F) (L := L) (nx := nx) ⟨2, 0, [0, 0, 0, 1] ++ q12⟩ (by rw [h12]; simp)
  rw [show getIniV ⟨2, 0, [0, 0, 0, 1] ++ q12⟩ = .tup [.agg zIni.row, .int .i64 5] by unfold getIniV; rw [if_pos (.inr rfl), if_neg (by rw [h12, show iniOk ⟨2, 0, [0, 0, 0, 1] ++ List.replicate 12 1⟩ = false by kernel_rfl]; simp)]] at h
  exact h
 have X2 : ∀ (F : SF) (L nx : Nat), Con Tryz.prog 44 [.agg [.int .i64 1, .int .i64 0, .str ([0, 0, 0, 1] ++ q13)]] F L nx nx (.tup [.agg zIni.row, .int .i64 5]) [] [] := fun F L nx => by
  have h := getInitT_ok (F := F) (L := L) (nx := nx) ⟨1, 0, [0, 0, 0, 1] ++ q13⟩ (by rw [h13]; simp)
  rw [show getIniV ⟨1, 0, [0, 0, 0, 1] ++ q13⟩ = .tup [.agg zIni.row, .int .i64 5] by unfold getIniV; rw [if_pos (.inl rfl), if_neg (by rw [h13, show iniOk ⟨1, 0, [0, 0, 0, 1] ++ List.replicate 13 1⟩ = false by kernel_rfl]; simp)]] at h
  exact h
 have X3 : ∀ (F : SF) (L nx : Nat), Con Tryz.prog 43 [.agg [.int .i64 0, .int .i64 8, .str q13]] F L nx nx (.tup [.agg zDat.row, .int .i64 5]) [] [] := fun F L nx => by
  have h := getDataT_ok (F := F) (L := L) (nx := nx) ⟨0, 8, q13⟩ (by rw [h13]; simp)
  rw [show getDatV ⟨0, 8, q13⟩ = .tup [.agg zDat.row, .int .i64 5] by unfold getDatV; rw [if_pos rfl, if_neg (by rw [h13, show datOk ⟨0, 8, List.replicate 13 1⟩ = false by kernel_rfl]; simp)]] at h
  exact h
 have X4 : ∀ (F : SF) (L nx : Nat), Con Tryz.prog 43 [.agg [.int .i64 0, .int .i64 3, .str q12]] F L nx nx (.tup [.agg zDat.row, .int .i64 5]) [] [] := fun F L nx => by
  have h := getDataT_ok (F := F) (L := L) (nx := nx) ⟨0, 3, q12⟩ (by rw [h12]; simp)
  rw [show getDatV ⟨0, 3, q12⟩ = .tup [.agg zDat.row, .int .i64 5] by unfold getDatV; rw [if_pos rfl, if_neg (by rw [h12, show datOk ⟨0, 3, List.replicate 12 1⟩ = false by kernel_rfl]; simp)]] at h
  exact h
 have X5 : ∀ (F : SF) (L nx : Nat), Con Tryz.prog 43 [.agg [.int .i64 0, .int .i64 3, .str q13]] F L nx nx (.tup [.agg (Dat.mk 16843009 257 257 16843009 true true false [1]).row, .int .i64 0]) [] [] := fun F L nx => by
  have h := getDataT_ok (F := F) (L := L) (nx := nx) ⟨0, 3, q13⟩ (by rw [h13]; simp)
  rw [show getDatV ⟨0, 3, q13⟩ = .tup [.agg (Dat.mk 16843009 257 257 16843009 true true false [1]).row, .int .i64 0] by unfold getDatV; rw [if_pos rfl, if_pos (by rw [h13]; kernel_rfl), h13, show datG ⟨0, 3, List.replicate 13 1⟩ = Dat.mk 16843009 257 257 16843009 true true false [1] by kernel_rfl]] at h
  exact h
 have X6 : ∀ (F : SF) (L nx : Nat), Con Tryz.prog 47 [.agg [.int .i64 130, .int .i64 0, .str [3, 0, 0, 0, 0, 0]]] F L nx nx (zRsx 5) [] [] := fun F L nx => by
  have h := getResetT_ok (F := F) (L := L) (nx := nx) ⟨130, 0, [3, 0, 0, 0, 0, 0]⟩ (by simp)
  rw [show getRsxV ⟨130, 0, [3, 0, 0, 0, 0, 0]⟩ = zRsx 5 by unfold getRsxV; rw [if_pos rfl, if_neg (by rw [show rsxOk ⟨130, 0, [3, 0, 0, 0, 0, 0]⟩ = false by kernel_rfl]; simp)]] at h
  exact h
 have X7 : ∀ (F : SF) (L nx : Nat), Con Tryz.prog 46 [.agg [.int .i64 192, .int .i64 1, .str [0, 0, 0, 0]]] F L nx nx (zFwx 5) [] [] := fun F L nx => by
  have h := getForwardT_ok (F := F) (L := L) (nx := nx) ⟨192, 1, [0, 0, 0, 0]⟩ (by simp)
  rw [show getFwxV ⟨192, 1, [0, 0, 0, 0]⟩ = zFwx 5 by unfold getFwxV; rw [if_pos rfl, if_neg (by rw [show fwxOk ⟨192, 1, [0, 0, 0, 0]⟩ = false by kernel_rfl]; simp)]] at h
  exact h
 have hq12 : q12.length = 12 := by rw [h12]; simp
 have hq13 : q13.length = 13 := by rw [h13]; simp
 have f5 : ((5 : Int) == 5) = true := rfl
 simp only [zIni, zDat, Dat.row, Ini.row, zRsx, zFwx] at X1 X2 X3 X4 X5 X6 X7
 clear h12 h13
 refine CallVC.same (P12 _ _ _) ?_
 simp only [hq12, go_sem]
 repeat refine sd2 ?_
 refine CallVC.same (X1 _ _ _) ?_
 simp only [go_sem]
 refine CallVC.same (P13 _ _ _) ?_
 simp only [hq13,  Nat.reduceAdd, go_sem]
 repeat refine sd2 ?_
 refine CallVC.same (X2 _ _ _) ?_
 simp only [go_sem]
 refine CallVC.same (P13 _ _ _) ?_
 simp only [go_sem]
 refine CallVC.same (X3 _ _ _) ?_
 simp only [go_sem]
 refine CallVC.same (P12 _ _ _) ?_
 simp only [go_sem]
 refine CallVC.same (X4 _ _ _) ?_
 simp only [go_sem]
 refine CallVC.same (P13 _ _ _) ?_
 simp only [go_sem]
 refine CallVC.same (X5 _ _ _) ?_
 simp only [go_sem]
 refine CallVC.same (X6 _ _ _) ?_
 simp only [go_sem]
 refine CallVC.same (X7 _ _ _) ?_
 simp only [go_sem]
 refine CallVC.same works32_ok ?_
 simp (maxSteps := 10000000) only [f5, f0, Nat.reduceBEq, Nat.reduceAdd, go_sem, Nat.reduceAdd, Nat.reduceEqDiff, Nat.reduceLT, Nat.reduceLeDiff, Nat.reduceBEq]
 exact .bool (.inr rfl) rfl rfl (by simp [UpdAll])
end Go.Proofs.YtaacfnngodhecaaGreatDoor
end
