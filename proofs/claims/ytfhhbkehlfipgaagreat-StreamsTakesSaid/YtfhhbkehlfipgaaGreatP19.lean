/- Lemmas for the walk: ZD8, ZC71, ZC72, ZC73, ZR20. -/
import Derived.Test.YtfhhbkehlfipgaaGreatP18
import Derived.Test.YtfhhbkehlfipgaaGreatP14
import Derived.Test.YtfhhbkehlfipgaaGreatP16
import Derived.Test.YtfhhbkehlfipgaaGreatP08
import Derived.Test.YtfhhbkehlfipgaaGreatRows
import Derived.ProofKit
import Derived.OpenShut
set_option linter.all false
section
namespace Go.Proofs.YtfhhbkehlfipgaaGreat
open Go.Tx
set_option maxRecDepth 100000
set_option maxHeartbeats 16000000
theorem stamp_ok {f : Int} {k : Nat} {out : List Int} {m : Msg} {j N : Nat} (ho : out.all (serB 16) = true) (hl : out.length = N) (hm : MsgOk N m) (hN : N ≤ 65536) (hj : j < (cutsM out m).length) : (stamp f k (cutsM out m) j).ok = true ∧ (stamp f k (cutsM out m) j).st < N := by
 obtain ⟨h1, h2, h3, h4, h5⟩ := hm
 have h32 : (2 : Int) ^ (Int.toNat 32) = 4294967296 := rfl
 have h16 : (2 : Int) ^ (Int.toNat 16) = 65536 := rfl
 rw [cutsM, sendD_len] at hj
 have hpl : 1 ≤ (pieceS m.tx j).length ∧ (pieceS m.tx j).length ≤ 1000 := by
  simp [pieceS]; omega
 have e : stamp f k (cutsM out m) j = ⟨(f + ((k + j : Nat) : Int)) % 4294967296, m.st, seqS out m.st.toNat m.lo, m.pr, j == 0, j + 1 == (m.tx.length + 999) / 1000, m.lo, pieceS m.tx j⟩ := by
  simp [stamp, cutsM, sendD, List.getD_eq_getElem?_getD, hj]
 have hsq : 0 ≤ seqS out m.st.toNat m.lo ∧ seqS out m.st.toNat m.lo < 65536 ∧ (m.lo = true → seqS out m.st.toNat m.lo = 0) := by
  unfold seqS
  cases m.lo with
  | true => simp
  | false =>
   have hlt : m.st.toNat < out.length := by omega
   rw [List.all_eq_true] at ho
   have := ho (out.getD m.st.toNat 0) (by rw [List.getD_eq_getElem?_getD, List.getElem?_eq_getElem hlt]; simp)
   simp only [serB, h16, Bool.and_eq_true, decide_eq_true_eq] at this
   refine ⟨?_, ?_, fun h => by cases h⟩ <;> simp only [Bool.false_eq_true, if_false] <;> omega
 obtain ⟨q, hq⟩ : ∃ q, q = pieceS m.tx j := ⟨_, rfl⟩
 obtain ⟨sq, hsq'⟩ : ∃ q, q = seqS out m.st.toNat m.lo := ⟨_, rfl⟩
 rw [e, ← hq, ← hsq']
 rw [← hq] at hpl
 rw [← hsq'] at hsq
 simp only [List.all_cons, List.all_nil, Bool.and_true, serB, h32, Bool.and_eq_true, decide_eq_true_eq] at h3
 refine ⟨?_, h2⟩
 simp only [Dat.ok, serB, h32, h16, Bool.and_eq_true, decide_eq_true_eq, Bool.or_eq_true, Bool.not_eq_true', beq_iff_eq]
 refine ⟨⟨⟨by omega, by omega⟩, h3⟩, ⟨⟨h1, by omega⟩, by omega, by omega⟩, by omega, by omega, ?_⟩
 cases hl' : m.lo with
 | false => exact .inl rfl
 | true => right; exact hsq.2.2 hl'
theorem outS_lenZ (out : List Int) (st : Nat) (lo : Bool) : (outS out st lo).length = out.length := by
 unfold outS; split <;> simp
theorem numG_okZ (f : Int) {N : Nat} (hN : N ≤ 65536) : ∀ (l : List Msg) (out : List Int) (acc : List Dat), out.all (serB 16) = true → out.length = N → (∀ m ∈ l, MsgOk N m) → (∀ d ∈ acc, d.ok = true ∧ d.st < N) → ∀ d ∈ (numG f out l acc).2, d.ok = true ∧ d.st < N
 | [], out, acc, _, _, _, h => h
 | m :: l, out, acc, ho, hl, hm, h => by
  simp only [numG]
  refine numG_okZ f hN l _ _ (outS_ser ho _ _) ((outS_lenZ _ _ _).trans hl) (fun x hx => hm x (by simp [hx])) ?_
  intro d hd
  rcases List.mem_append.1 hd with hd | hd
  ·exact h d hd
  ·simp only [stampL, List.mem_map, List.mem_range] at hd
   obtain ⟨j, hj, rfl⟩ := hd
   exact stamp_ok ho hl (hm m (by simp)) hN hj
theorem numG_lenZ (f : Int) : ∀ (out : List Int) (l : List Msg) (acc : List Dat), (∀ m ∈ l, m.tx.length ≤ 8000) → (numG f out l acc).2.length ≤ acc.length + 8 * l.length
 | out, [], acc, _ => by simp [numG]
 | out, m :: l, acc, h => by
  have h1 := h m (by simp)
  have h2 := numG_lenZ f (outS out m.st.toNat m.lo) l (acc ++ stampL f acc.length (cutsM out m) (cutsM out m).length) (fun x hx => h x (by simp [hx]))
  have h3 : (cutsM out m).length ≤ 8 := by rw [cutsM, sendD_len]; omega
  simp only [numG, List.length_cons]
  simp only [List.length_append, stampL_len] at h2
  omega
theorem piecesZ_len (i0 : Nat) (f b : Int) (ws : List Wd) : (piecesW i0 f b ws).length ≤ 96 := by
 have h := msgsW_ok (N := 1 + i0 % 16) (by omega) ws
 have := numG_lenZ f (startI i0 b) (msgsW (1 + i0 % 16) ws) [] (fun m hm => Nat.le_trans (h.t2 m hm) (by omega))
 have h2 := h.len
 unfold piecesW
 simp only [List.length_nil] at this
 omega
theorem startI_ok (i0 : Nat) {b : Int} (hb1 : 0 ≤ b) (hb2 : b < 65536) : (startI i0 b).length = 1 + i0 % 16 ∧ (startI i0 b).all (serB 16) = true := by
 have h16 : (2 : Int) ^ (Int.toNat 16) = 65536 := rfl
 refine ⟨by simp [startI, zrs], ?_⟩
 rw [List.all_eq_true]
 intro x hx
 rcases List.mem_or_eq_of_mem_set hx with h | rfl
 ·simp [zrs] at h; rw [h]; rfl
 ·simp only [serB, h16, Bool.and_eq_true, decide_eq_true_eq]; omega
theorem piecesZ_ok (i0 : Nat) (f : Int) {b : Int} (hb1 : 0 ≤ b) (hb2 : b < 65536) (ws : List Wd) : ∀ d ∈ piecesW i0 f b ws, d.ok = true ∧ d.st < ((1 + i0 % 16 : Nat) : Int) := by
 have h := msgsW_ok (N := 1 + i0 % 16) (by omega) ws
 obtain ⟨a1, a2⟩ := startI_ok i0 hb1 hb2
 refine numG_okZ f (by omega) _ _ _ a2 a1 (fun m hm => ?_) (by simp)
 have h32 : (2 : Int) ^ (Int.toNat 32) = 4294967296 := rfl
 have h1 := h.st m hm
 have h2 := h.pr m hm
 exact ⟨h1.1, h1.2, by simp [serB]; omega, h.t1 m hm, Nat.le_trans (h.t2 m hm) (by omega)⟩
def cameN (ks : List Nat) (n : Nat) : Nat := if n = 0 then 0 else min ks.length 60
def cameG (ks : List Nat) (l : List Dat) (j : Nat) : List Dat := (List.range j).map fun i => l.getD ((ks.getD i 0) % l.length) datZ
theorem cameG_len (ks : List Nat) (l : List Dat) (j : Nat) : (cameG ks l j).length = j := by simp [cameG]
theorem cameG_succ (ks : List Nat) (l : List Dat) (j : Nat) : cameG ks l (j + 1) = cameG ks l j ++ [l.getD ((ks.getD j 0) % l.length) datZ] := by simp [cameG, List.range_succ]
def cameW (i0 : Nat) (f b : Int) (ws : List Wd) (ks : List Nat) : List Dat := cameG ks (piecesW i0 f b ws) (cameN ks (piecesW i0 f b ws).length)
structure CmX where
 j : Nat
 q : Nat
theorem came_ok {F : SF} {L nx : Nat} (o i0 : Nat) (f : Nat) (hf : f < 4294967296) (a b : Int) (ho : o < 256) (hi : i0 < 256) (ha1 : 0 ≤ a) (ha2 : a < 65536) (hb1 : 0 ≤ b) (hb2 : b < 65536) (ws : List Wd) (hws : ∀ w ∈ ws, w.ok) (hwl : ws.length ≤ 9223372036854775807) (ks : List Nat) (hks : ∀ k ∈ ks, k < 256) (hkl : ks.length ≤ 9223372036854775807) (hpl : (piecesW i0 f b ws).length ≤ 96) :
  Con Tryz.prog 21 [.agg [.int .u8 o, .int .u8 i0, .int .u32 f, .int .u16 a, .int .u16 b, .fs 4 (ws.map Wd.row), .fs 1 (ks.map oU)]] F L nx nx (.fs 8 ((cameW i0 f b ws ks).map Dat.row)) [] [] := by
 have hpc := fun F L nx => piecesD_ok (F := F) (L := L) (nx := nx) o i0 f hf a b ho hi ha1 ha2 hb1 hb2 ws hws hwl ks
 unfold cameW
 obtain ⟨l, hl⟩ : ∃ x, x = piecesW i0 f b ws := ⟨_, rfl⟩
 rw [← hl] at hpc hpl ⊢
 refine bdy Tryz.f21 ?_
 intro F3 hF1 hF2
 simp only [Tryz.f21, cx, go_sem, meths]
 refine CallVC.same (hpc _ _ _) ?_
 simp only [go_sem]
 refine loopK.intro _ _ (I := fun z : CmX => ⟨[none, some (.ptr ⟨L + 1, 0⟩ 0 0), none, some (.fs 8 (l.map Dat.row)), some (.sl ⟨L + 1, z.q⟩ 0 z.j), some (.int .i64 z.j), none, none, none, none, none, none, none, none, none, none, none, none, none, none, none, none, none, none, none, none, none, none, none, none, none, none, none, none, none, none, none, none, none, none],
  [(⟨L + 1, 0⟩, .rows 30 7 true true [[.int .u8 o, .int .u8 i0, .int .u32 f, .int .u16 a, .int .u16 b, .fs 4 (ws.map Wd.row), .fs 1 (ks.map oU)]]), (⟨L + 1, z.q⟩, .rows 32 8 true true ((cameG ks l z.j).map Dat.row))], 10000 * (z.j + 1)⟩)
  (pre := fun z => z.j ≤ cameN ks l.length ∧ 64 ≤ z.q ∧ z.q < 10000 * (z.j + 1)) (μ := fun z => 60 - z.j) ⟨0, 192⟩ ⟨by simp, by simp, by simp⟩ ?_ ?_
 ·have e0 : cameG ks l 0 = [] := rfl
  refine Sub.trans (Sub.nilName 4 32 (wd := 8) (by omega) rfl) ?_
  refine Sub.of (hfz hF2) (by simp only [go_sem, subT, and_self, Int.natCast_zero]) ?_ (by simp [subK, keys, updH, setH]) (by simp)
  simp [subH, Tx.look, updH, setH, e0]
 ·rintro ⟨i, q⟩ ⟨h1, k1, k2⟩
  simp only at h1 k1 k2 ⊢
  have q_0 : (q = 0) = False := by apply eq_false; omega
  have n0_q : (0 = q) = False := by apply eq_false; omega
  have q_n1 : ∀ kk, (10000 * (i + 1) + kk = q) = False := fun kk => by apply eq_false; omega
  have q_n2 : ∀ kk, (q = 10000 * (i + 1) + kk) = False := fun kk => by apply eq_false; omega
  have q_n3 : (10000 * (i + 1) = q) = False := by apply eq_false; omega
  have q_n4 : (q = 10000 * (i + 1)) = False := by apply eq_false; omega
  have q_n5 : ∀ kk, ((⟨L + 1, q⟩ : Nm) == ⟨L + 1, 10000 * (i + 1) + kk⟩) = false := fun kk => by simp; omega
  have hcl := cameG_len ks l i
  by_cases g1 : i < ks.length
  ·have f1 : decide ((i : Int) < (ks.length : Int)) = true := dT (by omega)
   by_cases g2 : i < 60
   ·have f2 : decide ((i : Int) < 60) = true := dT (by omega)
    by_cases g3 : 0 < l.length
    ·have f3 : decide ((0 : Int) < (l.length : Int)) = true := dT (by omega)
     obtain ⟨k, hk⟩ : ∃ k, k = ks.getD i 0 := ⟨_, rfl⟩
     have hkb : k < 256 := by rw [hk, List.getD_eq_getElem?_getD, List.getElem?_eq_getElem g1]; exact hks _ (List.getElem_mem g1)
     have r0 : (ks.map oU).getD i [] = [.int .u8 (k : Int)] := by rw [hk]; simp [g1, List.getD_eq_getElem?_getD, oU]
     have hkm := Nat.mod_lt k g3
     have e1 : (k : Int).tmod (l.length : Int) = ((k % l.length : Nat) : Int) := by rw [Int.tmod_eq_emod_of_nonneg (by omega)]; omega
     have r1 := rowD hkm
     have e2 := cameG_succ ks l i
     rw [← hk, List.getD_eq_getElem?_getD, List.getElem?_eq_getElem hkm, Option.getD_some] at e2
     obtain ⟨d, hd⟩ : ∃ d, d = l[k % l.length] := ⟨_, rfl⟩
     rw [← hd] at r1 e2
     have e3 : (cameG ks l (i + 1)).map Dat.row = (cameG ks l i).map Dat.row ++ [[.int .i64 d.tsn, .int .i64 d.st, .int .i64 d.sq, .int .i64 d.pr, .bool d.fi, .bool d.la, .bool d.lo, .str d.pl]] := by rw [e2]; simp [Dat.row]
     simp only [f1, f2, f3, r0, r1, e1, Dat.row, Int.toNat_natCast, nS2, Nat.add_assoc, q_0, n0_q, q_n1, q_n2, q_n5, List.length_map, go_sem]
     repeat refine sd2 ?_
     have hn : i + 1 ≤ cameN ks l.length := by unfold cameN; rw [if_neg (by omega)]; omega
     refine ⟨⟨i + 1, 10000 * (i + 1) + 896⟩, ⟨hn, by simp only []; omega, by simp only []; omega⟩, by simp only []; omega, ?_⟩
     refine Sub.o hF2 ?_
     simp only [e3]
     simp [subH, Tx.look, nB, q_n1]
    ·have f3 : decide ((0 : Int) < (l.length : Int)) = false := dF (by omega)
     have e : cameN ks l.length = i := by unfold cameN at h1 ⊢; rw [if_pos (by omega)] at h1 ⊢; omega
     rw [e]
     simp only [f1, f2, f3, Nat.add_assoc, n0_q, List.length_map, go_sem]
     repeat refine sd2 ?_
     exact PostF.rs (v0 := .sl ⟨L + 1, q⟩ 0 i ) (.inr rfl) (hw := by simp [Wk, Tx.look, List.take_of_length_le, q_0, cameG_len])
   ·have f2 : decide ((i : Int) < 60) = false := dF (by omega)
    have e : cameN ks l.length = i := by unfold cameN at h1 ⊢; by_cases hz : l.length = 0 <;> simp only [hz, if_true, if_false] at h1 ⊢ <;> omega
    rw [e]
    simp only [f1, f2, Nat.add_assoc, n0_q, List.length_map, go_sem]
    repeat refine sd2 ?_
    exact PostF.rs (v0 := .sl ⟨L + 1, q⟩ 0 i ) (.inr rfl) (hw := by simp [Wk, Tx.look, List.take_of_length_le, q_0, cameG_len])
  ·have f1 : decide ((i : Int) < (ks.length : Int)) = false := dF (by omega)
   have e : cameN ks l.length = i := by unfold cameN at h1 ⊢; by_cases hz : l.length = 0 <;> simp only [hz, if_true, if_false] at h1 ⊢ <;> omega
   rw [e]
   simp only [f1, Nat.add_assoc, n0_q, List.length_map, go_sem]
   repeat refine sd2 ?_
   exact PostF.rs (v0 := .sl ⟨L + 1, q⟩ 0 i ) (.inr rfl) (hw := by simp [Wk, Tx.look, List.take_of_length_le, q_0, cameG_len])
structure SmX where
 j : Nat
 inn : List Int
 ps : List Dat
 out : List Msg
def smI (l : List Dat) (inn : List Int) (z : SmX) : Prop :=
 z.j ≤ l.length ∧ PsOk z.inn z.ps ∧ dueG z.inn z.ps = none ∧ z.inn.all (serB 16) = true ∧ z.inn.length = inn.length ∧ z.ps.length ≤ z.j ∧ comesG z.inn z.ps (l.drop z.j) z.out = comesG inn [] l []
theorem cameW_ok (i0 : Nat) (f : Int) {b : Int} (hb1 : 0 ≤ b) (hb2 : b < 65536) (ws : List Wd) (ks : List Nat) : ∀ d ∈ cameW i0 f b ws ks, d.ok = true ∧ d.st < ((1 + i0 % 16 : Nat) : Int) := by
 intro d hd
 unfold cameW cameG at hd
 obtain ⟨j, hj, rfl⟩ := List.mem_map.1 hd
 have hl : 0 < (piecesW i0 f b ws).length := by
  rw [List.mem_range] at hj
  unfold cameN at hj
  by_cases h : (piecesW i0 f b ws).length = 0
  ·rw [if_pos h] at hj; omega
  ·omega
 have hk := Nat.mod_lt (ks.getD j 0) hl
 rw [List.getD_eq_getElem?_getD, List.getElem?_eq_getElem hk, Option.getD_some]
 exact piecesZ_ok i0 f hb1 hb2 ws _ (List.getElem_mem hk)
theorem cameW_len (i0 : Nat) (f b : Int) (ws : List Wd) (ks : List Nat) : (cameW i0 f b ws ks).length ≤ 60 := by
 unfold cameW
 rw [cameG_len]
 unfold cameN
 split <;> omega
def startO (o : Nat) (a b : Int) : List Int := ((zrs (1 + o % 16)).set 0 a).set (o % 16) b
theorem startO_ok (o : Nat) {a b : Int} (ha1 : 0 ≤ a) (ha2 : a < 65536) (hb1 : 0 ≤ b) (hb2 : b < 65536) : (startO o a b).length = 1 + o % 16 ∧ (startO o a b).all (serB 16) = true := by
 have h16 : (2 : Int) ^ (Int.toNat 16) = 65536 := rfl
 refine ⟨by simp [startO, zrs], ?_⟩
 rw [List.all_eq_true]
 intro x hx
 rcases List.mem_or_eq_of_mem_set hx with h | rfl
 ·rcases List.mem_or_eq_of_mem_set h with h | rfl
  ·simp [zrs] at h; rw [h]; rfl
  ·simp only [serB, h16, Bool.and_eq_true, decide_eq_true_eq]; omega
 ·simp only [serB, h16, Bool.and_eq_true, decide_eq_true_eq]; omega
def dstrI (i0 : Nat) (f b : Int) (ws : List Wd) (ks : List Nat) : List Int := (comesG (startI i0 b) [] (cameW i0 f b ws ks) []).1
def dstrP (i0 : Nat) (f b : Int) (ws : List Wd) (ks : List Nat) : List Dat := (comesG (startI i0 b) [] (cameW i0 f b ws ks) []).2.1
theorem psOk_nil (inn : List Int) : PsOk inn [] := ⟨by simp, by simp, by simp⟩
theorem dstr_ok (i0 : Nat) (f : Int) {b : Int} (hb1 : 0 ≤ b) (hb2 : b < 65536) (ws : List Wd) (ks : List Nat) :
  PsOk (dstrI i0 f b ws ks) (dstrP i0 f b ws ks) ∧ dueG (dstrI i0 f b ws ks) (dstrP i0 f b ws ks) = none ∧ (dstrI i0 f b ws ks).all (serB 16) = true ∧ (dstrI i0 f b ws ks).length = 1 + i0 % 16 := by
 obtain ⟨a1, a2⟩ := startI_ok i0 hb1 hb2
 obtain ⟨h1, h2, h3, h4⟩ := comes_valid (cameW i0 f b ws ks) (inn := startI i0 b) (ps := []) [] (psOk_nil _) rfl a2 (fun d hd => by rw [a1]; exact cameW_ok i0 f hb1 hb2 ws ks d hd) (by have := cameW_len i0 f b ws ks; simp; omega)
 exact ⟨h1, h2, h3, h4.trans a1⟩
theorem dstreams_ok {F : SF} {L nx : Nat} (o i0 : Nat) (f : Nat) (hf : f < 4294967296) (a b : Int) (ho : o < 256) (hi : i0 < 256) (ha1 : 0 ≤ a) (ha2 : a < 65536) (hb1 : 0 ≤ b) (hb2 : b < 65536) (ws : List Wd) (hws : ∀ w ∈ ws, w.ok) (hwl : ws.length ≤ 9223372036854775807) (ks : List Nat) (hks : ∀ k ∈ ks, k < 256) (hkl : ks.length ≤ 9223372036854775807) :
  Con Tryz.prog 40 [.agg [.int .u8 o, .int .u8 i0, .int .u32 f, .int .u16 a, .int .u16 b, .fs 4 (ws.map Wd.row), .fs 1 (ks.map oU)]] F L nx nx (strV (startO o a b) (dstrI i0 f b ws ks) 0 (-1) [] (dstrP i0 f b ws ks)) [] [] := by
 have hst : ∀ F L nx, Con Tryz.prog 20 [.agg [.int .u8 o, .int .u8 i0, .int .u32 f, .int .u16 a, .int .u16 b, .fs 4 (ws.map Wd.row), .fs 1 (ks.map oU)]] F L nx nx (strV (startO o a b) (startI i0 b) 0 (-1) [] []) [] [] := fun F L nx => startF_ok o i0 f a b _ _ ho hi ha1 ha2 hb1 hb2
 have hcm := fun F L nx => came_ok (F := F) (L := L) (nx := nx) o i0 f hf a b ho hi ha1 ha2 hb1 hb2 ws hws hwl ks hks hkl (piecesZ_len _ _ _ _)
 obtain ⟨s1, s2⟩ := startI_ok i0 hb1 hb2
 obtain ⟨s3, s4⟩ := startO_ok o ha1 ha2 hb1 hb2
 have hlm : ∀ d ∈ cameW i0 f b ws ks, d.ok = true ∧ d.st < (startI i0 b).length := fun d hd => by rw [s1]; exact cameW_ok i0 f hb1 hb2 ws ks d hd
 have hll := cameW_len i0 f b ws ks
 unfold dstrI dstrP
 obtain ⟨l, hl⟩ : ∃ x, x = cameW i0 f b ws ks := ⟨_, rfl⟩
 obtain ⟨out0, ho0⟩ : ∃ x, x = startO o a b := ⟨_, rfl⟩
 obtain ⟨inn0, hi0⟩ : ∃ x, x = startI i0 b := ⟨_, rfl⟩
 rw [← hl] at hcm hlm hll ⊢
 rw [← ho0] at hst s3 s4 ⊢
 rw [← hi0] at hst s1 s2 hlm ⊢
 have hS0 : Str0 out0 inn0 0 (-1) [] := ⟨by omega, by omega, s4, by omega, by omega, s2, rfl, .inl rfl, rfl, by simp⟩
 simp only [strV, List.map_nil] at hst
 refine bdy Tryz.f40 ?_
 intro F3 hF1 hF2
 simp only [Tryz.f40, cx, strV, go_sem, meths]
 refine CallVC.same (hst _ _ _) ?_
 simp only [go_sem]
 refine CallVC.same (hcm _ _ _) ?_
 simp only [go_sem]
 repeat refine sd2 ?_
 refine loopK.intro _ _ (I := fun z : SmX => ⟨[none, none, some (.ptr ⟨L + 1, 32⟩ 0 0), some (.ptr ⟨L + 1, 96⟩ 0 0), some (.fs 8 (l.map Dat.row)), some (.int .i64 z.j), none, none, none, none, none, none, none, none, none, none, none, none, none, none, none, none, none, none, none, none, none, none, none, none, none, none, none],
  [(⟨L + 1, 32⟩, .rows 41 6 true true [[.nilS, .nilS, .nilS, .int .i64 0, .int .i64 0, .nilS]]), (⟨L + 1, 96⟩, .rows 41 6 true true [[.fs 1 (out0.map eI), .fs 1 (z.inn.map eI), .fs 8 (z.ps.map Dat.row), .int .i64 0, .int .i64 (-1), .fs 1 []]])], 10000 * (z.j + 1)⟩)
  (pre := smI l inn0) (μ := fun z => l.length - z.j) ⟨0, inn0, [], []⟩ ⟨by simp, psOk_nil _, rfl, s2, rfl, by simp, by simp⟩ ?_ ?_
 ·refine Sub.of (hfz hF2) (by simp only [go_sem, subT, and_self, Int.natCast_zero]) ?_ (by simp [subK, keys]) (by simp)
  simp [subH, Tx.look]
 ·rintro ⟨i, inn1, ps1, out1⟩ ⟨p1, p2, p3, p4, p5, p6, p7⟩
  simp only at p1 p2 p3 p4 p5 p6 p7 ⊢
  by_cases hlt : i < l.length
  ·have f1 : decide ((i : Int) < (l.length : Int)) = true := dT (by omega)
   have r0 := rowD hlt
   obtain ⟨e1, e2⟩ := hlm _ (List.getElem_mem hlt)
   have hdr : l.drop i = l[i] :: l.drop (i + 1) := List.drop_eq_getElem_cons hlt
   rw [hdr, comesG] at p7
   obtain ⟨d, hd⟩ : ∃ d, d = l[i] := ⟨_, rfl⟩
   rw [← hd] at r0 e1 e2 p7
   have htk := fun F L nx => refTakeG_ok (F := F) (L := L) (nx := nx) out0 inn1 [] 0 (-1) (hS0.inn p5 p4) ps1 p2 p3 d e1 (by omega) (by omega)
   obtain ⟨q1, q2, q3⟩ := takeG_valid p2 p3 p4 (d := d) (by omega) e1 (by omega)
   have q4 := takeG_len inn1 ps1 d
   have q5 := takeG_le inn1 ps1 d
   obtain ⟨z, hz⟩ : ∃ z, z = takeG inn1 ps1 d := ⟨_, rfl⟩
   rw [← hz] at htk q1 q2 q3 q4 q5 p7
   simp only [strV, Dat.row, List.map_nil] at htk
   simp only [f1, r0, Dat.row, Int.toNat_natCast, Nat.add_assoc, List.length_map, go_sem]
   repeat refine sd2 ?_
   refine CallVC.same (htk _ _ _) ?_
   simp only [Nat.add_assoc, go_sem]
   repeat refine sd2 ?_
   refine ⟨okDyn_num (fun x => x.i % 10000) (by simp only [numF, List.map, Nat.mul_add_mod, Nat.reduceMod]; kernel_rfl), ?_⟩
   repeat refine sd2 ?_
   refine ⟨⟨i + 1, z.1, z.2.1, out1 ++ z.2.2⟩, ⟨hlt, q1, q2, q3, q4.trans p5, by simp only []; omega, p7⟩, by simp only []; omega, ?_⟩
   refine Sub.o hF2 ?_
   simp [subH, Tx.look]
  ·have f1 : decide ((i : Int) < (l.length : Int)) = false := dF (by omega)
   rw [List.drop_of_length_le (by omega), comesG] at p7
   rw [← p7]
   simp only [f1, Nat.add_assoc, List.length_map, go_sem]
   repeat refine sd2 ?_
   exact PostF.rs (v0 := .agg [.fs 1 (out0.map eI), .fs 1 (inn1.map eI), .fs 8 (ps1.map Dat.row), .int .i64 0, .int .i64 (-1), .fs 1 []]) (.inr rfl)
structure StX where
 out : List Int
 inn : List Int
 ps : List Dat
 num : Int
 seen : Int
 asked : List Int
def StX.v (s : StX) : PV := strV s.out s.inn s.num s.seen s.asked s.ps
structure StX.Le (s : StX) (k : Nat) : Prop where
 o : s.out.length ≤ k
 i : s.inn.length ≤ k
 p : s.ps.length ≤ k
 a : s.asked.length ≤ k
def fillD (i : Nat) : Dat := ⟨1000000 + 2 * (i : Int), 0, 0, 0, false, false, true, [119]⟩
def fillL (k : Nat) : List Dat := (List.range k).map fillD
theorem fillL_len (k : Nat) : (fillL k).length = k := by simp [fillL]
theorem fillL_succ (k : Nat) : fillL (k + 1) = fillL k ++ [fillD k] := by simp [fillL, List.range_succ]
def bendG (r a : Nat) (n : Int) (d : Dat) (s : StX) : StX :=
 match r with
 | 0 => { s with out := s.out ++ [n] }
 | 1 => { s with inn := s.inn ++ [n] }
 | 2 => { s with inn := s.inn.set (a % s.inn.length) n }
 | 3 => { s with ps := s.ps ++ [{ d with pl := d.pl.take 40 }] }
 | 4 => { s with num := n }
 | 5 => { s with seen := n }
 | 6 => { s with asked := s.asked ++ [n] }
 | 7 => { s with ps := s.ps ++ fillL (77 + a % 6 - s.ps.length) }
 | 8 => { s with ps := s.ps ++ (s.ps.drop (a % s.ps.length)).take 1 }
 | _ => { s with out := s.out.take (a % s.out.length) }
theorem bendG_le {s : StX} {k : Nat} (h : s.Le k) (r a : Nat) (n : Int) (d : Dat) : (bendG r a n d s).Le (k + 100) := by
 obtain ⟨h1, h2, h3, h4⟩ := h
 unfold bendG
 split <;> constructor <;> simp only [List.length_append, List.length_cons, List.length_nil, List.length_set, List.length_take, fillL_len] <;> omega
structure BdX where
 i : Nat
 q : Nat
theorem bend_ok {F : SF} {L nx : Nat} (w a : Nat) (hw : w < 256) (ha : a < 256) (n : Int) (d : Dat) (hd : d.pl.length ≤ 9223372036854775807) (s : StX) (hs : s.Le 100000) :
    Con Tryz.prog 41 [.agg (.int .u8 w :: .int .u8 a :: .int .i64 n :: d.row), s.v] F L nx nx (bendG (w % 10) a n d s).v [] [] := by
  obtain ⟨out, inn, ps, num, seen, asked⟩ := s
  obtain ⟨h1, h2, h3, h4⟩ := hs
  simp only at h1 h2 h3 h4
  have hco := fun F L nx => copied_ok (F := F) (L := L) (nx := nx) out inn asked num seen ps (by omega) (by omega) (by omega) (by omega)
  simp only [strV] at hco
  obtain ⟨r, hr⟩ : ∃ r, r = w % 10 := ⟨_, rfl⟩
  have t0 : (w : Int).tmod 10 = (r : Int) := by rw [hr]; rfl
  have hr0 : r < 10 := by omega
  rw [← hr]
  refine bdy Tryz.f41 ?_
  intro F3 hF1 hF2
  simp only [Tryz.f41, cx, StX.v, strV, Dat.row, go_sem, meths]
  repeat refine sd2 ?_
  refine CallVC.same (hco _ _ _) ?_
  rcases (show r = 0 ∨ r = 1 ∨ r = 2 ∨ r = 3 ∨ r = 4 ∨ r = 5 ∨ r = 6 ∨ r = 7 ∨ r = 8 ∨ r = 9 by omega) with rfl | rfl | rfl | rfl | rfl | rfl | rfl | rfl | rfl | rfl
  · have f0 : (((0 : Nat) : Int) == 0) = true := rfl
    simp only [t0, f0, List.length_map, nm_beq, Nat.add_zero, go_sem]
    repeat refine sd2 ?_
    exact PostF.rs (v0 := .agg [.sl ⟨L + 1, 612⟩ 0 (out.length + 1), .sl ⟨L + 1, 129⟩ 0 inn.length, .sl ⟨L + 1, 130⟩ 0 ps.length, .int .i64 num, .int .i64 seen, .sl ⟨L + 1, 131⟩ 0 asked.length] ) (.inr rfl) (hw := by simp [Wk, WkL, Tx.look, List.take_of_length_le, bendG, eI])
  · have f0 : (((1 : Nat) : Int) == 0) = false := rfl
    have f1 : (((1 : Nat) : Int) == 1) = true := rfl
    simp only [t0, f0, f1, List.length_map, nm_beq, Nat.add_zero, go_sem]
    repeat refine sd2 ?_
    exact PostF.rs (v0 := .agg [.sl ⟨L + 1, 128⟩ 0 out.length, .sl ⟨L + 1, 676⟩ 0 (inn.length + 1), .sl ⟨L + 1, 130⟩ 0 ps.length, .int .i64 num, .int .i64 seen, .sl ⟨L + 1, 131⟩ 0 asked.length] ) (.inr rfl) (hw := by simp [Wk, WkL, Tx.look, List.take_of_length_le, bendG, eI])
  · have f0 : (((2 : Nat) : Int) == 0) = false := rfl
    have f1 : (((2 : Nat) : Int) == 1) = false := rfl
    have f2 : (((2 : Nat) : Int) == 2) = true := rfl
    by_cases hz : inn.length = 0
    · have g0 : decide ((0 : Int) < (inn.length : Int)) = false := dF (by omega)
      have e : inn = [] := List.length_eq_zero_iff.1 hz
      simp only [t0, f0, f1, f2, g0, Nat.add_zero, go_sem]
      repeat refine sd2 ?_
      exact PostF.rs (v0 := .agg [.sl ⟨L + 1, 128⟩ 0 out.length, .sl ⟨L + 1, 129⟩ 0 inn.length, .sl ⟨L + 1, 130⟩ 0 ps.length, .int .i64 num, .int .i64 seen, .sl ⟨L + 1, 131⟩ 0 asked.length] ) (.inr rfl) (hw := by simp [Wk, WkL, Tx.look, List.take_of_length_le, bendG, e])
    · have g0 : decide ((0 : Int) < (inn.length : Int)) = true := dT (by omega)
      have hm := Nat.mod_lt a (show 0 < inn.length by omega)
      have t1 : (a : Int).tmod (inn.length : Int) = ((a % inn.length : Nat) : Int) := rfl
      have r1 := getD_eI inn hm
      simp only [t0, f0, f1, f2, g0, t1, r1, eI, set_eI, Int.toNat_natCast, List.length_map, Nat.add_zero, go_sem]
      repeat refine sd2 ?_
      refine ⟨okDyn_num (fun x => x.i) (by kernel_rfl), ?_⟩
      exact PostF.rs (v0 := .agg [.sl ⟨L + 1, 128⟩ 0 out.length, .sl ⟨L + 1, 129⟩ 0 inn.length, .sl ⟨L + 1, 130⟩ 0 ps.length, .int .i64 num, .int .i64 seen, .sl ⟨L + 1, 131⟩ 0 asked.length] ) (.inr rfl) (hw := by simp [Wk, WkL, Tx.look, List.take_of_length_le, bendG])
  · have f0 : (((3 : Nat) : Int) == 0) = false := rfl
    have f1 : (((3 : Nat) : Int) == 1) = false := rfl
    have f2 : (((3 : Nat) : Int) == 2) = false := rfl
    have f3 : (((3 : Nat) : Int) == 3) = true := rfl
    have t3 : (min (d.pl.length : Int) 40).toNat = min d.pl.length 40 := by omega
    have t4 : d.pl.take (min d.pl.length 40) = d.pl.take 40 := by rw [List.take_eq_take_iff]; omega
    have t5 : d.pl.take (min 40 d.pl.length) = d.pl.take 40 := by rw [List.take_eq_take_iff]; omega
    simp only [t0, f0, f1, f2, f3, t3, List.length_map, nm_beq, Nat.add_zero, go_sem]
    repeat refine sd2 ?_
    exact PostF.rs (v0 := .agg [.sl ⟨L + 1, 128⟩ 0 out.length, .sl ⟨L + 1, 129⟩ 0 inn.length, .sl ⟨L + 1, 1188⟩ 0 (ps.length + 1), .int .i64 num, .int .i64 seen, .sl ⟨L + 1, 131⟩ 0 asked.length] ) (.inr rfl) (hw := by simp [Wk, WkL, Tx.look, List.take_of_length_le, bendG, Dat.row, t4])
  · have f0 : (((4 : Nat) : Int) == 0) = false := rfl
    have f1 : (((4 : Nat) : Int) == 1) = false := rfl
    have f2 : (((4 : Nat) : Int) == 2) = false := rfl
    have f3 : (((4 : Nat) : Int) == 3) = false := rfl
    have f4 : (((4 : Nat) : Int) == 4) = true := rfl
    simp only [t0, f0, f1, f2, f3, f4, Nat.add_zero, go_sem]
    repeat refine sd2 ?_
    exact PostF.rs (v0 := .agg [.sl ⟨L + 1, 128⟩ 0 out.length, .sl ⟨L + 1, 129⟩ 0 inn.length, .sl ⟨L + 1, 130⟩ 0 ps.length, .int .i64 n, .int .i64 seen, .sl ⟨L + 1, 131⟩ 0 asked.length] ) (.inr rfl) (hw := by simp [Wk, WkL, Tx.look, List.take_of_length_le, bendG])
  · have f0 : (((5 : Nat) : Int) == 0) = false := rfl
    have f1 : (((5 : Nat) : Int) == 1) = false := rfl
    have f2 : (((5 : Nat) : Int) == 2) = false := rfl
    have f3 : (((5 : Nat) : Int) == 3) = false := rfl
    have f4 : (((5 : Nat) : Int) == 4) = false := rfl
    have f5 : (((5 : Nat) : Int) == 5) = true := rfl
    simp only [t0, f0, f1, f2, f3, f4, f5, Nat.add_zero, go_sem]
    repeat refine sd2 ?_
    exact PostF.rs (v0 := .agg [.sl ⟨L + 1, 128⟩ 0 out.length, .sl ⟨L + 1, 129⟩ 0 inn.length, .sl ⟨L + 1, 130⟩ 0 ps.length, .int .i64 num, .int .i64 n, .sl ⟨L + 1, 131⟩ 0 asked.length] ) (.inr rfl) (hw := by simp [Wk, WkL, Tx.look, List.take_of_length_le, bendG])
  · have f0 : (((6 : Nat) : Int) == 0) = false := rfl
    have f1 : (((6 : Nat) : Int) == 1) = false := rfl
    have f2 : (((6 : Nat) : Int) == 2) = false := rfl
    have f3 : (((6 : Nat) : Int) == 3) = false := rfl
    have f4 : (((6 : Nat) : Int) == 4) = false := rfl
    have f5 : (((6 : Nat) : Int) == 5) = false := rfl
    have f6 : (((6 : Nat) : Int) == 6) = true := rfl
    simp only [t0, f0, f1, f2, f3, f4, f5, f6, List.length_map, nm_beq, Nat.add_zero, go_sem]
    repeat refine sd2 ?_
    exact PostF.rs (v0 := .agg [.sl ⟨L + 1, 128⟩ 0 out.length, .sl ⟨L + 1, 129⟩ 0 inn.length, .sl ⟨L + 1, 130⟩ 0 ps.length, .int .i64 num, .int .i64 seen, .sl ⟨L + 1, 996⟩ 0 (asked.length + 1)] ) (.inr rfl) (hw := by simp [Wk, WkL, Tx.look, List.take_of_length_le, bendG, eI])
  · have f0 : (((7 : Nat) : Int) == 0) = false := rfl
    have f1 : (((7 : Nat) : Int) == 1) = false := rfl
    have f2 : (((7 : Nat) : Int) == 2) = false := rfl
    have f3 : (((7 : Nat) : Int) == 3) = false := rfl
    have f4 : (((7 : Nat) : Int) == 4) = false := rfl
    have f5 : (((7 : Nat) : Int) == 5) = false := rfl
    have f6 : (((7 : Nat) : Int) == 6) = false := rfl
    have f7 : (((7 : Nat) : Int) == 7) = true := rfl
    simp only [t0, f0, f1, f2, f3, f4, f5, f6, f7, Nat.add_zero, go_sem]
    repeat refine sd2 ?_
    refine loopK.intro _ _ (I := fun z : BdX => ⟨[none, none, none, some (.ptr ⟨L + 1, 32⟩ 0 0), some (.ptr ⟨L + 1, 64⟩ 0 0), some (.int .i64 a), none, some (.int .i64 z.i), none, none, none, none, none, none, none, none, none, none, none, none, none, none, none, none, none, none, none, none, none, none, none, none, none, none, none, none, none, none, none, none, none, none, none, none, none, none, none, none, none, none, none, none, none, none, none, none, none, none, none, none, none, none, none, none, none, none, none, none, none, none, none, none, none, none, none, none, none, none, none, none, none, none, none, none, none, none, none, none, none, none, none, none, none, none, none, none, none, none, none, none, none, none, none, none, none, none, none, none, none, none, none, none, none, none, none, none, none, none, none, none, none, none, none, none, none, none, none, none, none, none, none, none, none, none, none, none, none, none, none, none, none],
      [(⟨L + 1, 32⟩, .rows 41 6 true false [[.sl ⟨L + 1, 128⟩ 0 out.length, .sl ⟨L + 1, 129⟩ 0 inn.length, .sl ⟨L + 1, z.q⟩ 0 (ps ++ fillL z.i).length, .int .i64 num, .int .i64 seen, .sl ⟨L + 1, 131⟩ 0 asked.length]]), (⟨L + 1, 64⟩, .rows 41 6 true true [[.nilS, .nilS, .nilS, .int .i64 0, .int .i64 0, .nilS]]),
       (⟨L + 1, 128⟩, .rows 3 1 true true (out.map eI)), (⟨L + 1, 129⟩, .rows 3 1 true true (inn.map eI)), (⟨L + 1, 131⟩, .rows 3 1 true true (asked.map eI)), (⟨L + 1, z.q⟩, .rows 32 8 true true ((ps ++ fillL z.i).map Dat.row))], 10000 * (z.i + 1)⟩)
      (pre := fun z => z.i ≤ 77 + a % 6 - ps.length ∧ 129 < z.q ∧ z.q ≠ 131 ∧ z.q < 10000 * (z.i + 1)) (μ := fun z => 90 - z.i) ⟨0, 130⟩ ⟨by simp, by simp, by simp, by simp⟩ ?_ ?_
    · have e9 : ps ++ fillL 0 = ps := by simp [fillL]
      refine Sub.of (hfz hF2) (by simp only [go_sem, subT, and_self, Int.natCast_zero]) ?_ (by simp [subK, keys]) (by simp)
      simp [subH, Tx.look, e9]
    · rintro ⟨i, q⟩ ⟨k1, k2, k3, k4⟩
      simp only at k1 k2 k3 k4 ⊢
      have q_0 : (q = 0) = False := by apply eq_false; omega
      have n0_q : (0 = q) = False := by apply eq_false; omega
      have q_32 : (q = 32) = False := by apply eq_false; omega
      have n32_q : (32 = q) = False := by apply eq_false; omega
      have q_64 : (q = 64) = False := by apply eq_false; omega
      have n64_q : (64 = q) = False := by apply eq_false; omega
      have q_128 : (q = 128) = False := by apply eq_false; omega
      have n128_q : (128 = q) = False := by apply eq_false; omega
      have q_129 : (q = 129) = False := by apply eq_false; omega
      have n129_q : (129 = q) = False := by apply eq_false; omega
      have q_131 : (q = 131) = False := by apply eq_false; omega
      have n131_q : (131 = q) = False := by apply eq_false; omega
      have q_n1 : ∀ kk, (10000 * (i + 1) + kk = q) = False := fun kk => by apply eq_false; omega
      have q_n2 : ∀ kk, (q = 10000 * (i + 1) + kk) = False := fun kk => by apply eq_false; omega
      have q_n3 : (10000 * (i + 1) = q) = False := by apply eq_false; omega
      have q_n4 : (q = 10000 * (i + 1)) = False := by apply eq_false; omega
      have q_n5 : ∀ kk, ((⟨L + 1, q⟩ : Nm) == ⟨L + 1, 10000 * (i + 1) + kk⟩) = false := fun kk => by simp; omega
      have hl : (ps ++ fillL i).length = ps.length + i := by simp [fillL_len]
      have t6 : (a : Int).tmod 6 = ((a % 6 : Nat) : Int) := rfl
      by_cases hlt : ps.length + i < 77 + a % 6
      · have g0 : decide (((ps ++ fillL i).length : Int) < 77 + ((a % 6 : Nat) : Int)) = true := dT (by omega)
        have hs : (ps ++ fillL (i + 1)).map Dat.row = (ps ++ fillL i).map Dat.row ++ [[.int .i64 (1000000 + 2 * (i : Int)), .int .i64 0, .int .i64 0, .int .i64 0, .bool false, .bool false, .bool true, .str [119]]] := by rw [fillL_succ]; simp [Dat.row, fillD]
        have hsl : (ps ++ fillL (i + 1)).length = (ps ++ fillL i).length + 1 := by simp [fillL_len]; omega
        obtain ⟨K, hK⟩ : ∃ K, K = ps ++ fillL i := ⟨_, rfl⟩
        rw [← hK] at hs hsl g0 hl ⊢
        simp only [t6, g0, List.length_map, q_32, n32_q, q_64, q_128, q_129, q_131, q_n1, q_n2, q_n5, nS2, Nat.add_assoc, go_sem]
        repeat refine sd2 ?_
        refine ⟨⟨i + 1, 10000 * (i + 1) + 448⟩, ⟨by simp only []; omega, by simp only []; omega, by simp only []; omega, by simp only []; omega⟩, by simp only []; omega, ?_⟩
        refine Sub.o hF2 ?_
        simp only [hs]
        simp [subH, Tx.look, hsl, q_n1]
      · have g0 : decide (((ps ++ fillL i).length : Int) < 77 + ((a % 6 : Nat) : Int)) = false := dF (by omega)
        have e : 77 + a % 6 - ps.length = i := by omega
        have hb : (bendG 7 a n d ⟨out, inn, ps, num, seen, asked⟩) = ⟨out, inn, ps ++ fillL i, num, seen, asked⟩ := by unfold bendG; simp only [e]
        rw [hb]
        obtain ⟨K, hK⟩ : ∃ K, K = ps ++ fillL i := ⟨_, rfl⟩
        rw [← hK] at g0 hl ⊢
        simp only [t6, g0, n32_q, n64_q, Nat.add_assoc, go_sem]
        repeat refine sd2 ?_
        exact PostF.rs (v0 := .agg [.sl ⟨L + 1, 128⟩ 0 out.length, .sl ⟨L + 1, 129⟩ 0 inn.length, .sl ⟨L + 1, q⟩ 0 K.length, .int .i64 num, .int .i64 seen, .sl ⟨L + 1, 131⟩ 0 asked.length] ) (.inr rfl) (hw := by simp [Wk, WkL, Tx.look, List.take_of_length_le, q_32, q_64, q_128, q_129, q_131])
  · have f0 : (((8 : Nat) : Int) == 0) = false := rfl
    have f1 : (((8 : Nat) : Int) == 1) = false := rfl
    have f2 : (((8 : Nat) : Int) == 2) = false := rfl
    have f3 : (((8 : Nat) : Int) == 3) = false := rfl
    have f4 : (((8 : Nat) : Int) == 4) = false := rfl
    have f5 : (((8 : Nat) : Int) == 5) = false := rfl
    have f6 : (((8 : Nat) : Int) == 6) = false := rfl
    have f7 : (((8 : Nat) : Int) == 7) = false := rfl
    have f8 : (((8 : Nat) : Int) == 8) = true := rfl
    by_cases hz : ps.length = 0
    · have g0 : decide ((0 : Int) < (ps.length : Int)) = false := dF (by omega)
      have e : ps = [] := List.length_eq_zero_iff.1 hz
      simp only [t0, f0, f1, f2, f3, f4, f5, f6, f7, f8, g0, Nat.add_zero, go_sem]
      repeat refine sd2 ?_
      exact PostF.rs (v0 := .agg [.sl ⟨L + 1, 128⟩ 0 out.length, .sl ⟨L + 1, 129⟩ 0 inn.length, .sl ⟨L + 1, 130⟩ 0 ps.length, .int .i64 num, .int .i64 seen, .sl ⟨L + 1, 131⟩ 0 asked.length] ) (.inr rfl) (hw := by simp [Wk, WkL, Tx.look, List.take_of_length_le, bendG, e])
    · have g0 : decide ((0 : Int) < (ps.length : Int)) = true := dT (by omega)
      have hm := Nat.mod_lt a (show 0 < ps.length by omega)
      have t1 : (a : Int).tmod (ps.length : Int) = ((a % ps.length : Nat) : Int) := rfl
      have r1 := rowD hm
      have hb : (bendG 8 a n d ⟨out, inn, ps, num, seen, asked⟩) = ⟨out, inn, ps ++ [ps[a % ps.length]], num, seen, asked⟩ := by unfold bendG; simp only [List.drop_eq_getElem_cons hm, List.take_succ_cons, List.take_zero]
      rw [hb]
      obtain ⟨y, hy⟩ : ∃ y, y = ps[a % ps.length] := ⟨_, rfl⟩
      rw [← hy] at r1 ⊢
      simp only [t0, f0, f1, f2, f3, f4, f5, f6, f7, f8, g0, t1, r1, Dat.row, Int.toNat_natCast, List.length_map, nm_beq, Nat.add_zero, go_sem]
      repeat refine sd2 ?_
      refine ⟨okDyn_num (fun x => x.i) (by kernel_rfl), ?_⟩
      exact PostF.rs (v0 := .agg [.sl ⟨L + 1, 128⟩ 0 out.length, .sl ⟨L + 1, 129⟩ 0 inn.length, .sl ⟨L + 1, 1476⟩ 0 (ps.length + 1), .int .i64 num, .int .i64 seen, .sl ⟨L + 1, 131⟩ 0 asked.length] ) (.inr rfl) (hw := by simp [Wk, WkL, Tx.look, List.take_of_length_le, Dat.row])
  · have f0 : (((9 : Nat) : Int) == 0) = false := rfl
    have f1 : (((9 : Nat) : Int) == 1) = false := rfl
    have f2 : (((9 : Nat) : Int) == 2) = false := rfl
    have f3 : (((9 : Nat) : Int) == 3) = false := rfl
    have f4 : (((9 : Nat) : Int) == 4) = false := rfl
    have f5 : (((9 : Nat) : Int) == 5) = false := rfl
    have f6 : (((9 : Nat) : Int) == 6) = false := rfl
    have f7 : (((9 : Nat) : Int) == 7) = false := rfl
    have f8 : (((9 : Nat) : Int) == 8) = false := rfl
    by_cases hz : out.length = 0
    · have g0 : decide ((0 : Int) < (out.length : Int)) = false := dF (by omega)
      have e : out = [] := List.length_eq_zero_iff.1 hz
      simp only [t0, f0, f1, f2, f3, f4, f5, f6, f7, f8, g0, Nat.add_zero, go_sem]
      repeat refine sd2 ?_
      exact PostF.rs (v0 := .agg [.sl ⟨L + 1, 128⟩ 0 out.length, .sl ⟨L + 1, 129⟩ 0 inn.length, .sl ⟨L + 1, 130⟩ 0 ps.length, .int .i64 num, .int .i64 seen, .sl ⟨L + 1, 131⟩ 0 asked.length] ) (.inr rfl) (hw := by simp [Wk, WkL, Tx.look, List.take_of_length_le, bendG, e])
    · have g0 : decide ((0 : Int) < (out.length : Int)) = true := dT (by omega)
      have hm := Nat.mod_lt a (show 0 < out.length by omega)
      have t1 : (a : Int).tmod (out.length : Int) = ((a % out.length : Nat) : Int) := rfl
      simp only [t0, f0, f1, f2, f3, f4, f5, f6, f7, f8, g0, t1, Int.toNat_natCast, List.length_map, Nat.add_zero, go_sem]
      repeat refine sd2 ?_
      refine ⟨okDyn_num (fun x => x.i) (by kernel_rfl), ?_⟩
      exact PostF.rs (v0 := .agg [.sl ⟨L + 1, 128⟩ 0 (a % out.length - 0), .sl ⟨L + 1, 129⟩ 0 inn.length, .sl ⟨L + 1, 130⟩ 0 ps.length, .int .i64 num, .int .i64 seen, .sl ⟨L + 1, 131⟩ 0 asked.length] ) (.inr rfl) (hw := by simp [Wk, WkL, Tx.look, List.take_of_length_le, bendG, Nat.le_of_lt hm])
structure Bd where
 w : Nat
 a : Nat
 n : Int
 d : Dat
structure Bd.ok (b : Bd) : Prop where
 w : b.w < 256
 a : b.a < 256
 d : b.d.pl.length ≤ 9223372036854775807
def Bd.row (b : Bd) : List PV := [.int .u8 b.w, .int .u8 b.a, .int .i64 b.n, .int .i64 b.d.tsn, .int .i64 b.d.st, .int .i64 b.d.sq, .int .i64 b.d.pr, .bool b.d.fi, .bool b.d.la, .bool b.d.lo, .str b.d.pl]
def Bd.of (b : Bd) (s : StX) : StX := bendG (b.w % 10) b.a b.n b.d s
theorem Bd.le {b : Bd} {s : StX} {k : Nat} (h : s.Le k) : (b.of s).Le (k + 100) := bendG_le h _ _ _ _
theorem bendOf_ok {F : SF} {L nx : Nat} (b : Bd) (hb : b.ok) (s : StX) (hs : s.Le 100000) : Con Tryz.prog 41 [.agg b.row, s.v] F L nx nx (b.of s).v [] [] := bend_ok b.w b.a hb.w hb.a b.n b.d hb.d s hs
structure Df where
 o : Nat
 i : Nat
 f : Nat
 a : Int
 b : Int
 ws : List Wd
 ks : List Nat
structure Df.ok (d : Df) : Prop where
 o : d.o < 256
 i : d.i < 256
 f : d.f < 4294967296
 a1 : 0 ≤ d.a
 a2 : d.a < 65536
 b1 : 0 ≤ d.b
 b2 : d.b < 65536
 ws : ∀ w ∈ d.ws, w.ok
 wl : d.ws.length ≤ 9223372036854775807
 ks : ∀ k ∈ d.ks, k < 256
 kl : d.ks.length ≤ 9223372036854775807
def Df.row (d : Df) : List PV := [.int .u8 d.o, .int .u8 d.i, .int .u32 d.f, .int .u16 d.a, .int .u16 d.b, .fs 4 (d.ws.map Wd.row), .fs 1 (d.ks.map oU)]
def Df.str (d : Df) : StX := ⟨startO d.o d.a d.b, dstrI d.i d.f d.b d.ws d.ks, dstrP d.i d.f d.b d.ws d.ks, 0, -1, []⟩
theorem Df.str_ok {F : SF} {L nx : Nat} (d : Df) (h : d.ok) : Con Tryz.prog 40 [.agg d.row] F L nx nx d.str.v [] [] :=
 dstreams_ok d.o d.i d.f h.f d.a d.b h.o h.i h.a1 h.a2 h.b1 h.b2 d.ws h.ws h.wl d.ks h.ks h.kl
theorem Df.str_le {d : Df} (h : d.ok) : d.str.Le 80 := by
 obtain ⟨s1, _⟩ := startO_ok d.o h.a1 h.a2 h.b1 h.b2
 obtain ⟨p1, _, _, p4⟩ := dstr_ok d.i d.f h.b1 h.b2 d.ws d.ks
 refine ⟨?_, ?_, p1.len, ?_⟩
 ·show (startO d.o d.a d.b).length ≤ 80; omega
 ·show (dstrI d.i d.f d.b d.ws d.ks).length ≤ 80; omega
 ·show ([] : List Int).length ≤ 80; simp
def StX.cells (s : StX) : List PV := [.fs 1 (s.out.map eI), .fs 1 (s.inn.map eI), .fs 8 (s.ps.map Dat.row), .int .i64 s.num, .int .i64 s.seen, .fs 1 (s.asked.map eI)]
theorem StX.v_eq (s : StX) : s.v = .agg s.cells := rfl
def stG (d : Df) (b c : Bd) (k : Nat) : StX := if k = 0 then d.str else if k = 1 then b.of d.str else c.of (b.of d.str)
theorem stG_le {d : Df} (h : d.ok) (b c : Bd) (k : Nat) : (stG d b c k).Le 280 := by
 have h0 := Df.str_le h
 have h1 := Bd.le (b := b) h0
 have h2 := Bd.le (b := c) h1
 unfold stG
 split
 ·exact ⟨by have := h0.o; omega, by have := h0.i; omega, by have := h0.p; omega, by have := h0.a; omega⟩
 ·split
  ·exact ⟨by have := h1.o; omega, by have := h1.i; omega, by have := h1.p; omega, by have := h1.a; omega⟩
  ·exact ⟨h2.o, h2.i, h2.p, h2.a⟩
def stA (d : Df) (b c : Bd) : List PV := (stG d b c 0).cells ++ (stG d b c 1).cells ++ (stG d b c 2).cells
theorem stA_at (d : Df) (b c : Bd) {k : Nat} (hk : k < 3) : ((stA d b c).drop (k * 6)).take 6 = (stG d b c k).cells := by
 rcases (show k = 0 ∨ k = 1 ∨ k = 2 by omega) with rfl | rfl | rfl <;> rfl
theorem states_ok {F : SF} {L nx : Nat} (d : Df) (hd : d.ok) (b c : Bd) (hb : b.ok) (hc : c.ok) :
  Con Tryz.prog 11 [.agg d.row, .agg b.row, .agg c.row] F L nx nx (.agg (stA d b c)) [] [] := by
 have hle := Df.str_le hd
 have hst := fun F L nx => Df.str_ok (F := F) (L := L) (nx := nx) d hd
 obtain ⟨s, hs⟩ : ∃ s, s = d.str := ⟨_, rfl⟩
 have hA : stA d b c = s.cells ++ (b.of s).cells ++ (c.of (b.of s)).cells := by rw [hs]; rfl
 rw [hA]
 rw [← hs] at hst hle
 have hl1 := Bd.le (b := b) hle
 obtain ⟨s1, hs1⟩ : ∃ x, x = b.of s := ⟨_, rfl⟩
 have hb1 := fun F L nx => bendOf_ok (F := F) (L := L) (nx := nx) b hb s ⟨by have := hle.o; omega, by have := hle.i; omega, by have := hle.p; omega, by have := hle.a; omega⟩
 rw [← hs1] at hl1 hb1 ⊢
 obtain ⟨s2, hs2⟩ : ∃ x, x = c.of s1 := ⟨_, rfl⟩
 have hb2 := fun F L nx => bendOf_ok (F := F) (L := L) (nx := nx) c hc s1 ⟨by have := hl1.o; omega, by have := hl1.i; omega, by have := hl1.p; omega, by have := hl1.a; omega⟩
 rw [← hs2] at hb2 ⊢
 simp only [StX.v_eq, StX.cells, Df.row, Bd.row] at hst hb1 hb2
 refine bdy Tryz.f11 ?_
 intro F3 hF1 hF2
 simp only [Tryz.f11, cx, Df.row, Bd.row, StX.cells, go_sem, meths]
 refine CallVC.same (hst _ _ _) ?_
 simp only [go_sem]
 repeat refine sd2 ?_
 refine CallVC.same (hb1 _ _ _) ?_
 simp only [go_sem]
 repeat refine sd2 ?_
 refine CallVC.same (hb1 _ _ _) ?_
 simp only [go_sem]
 repeat refine sd2 ?_
 refine CallVC.same (hb2 _ _ _) ?_
 simp only [go_sem]
 repeat refine sd2 ?_
 refine ⟨okDyn_num (fun x => x.i) (by kernel_rfl), ?_⟩
 repeat refine sd2 ?_
 exact PostF.rs (v0 := .agg [.fs 1 (s.out.map eI), .fs 1 (s.inn.map eI), .fs 8 (s.ps.map Dat.row), .int .i64 s.num, .int .i64 s.seen, .fs 1 (s.asked.map eI), .fs 1 (s1.out.map eI), .fs 1 (s1.inn.map eI), .fs 8 (s1.ps.map Dat.row), .int .i64 s1.num, .int .i64 s1.seen, .fs 1 (s1.asked.map eI), .fs 1 (s2.out.map eI), .fs 1 (s2.inn.map eI), .fs 8 (s2.ps.map Dat.row), .int .i64 s2.num, .int .i64 s2.seen, .fs 1 (s2.asked.map eI)]) (.inr rfl)
end Go.Proofs.YtfhhbkehlfipgaaGreat
end
section
namespace Go.Proofs.YtfhhbkehlfipgaaGreat
open Go.ChangeShapes Go.WideShapes Go.ChangeAt Go.RowKit Go.Tx
theorem ownK : ownKnob Tryz.prog.godebug = none := by kernel_rfl
theorem laidOut : laidOutB Tryz.prog = true := by kernel_rfl
set_option maxRecDepth 100000
def isStr : Option TypeDesc → Bool
 | some (.struct _) => true
 | _ => false
theorem und_struct {x : Option TypeDesc} (h : isStr x = true) : ∃ fs, x = some (.struct fs) := by
 unfold isStr at h
 split at h
 ·exact ⟨_, rfl⟩
 ·cases h
theorem undDraft : ∃ fs, Tryz.prog.underlying 30 = some (.struct fs) := und_struct (by kernel_rfl)
theorem undBend : ∃ fs, Tryz.prog.underlying 34 = some (.struct fs) := und_struct (by kernel_rfl)
theorem undData : ∃ fs, Tryz.prog.underlying 32 = some (.struct fs) := und_struct (by kernel_rfl)
theorem undU8 : Tryz.prog.underlying 5 = some (.int .u8) := by kernel_rfl
theorem undBool : Tryz.prog.underlying 4 = some .bool := by kernel_rfl
theorem wf_u8 {n : Int} (h : (Lit.int .u8 n).wf = true) : ∃ k : Nat, n = k ∧ k < 256 := by
 have : 0 ≤ n ∧ n ≤ 255 := by simpa [Lit.wf, IntKind.min, IntKind.max, IntKind.signed, IntKind.bits] using h
 exact ⟨n.toNat, by omega, by omega⟩
theorem wf_u16 {n : Int} (h : (Lit.int .u16 n).wf = true) : ∃ k : Nat, n = k ∧ k < 65536 := by
 have : 0 ≤ n ∧ n ≤ 65535 := by simpa [Lit.wf, IntKind.min, IntKind.max, IntKind.signed, IntKind.bits] using h
 exact ⟨n.toNat, by omega, by omega⟩
theorem wf_u32 {n : Int} (h : (Lit.int .u32 n).wf = true) : ∃ k : Nat, n = k ∧ k < 4294967296 := by
 have : 0 ≤ n ∧ n ≤ 4294967295 := by simpa [Lit.wf, IntKind.min, IntKind.max, IntKind.signed, IntKind.bits] using h
 exact ⟨n.toNat, by omega, by omega⟩
theorem shpWords {n : Nat} {xs : List PV} (h : Shp tys (n + 2) 36 xs) : ∃ w : Wd, xs = w.row ∧ w.ok := by
 have h := Shp.struct g36 h
 simp only [List.foldr] at h
 obtain ⟨_, _, rfl, h1, _, _, rfl, h2, _, _, rfl, h3, _, _, rfl, h4, rfl⟩ := h
 obtain ⟨_, rfl, w1⟩ := Shp.int g5 h1
 obtain ⟨_, rfl, w2⟩ := Shp.int g5 h2
 obtain ⟨_, rfl, w3⟩ := Shp.int g25 h3
 obtain ⟨b, rfl⟩ := Shp.bool g4 h4
 obtain ⟨a1, rfl, b1⟩ := wf_u8 w1
 obtain ⟨a2, rfl, b2⟩ := wf_u8 w2
 obtain ⟨a3, rfl, b3⟩ := wf_u16 w3
 exact ⟨⟨a1, a2, a3, b⟩, rfl, b1, b2, b3⟩
theorem shpSeqs {n : Nat} {xs : List PV} (h : Shp tys (n + 2) 26 xs) : ∃ (a b : Nat), xs = [.int .u16 a, .int .u16 b] ∧ a < 65536 ∧ b < 65536 := by
 have h := Shp.array g26 h
 simp only [List.foldr, List.range, List.range.loop] at h
 obtain ⟨_, _, rfl, h1, _, _, rfl, h2, rfl⟩ := h
 obtain ⟨_, rfl, w1⟩ := Shp.int g25 h1
 obtain ⟨_, rfl, w2⟩ := Shp.int g25 h2
 obtain ⟨a1, rfl, b1⟩ := wf_u16 w1
 obtain ⟨a2, rfl, b2⟩ := wf_u16 w2
 exact ⟨a1, a2, rfl, b1, b2⟩
theorem words_of {n : Nat} : ∀ (rs : List (List PV)), (∀ r ∈ rs, Shp tys (n + 2) 36 r) → ∃ ws : List Wd, rs = ws.map Wd.row ∧ ∀ w ∈ ws, w.ok
 | [], _ => ⟨[], rfl, by simp⟩
 | r :: l, h => by
  obtain ⟨ws, e, hw⟩ := words_of l (fun x hx => h x (by simp [hx]))
  obtain ⟨w, rfl, h1⟩ := shpWords (h r (by simp))
  refine ⟨w :: ws, by rw [e]; rfl, fun w' hw' => ?_⟩
  rcases List.mem_cons.1 hw' with rfl | hw'
  ·exact h1
  ·exact hw w' hw'
theorem order_of {n : Nat} : ∀ (rs : List (List PV)), (∀ r ∈ rs, Shp tys (n + 1) 5 r) → ∃ ks : List Nat, rs = ks.map oU ∧ ∀ k ∈ ks, k < 256
 | [], _ => ⟨[], rfl, by simp⟩
 | r :: l, h => by
  obtain ⟨ks, e, hk⟩ := order_of l (fun x hx => h x (by simp [hx]))
  obtain ⟨m, rfl, w⟩ := Shp.int g5 (h r (by simp))
  obtain ⟨k, rfl, hk'⟩ := wf_u8 w
  refine ⟨k :: ks, by rw [e]; rfl, fun x hx => ?_⟩
  rcases List.mem_cons.1 hx with rfl | hx
  ·exact hk'
  ·exact hk x hx
theorem shpDraft {n : Nat} {xs : List PV} (h : Shp tys (n + 4) 30 xs) : ∃ d : Df, xs = d.row ∧ d.ok := by
 have h := Shp.struct g30 h
 simp only [List.foldr] at h
 obtain ⟨_, _, rfl, h1, _, _, rfl, h2, _, _, rfl, h3, _, _, rfl, h4, _, _, rfl, h5, _, _, rfl, h6, rfl⟩ := h
 obtain ⟨_, rfl, w1⟩ := Shp.int g5 h1
 obtain ⟨_, rfl, w2⟩ := Shp.int g5 h2
 obtain ⟨f, rfl, w3⟩ := Shp.int g24 h3
 obtain ⟨a, b, rfl, ba, bb⟩ := shpSeqs h4
 obtain ⟨wd, ws, rfl, l5, e5, s5⟩ := Shp.slice g27 h5
 obtain ⟨wd2, rs, rfl, l6, e6, s6⟩ := Shp.slice g28 h6
 rw [g36] at e5
 rw [g5] at e6
 simp only [Option.map_some, Option.some.injEq] at e5 e6
 subst e5; subst e6
 obtain ⟨W, rfl, hW⟩ := words_of ws s5
 obtain ⟨K, rfl, hK⟩ := order_of rs s6
 obtain ⟨a1, rfl, b1⟩ := wf_u8 w1
 obtain ⟨a2, rfl, b2⟩ := wf_u8 w2
 obtain ⟨a3, rfl, b3⟩ := wf_u32 w3
 simp only [List.length_map] at l5 l6
 exact ⟨⟨a1, a2, a3, a, b, W, K⟩, rfl, b1, b2, b3, Int.natCast_nonneg _, by simp only []; omega, Int.natCast_nonneg _, by simp only []; omega, hW, l5, hK, l6⟩
theorem shpData {n : Nat} {xs : List PV} (h : Shp tys (n + 2) 32 xs) : ∃ d : Dat, xs = d.row ∧ d.pl.length ≤ 9223372036854775807 := by
 have h := Shp.struct g32 h
 simp only [List.foldr] at h
 obtain ⟨_, _, rfl, h1, _, _, rfl, h2, _, _, rfl, h3, _, _, rfl, h4, _, _, rfl, h5, _, _, rfl, h6, _, _, rfl, h7, _, _, rfl, h8, rfl⟩ := h
 obtain ⟨a1, rfl, _⟩ := Shp.int g3 h1
 obtain ⟨a2, rfl, _⟩ := Shp.int g3 h2
 obtain ⟨a3, rfl, _⟩ := Shp.int g3 h3
 obtain ⟨a4, rfl, _⟩ := Shp.int g3 h4
 obtain ⟨a5, rfl⟩ := Shp.bool g4 h5
 obtain ⟨a6, rfl⟩ := Shp.bool g4 h6
 obtain ⟨a7, rfl⟩ := Shp.bool g4 h7
 obtain ⟨a8, rfl, hl⟩ := Shp.str g9 h8
 exact ⟨⟨a1, a2, a3, a4, a5, a6, a7, a8⟩, rfl, hl⟩
theorem shpBend {n : Nat} {xs : List PV} (h : Shp tys (n + 3) 34 xs) : ∃ b : Bd, xs = b.row ∧ b.ok := by
 have h := Shp.struct g34 h
 simp only [List.foldr] at h
 obtain ⟨_, _, rfl, h1, _, _, rfl, h2, _, _, rfl, h3, _, _, rfl, h4, rfl⟩ := h
 obtain ⟨_, rfl, w1⟩ := Shp.int g5 h1
 obtain ⟨_, rfl, w2⟩ := Shp.int g5 h2
 obtain ⟨m, rfl, _⟩ := Shp.int g3 h3
 obtain ⟨d, rfl, hd⟩ := shpData h4
 obtain ⟨a1, rfl, b1⟩ := wf_u8 w1
 obtain ⟨a2, rfl, b2⟩ := wf_u8 w2
 exact ⟨⟨a1, a2, m, d⟩, rfl, b1, b2, hd⟩
end Go.Proofs.YtfhhbkehlfipgaaGreat
end
