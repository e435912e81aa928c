/- Lemmas for the walk: GK109. -/
import Derived.Test.YtifhjhbfhdcahaaGreatP21
set_option linter.all false
section
namespace Go.Proofs.YtifhjhbfhdcahaaGreat
open Go.Tx
theorem pk_sm {p : Pkx} (h : p.ok = true) : p.sm := by
 unfold Pkx.ok Pkx.hd at h
 simp only [Bool.and_eq_true, decide_eq_true_eq, List.all_eq_true] at h
 refine ⟨by omega, fun c hc => ?_⟩
 have := h.1.2 c hc
 unfold Ckx.ok at this; simp only [Bool.and_eq_true, decide_eq_true_eq] at this; omega
theorem CallVC.gen0 {P : Program} {f : FuncId} {args args2 : List PV} {F : SF} {L nx top : Nat} {K : PV → List (Nm × SBlk) → List Nm → Nat → Prop} {v : PV} {upd : List (Nm × SBlk)} {rd : List Nm} (hw : WkL F args args2) (h0 : wkNL args args2 = []) (hc : Con P f args2 F L nx top v upd rd) (hk : K v upd rd top) : CallVC P f args F L nx K :=
 CallVC.gen hw (by rw [h0]; exact hc) (by rw [h0]; exact hk)
end Go.Proofs.YtifhjhbfhdcahaaGreat
end
