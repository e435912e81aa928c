/- Lemmas for the walk: R0. -/
import Derived.Test.YtfhhbkehlfipgaaCxD
import Derived.Test.YtfhhbkehlfipgaaTxE
import Derived.Test.YtfhhbkehlfipgaaRows
import Derived.ProofKit
import Derived.OpenShut
section
set_option linter.unusedSimpArgs false
set_option linter.unusedVariables false
set_option linter.unnecessarySimpa false
set_option linter.unusedSectionVars false
/- What comes in, by its type: for the rows of this seat. -/
namespace Go.Proofs.Ytfhhbkehlfipgaa
open Go.ChangeShapes Go.WideShapes Go.ChangeAt Go.RowKit Go.Tx
set_option linter.unusedVariables false
set_option linter.unusedSimpArgs false

theorem ownK : ownKnob Try.prog.godebug = none := by kernel_rfl
theorem laidOut : laidOutB Try.prog = true := by kernel_rfl
theorem undC0 : ∃ fs, Try.prog.underlying 28 = some (.struct fs) := by
  have : (match Try.prog.underlying 28 with | some (.struct _) => true | _ => false) = true := by kernel_rfl
  split at this
  · rename_i fs h; exact ⟨fs, h⟩
  · cases this
theorem undC1 : ∃ fs, Try.prog.underlying 30 = some (.struct fs) := by
  have : (match Try.prog.underlying 30 with | some (.struct _) => true | _ => false) = true := by kernel_rfl
  split at this
  · rename_i fs h; exact ⟨fs, h⟩
  · cases this
theorem und22 : Try.prog.underlying 22 = some (.int .u32) := by kernel_rfl
theorem und23 : Try.prog.underlying 23 = some (.int .u16) := by kernel_rfl
theorem und4 : Try.prog.underlying 4 = some .bool := by kernel_rfl
theorem wf_u8 {n : Int} (h : (Lit.int .u8 n).wf = true) : ∃ k : Nat, n = k ∧ k < 256 := by
  have : 0 ≤ n ∧ n ≤ 255 := by simpa [Lit.wf, IntKind.min, IntKind.max, IntKind.signed, IntKind.bits] using h
  exact ⟨n.toNat, by omega, by omega⟩
theorem wf_u16 {n : Int} (h : (Lit.int .u16 n).wf = true) : ∃ k : Nat, n = k ∧ k < 65536 := by
  have : 0 ≤ n ∧ n ≤ 65535 := by simpa [Lit.wf, IntKind.min, IntKind.max, IntKind.signed, IntKind.bits] using h
  exact ⟨n.toNat, by omega, by omega⟩
theorem shp30 {n : Nat} {xs : List PV} (h : Shp tys (n + 2) 30 xs) : ∃ (st kd sz : Nat) (lo : Bool), xs = [.int .u8 st, .int .u8 kd, .int .u16 sz, .bool lo] ∧ st < 256 ∧ kd < 256 ∧ sz < 65536 := by
  have h := Shp.struct g30 h
  simp only [List.foldr] at h
  obtain ⟨_, _, rfl, h1, _, _, rfl, h2, _, _, rfl, h3, _, _, rfl, h4, rfl⟩ := h
  obtain ⟨_, rfl, w1⟩ := Shp.int g5 h1
  obtain ⟨_, rfl, w2⟩ := Shp.int g5 h2
  obtain ⟨_, rfl, w3⟩ := Shp.int g23 h3
  obtain ⟨b, rfl⟩ := Shp.bool g4 h4
  obtain ⟨a1, rfl, b1⟩ := wf_u8 w1
  obtain ⟨a2, rfl, b2⟩ := wf_u8 w2
  obtain ⟨a3, rfl, b3⟩ := wf_u16 w3
  exact ⟨a1, a2, a3, b, rfl, b1, b2, b3⟩
theorem shp24 {n : Nat} {xs : List PV} (h : Shp tys (n + 2) 24 xs) : ∃ (a b : Nat), xs = [.int .u16 a, .int .u16 b] ∧ a < 65536 ∧ b < 65536 := by
  have h := Shp.array g24 h
  simp only [List.foldr, List.range, List.range.loop] at h
  obtain ⟨_, _, rfl, h1, _, _, rfl, h2, rfl⟩ := h
  obtain ⟨_, rfl, w1⟩ := Shp.int g23 h1
  obtain ⟨_, rfl, w2⟩ := Shp.int g23 h2
  obtain ⟨a1, rfl, b1⟩ := wf_u16 w1
  obtain ⟨a2, rfl, b2⟩ := wf_u16 w2
  exact ⟨a1, a2, rfl, b1, b2⟩
theorem shp28 {n : Nat} {xs : List PV} (h : Shp tys (n + 4) 28 xs) : ∃ (o i : Nat) (f : Int) (a b : Nat) (w r : PV), xs = [.int .u8 o, .int .u8 i, .int .u32 f, .int .u16 a, .int .u16 b, w, r] ∧ o < 256 ∧ i < 256 ∧ a < 65536 ∧ b < 65536 := by
  have h := Shp.struct g28 h
  simp only [List.foldr] at h
  obtain ⟨_, _, rfl, h1, _, _, rfl, h2, _, _, rfl, h3, _, _, rfl, h4, _, _, rfl, h5, _, _, rfl, h6, rfl⟩ := h
  obtain ⟨_, rfl, w1⟩ := Shp.int g5 h1
  obtain ⟨_, rfl, w2⟩ := Shp.int g5 h2
  obtain ⟨f, rfl, w3⟩ := Shp.int g22 h3
  obtain ⟨a, b, rfl, ba, bb⟩ := shp24 h4
  obtain ⟨_, ws, rfl, _, _, _⟩ := Shp.slice g25 h5
  obtain ⟨_, rs, rfl, _, _, _⟩ := Shp.slice g26 h6
  obtain ⟨a1, rfl, b1⟩ := wf_u8 w1
  obtain ⟨a2, rfl, b2⟩ := wf_u8 w2
  exact ⟨a1, a2, f, a, b, _, _, rfl, b1, b2, ba, bb⟩

end Go.Proofs.Ytfhhbkehlfipgaa
end
