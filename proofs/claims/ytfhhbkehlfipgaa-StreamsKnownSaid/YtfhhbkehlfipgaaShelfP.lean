/- Lemmas for the walk: YtfhhbkehlfipgaaShelf. -/
import Derived.Shelf.Strings.Repeat
import Derived.Test.YtfhhbkehlfipgaaProg
set_option linter.all false
section
namespace Go.Proofs
open Go.Shelf
def Try.lays105_ren : Go.Shelf.Ren := ⟨fun | 105 => 36 | 212 => 72 | 99 => 73 | 165 => 74 | 166 => 75 | 170 => 76 | 169 => 77 | 263 => 97 | 264 => 98 | 206 => 99 | 240 => 100 | 241 => 101 | 276 => 102 | 277 => 103 | n => n, fun | 9 => 9 | 3 => 3 | 4 => 4 | 20 => 20 | 0 => 0 | 46 => 141 | 109 => 142 | 5 => 5 | 72 => 147 | 76 => 151 | 51 => 22 | 146 => 172 | 53 => 174 | 148 => 175 | 70 => 145 | 37 => 26 | 75 => 150 | 127 => 177 | 164 => 188 | 80 => 154 | n => n, fun | n => n⟩
theorem Try.lays105 : Go.Proofs.Lays.n105 Try.prog Try.lays105_ren := {
 mixed := by kernel_rfl
 f99 := Try.func73.trans (congrArg some (by kernel_rfl))
 f105 := Try.func36.trans (congrArg some (by kernel_rfl))
 f165 := Try.func74.trans (congrArg some (by kernel_rfl))
 f166 := Try.func75.trans (congrArg some (by kernel_rfl))
 f169 := Try.func77.trans (congrArg some (by kernel_rfl))
 f170 := Try.func76.trans (congrArg some (by kernel_rfl))
 f206 := Try.func99.trans (congrArg some (by kernel_rfl))
 f212 := Try.func72.trans (congrArg some (by kernel_rfl))
 f240 := Try.func100.trans (congrArg some (by kernel_rfl))
 f241 := Try.func101.trans (congrArg some (by kernel_rfl))
 f263 := Try.func97.trans (congrArg some (by kernel_rfl))
 f264 := Try.func98.trans (congrArg some (by kernel_rfl))
 f276 := Try.func102.trans (congrArg some (by kernel_rfl))
 f277 := Try.func103.trans (congrArg some (by kernel_rfl))
 t0 := Try.underlying0
 a0 := Try.isAgg0
 z0 := Try.sizeOf0
 v0 := Try.zeroValue0
 t3 := Try.underlying3
 a3 := Try.isAgg3
 z3 := Try.sizeOf3
 v3 := Try.zeroValue3
 t4 := Try.underlying4
 a4 := Try.isAgg4
 z4 := Try.sizeOf4
 v4 := Try.zeroValue4
 t5 := Try.underlying5
 a5 := Try.isAgg5
 z5 := Try.sizeOf5
 v5 := Try.zeroValue5
 t9 := Try.underlying9
 a9 := Try.isAgg9
 z9 := Try.sizeOf9
 v9 := Try.zeroValue9
 t20 := Try.underlying20
 a20 := Try.isAgg20
 z20 := Try.sizeOf20
 v20 := Try.zeroValue20
 t37 := Try.underlying26
 a37 := Try.isAgg26
 z37 := Try.sizeOf26
 v37 := Try.zeroValue26
 t46 := Try.underlying141
 a46 := Try.isAgg141
 z46 := Try.sizeOf141
 v46 := Try.zeroValue141
 t51 := Try.underlying22
 a51 := Try.isAgg22
 z51 := Try.sizeOf22
 v51 := Try.zeroValue22
 t53 := Try.underlying174
 a53 := Try.isAgg174
 z53 := Try.sizeOf174
 v53 := Try.zeroValue174
 t70 := Try.underlying145
 a70 := Try.isAgg145
 z70 := Try.sizeOf145
 v70 := Try.zeroValue145
 t72 := Try.underlying147
 a72 := Try.isAgg147
 z72 := Try.sizeOf147
 v72 := Try.zeroValue147
 t75 := Try.underlying150
 a75 := Try.isAgg150
 z75 := Try.sizeOf150
 v75 := Try.zeroValue150
 t76 := Try.underlying151
 a76 := Try.isAgg151
 z76 := Try.sizeOf151
 v76 := Try.zeroValue151
 t109 := Try.underlying142
 a109 := Try.isAgg142
 z109 := Try.sizeOf142
 v109 := Try.zeroValue142
 t127 := Try.underlying177
 a127 := Try.isAgg177
 z127 := Try.sizeOf177
 v127 := Try.zeroValue177
 t146 := Try.underlying172
 a146 := Try.isAgg172
 z146 := Try.sizeOf172
 v146 := Try.zeroValue172
 t148 := Try.underlying175
 a148 := Try.isAgg175
 z148 := Try.sizeOf175
 v148 := Try.zeroValue175
 t164 := Try.underlying188
 a164 := Try.isAgg188
 z164 := Try.sizeOf188
 v164 := Try.zeroValue188 }
theorem Try.Builder_Extra_105 : Builder.Extra Try.prog Try.lays105_ren := {
 sizeBuilder := by kernel_rfl
 liesBuilder := by kernel_rfl
 t5 := Try.underlying5
 a5 := Try.isAgg5
 z5 := Try.sizeOf5
 v5 := Try.zeroValue5
 infoByte := by kernel_rfl
 cellsByte := by kernel_rfl
 sizeByte := by kernel_rfl
 neB5 := by decide }
open Go.RowKit Go.Lib in
theorem Try.strings_Repeat (s : ByteArray) (c : Nat) (w : World) (hc : c ≤ 9223372036854775807) (hlen : s.size * c ≤ 140737488355328) :
  Calls Try.prog 36 #[.string s, .int .i64 c] w fun e w' => e = .returned (.string ⟨(Lib.repeatL s.data.toList c).toArray⟩) ∧ Below w.heap.size w w' := Any.strings_Repeat Try.lays105 Try.Builder_Extra_105 s c w hc hlen
end Go.Proofs
end
