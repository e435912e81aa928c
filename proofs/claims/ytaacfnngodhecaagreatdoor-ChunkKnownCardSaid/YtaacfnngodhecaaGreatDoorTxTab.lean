/- Lemmas for the walk: YtaacfnngodhecaaGreatDoorTxT. -/
import Derived.Test.YtaacfnngodhecaaGreatDoorProg
import Derived.Test.YtaacfnngodhecaaGreatDoorP10
import Derived.KernelRfl
set_option linter.all false
section
namespace Go.Proofs.YtaacfnngodhecaaGreatDoor
open Go.Tx
def TysAll (P : Program) : Tys → Prop
 | [] => True
 | (t, i) :: l => (∃ z, TOk P t i z) ∧ TysAll P l
theorem TysAll.ok {P : Program} : ∀ {T : Tys}, TysAll P T → T.Ok P
 | [], _, t, i, h => by cases h
 | (u, j) :: l, h, t, i, hg => by
  simp only [Tys.get] at hg
  split at hg
  ·rename_i he
   injection hg with hg; subst hg
   have := eq_of_beq he; subst this
   exact h.1
  ·exact TysAll.ok h.2 t i hg
def tys : Tys := [
 (3, ⟨.int .i64, [.int .i64 0], 1, 8, false, []⟩),
 (4, ⟨.bool, [.bool false], 1, 1, false, []⟩),
 (5, ⟨.int .u8, [.int .u8 0], 1, 1, false, []⟩),
 (9, ⟨.str, [.str []], 1, 16, false, []⟩),
 (20, ⟨.iface, [.nilI], 1, 16, false, []⟩),
 (21, ⟨.int .i32, [.int .i32 0], 1, 4, false, []⟩),
 (22, ⟨.slice 34, [.nilS], 1, 24, false, []⟩),
 (24, ⟨.struct [(0, 3), (1, 3), (2, 3), (3, 22)], [.int .i64 0, .int .i64 0, .int .i64 0, .nilS], 4, 48, false, []⟩),
 (25, ⟨.int .u16, [.int .u16 0], 1, 2, false, []⟩),
 (26, ⟨.int .u32, [.int .u32 0], 1, 4, false, []⟩),
 (27, ⟨.slice 65, [.nilS], 1, 24, false, []⟩),
 (29, ⟨.struct [(0, 25), (1, 25), (2, 26), (3, 27)], [.int .u16 0, .int .u16 0, .int .u32 0, .nilS], 4, 32, false, []⟩),
 (31, ⟨.struct [(0, 25), (1, 5), (2, 9)], [.int .u16 0, .int .u8 0, .str []], 3, 24, true, []⟩),
 (34, ⟨.struct [(0, 3), (1, 3), (2, 9)], [.int .i64 0, .int .i64 0, .str []], 3, 32, true, []⟩),
 (36, ⟨.slice 5, [.nilS], 1, 24, false, []⟩),
 (37, ⟨.array 3 24, [.int .i64 0, .int .i64 0, .int .i64 0, .nilS, .int .i64 0, .int .i64 0, .int .i64 0, .nilS, .int .i64 0, .int .i64 0, .int .i64 0, .nilS], 12, 144, false, []⟩),
 (38, ⟨.int .i64, [.int .i64 0], 1, 8, false, []⟩),
 (44, ⟨.func, [.nilF], 1, 8, false, []⟩),
 (45, ⟨.slice 9, [.nilS], 1, 24, false, []⟩),
 (51, ⟨.struct [(0, 3), (1, 3), (2, 3), (3, 3), (4, 4), (5, 4), (6, 4), (7, 9)], [.int .i64 0, .int .i64 0, .int .i64 0, .int .i64 0, .bool false, .bool false, .bool false, .str []], 8, 56, true, []⟩),
 (52, ⟨.slice 118, [.nilS], 1, 24, false, []⟩),
 (53, ⟨.slice 3, [.nilS], 1, 24, false, []⟩),
 (55, ⟨.struct [(0, 3), (1, 3), (2, 52), (3, 53)], [.int .i64 0, .int .i64 0, .nilS, .nilS], 4, 64, false, []⟩),
 (57, ⟨.struct [(0, 3), (1, 3), (2, 3), (3, 3), (4, 3), (5, 9)], [.int .i64 0, .int .i64 0, .int .i64 0, .int .i64 0, .int .i64 0, .str []], 6, 56, true, []⟩),
 (59, ⟨.struct [(0, 3), (1, 52)], [.int .i64 0, .nilS], 2, 32, false, []⟩),
 (61, ⟨.struct [(0, 3), (1, 3), (2, 3), (3, 3), (4, 53)], [.int .i64 0, .int .i64 0, .int .i64 0, .int .i64 0, .nilS], 5, 56, false, []⟩),
 (62, ⟨.array 4 26, [.int .u32 0, .int .u32 0, .int .u32 0, .int .u32 0], 4, 16, false, []⟩),
 (63, ⟨.slice 151, [.nilS], 1, 24, false, []⟩),
 (65, ⟨.struct [(0, 5), (1, 62), (5, 63), (6, 9)], [.int .u8 0, .int .u32 0, .int .u32 0, .int .u32 0, .int .u32 0, .nilS, .str []], 7, 64, false, []⟩),
 (67, ⟨.array 2 51, [.int .i64 0, .int .i64 0, .int .i64 0, .int .i64 0, .bool false, .bool false, .bool false, .str [], .int .i64 0, .int .i64 0, .int .i64 0, .int .i64 0, .bool false, .bool false, .bool false, .str []], 16, 112, false, []⟩),
 (69, ⟨.func, [.nilF], 1, 8, false, []⟩),
 (74, ⟨.array 2 55, [.int .i64 0, .int .i64 0, .nilS, .nilS, .int .i64 0, .int .i64 0, .nilS, .nilS], 8, 128, false, []⟩),
 (75, ⟨.func, [.nilF], 1, 8, false, []⟩),
 (79, ⟨.array 3 57, [.int .i64 0, .int .i64 0, .int .i64 0, .int .i64 0, .int .i64 0, .str [], .int .i64 0, .int .i64 0, .int .i64 0, .int .i64 0, .int .i64 0, .str [], .int .i64 0, .int .i64 0, .int .i64 0, .int .i64 0, .int .i64 0, .str []], 18, 168, false, []⟩),
 (80, ⟨.func, [.nilF], 1, 8, false, []⟩),
 (84, ⟨.array 2 59, [.int .i64 0, .nilS, .int .i64 0, .nilS], 4, 64, false, []⟩),
 (85, ⟨.func, [.nilF], 1, 8, false, []⟩),
 (89, ⟨.array 2 61, [.int .i64 0, .int .i64 0, .int .i64 0, .int .i64 0, .nilS, .int .i64 0, .int .i64 0, .int .i64 0, .int .i64 0, .nilS], 10, 112, false, []⟩),
 (90, ⟨.func, [.nilF], 1, 8, false, []⟩),
 (96, ⟨.array 6 3, [.int .i64 0, .int .i64 0, .int .i64 0, .int .i64 0, .int .i64 0, .int .i64 0], 6, 48, false, []⟩),
 (97, ⟨.func, [.nilF], 1, 8, false, []⟩),
 (117, ⟨.array 6 24, [.int .i64 0, .int .i64 0, .int .i64 0, .nilS, .int .i64 0, .int .i64 0, .int .i64 0, .nilS, .int .i64 0, .int .i64 0, .int .i64 0, .nilS, .int .i64 0, .int .i64 0, .int .i64 0, .nilS, .int .i64 0, .int .i64 0, .int .i64 0, .nilS, .int .i64 0, .int .i64 0, .int .i64 0, .nilS], 24, 288, false, []⟩),
 (118, ⟨.array 2 3, [.int .i64 0, .int .i64 0], 2, 16, false, []⟩),
 (119, ⟨.func, [.nilF], 1, 8, false, []⟩),
 (126, ⟨.ptr 128, [.nilP], 1, 8, false, []⟩),
 (128, ⟨.struct [(0, 126), (1, 36)], [.nilP, .nilS], 2, 32, false, [(0, 128)]⟩),
 (130, ⟨.struct [(0, 128)], [.nilP, .nilS], 2, 32, false, [(0, 128)]⟩),
 (135, ⟨.iface, [.nilI], 1, 16, false, []⟩),
 (140, ⟨.ptr 173, [.nilP], 1, 8, false, []⟩),
 (143, ⟨.func, [.nilF], 1, 8, false, []⟩),
 (146, ⟨.func, [.nilF], 1, 8, false, []⟩),
 (147, ⟨.func, [.nilF], 1, 8, false, []⟩),
 (150, ⟨.struct [(0, 51)], [.int .i64 0, .int .i64 0, .int .i64 0, .int .i64 0, .bool false, .bool false, .bool false, .str []], 8, 56, true, []⟩),
 (151, ⟨.array 2 5, [.int .u8 0, .int .u8 0], 2, 2, false, []⟩),
 (153, ⟨.struct [(0, 55)], [.int .i64 0, .int .i64 0, .nilS, .nilS], 4, 64, false, []⟩),
 (155, ⟨.struct [(0, 57)], [.int .i64 0, .int .i64 0, .int .i64 0, .int .i64 0, .int .i64 0, .str []], 6, 56, true, []⟩),
 (157, ⟨.struct [(0, 59)], [.int .i64 0, .nilS], 2, 32, false, []⟩),
 (159, ⟨.struct [(0, 61)], [.int .i64 0, .int .i64 0, .int .i64 0, .int .i64 0, .nilS], 5, 56, false, []⟩),
 (160, ⟨.array 8 3, [.int .i64 0, .int .i64 0, .int .i64 0, .int .i64 0, .int .i64 0, .int .i64 0, .int .i64 0, .int .i64 0], 8, 64, false, []⟩),
 (162, ⟨.func, [.nilF], 1, 8, false, []⟩),
 (164, ⟨.func, [.nilF], 1, 8, false, []⟩),
 (168, ⟨.func, [.nilF], 1, 8, false, []⟩),
 (171, ⟨.struct [(0, 9), (1, 3)], [.str [], .int .i64 0], 2, 24, true, []⟩),
 (173, ⟨.struct [(0, 171)], [.str [], .int .i64 0], 2, 24, true, []⟩),
 (174, ⟨.func, [.nilF], 1, 8, false, []⟩),
 (175, ⟨.func, [.nilF], 1, 8, false, []⟩),
 (179, ⟨.int .u64, [.int .u64 0], 1, 8, false, []⟩),
 (186, ⟨.ptr 130, [.nilP], 1, 8, false, []⟩),
 (190, ⟨.ptr 5, [.nilP], 1, 8, false, []⟩),
 (192, ⟨.struct [], [], 0, 0, true, []⟩),
 (200, ⟨.iface, [.nilI], 1, 16, false, []⟩),
 (212, ⟨.int .u64, [.int .u64 0], 1, 8, false, []⟩),
 (215, ⟨.array 16 5, [.int .u8 0, .int .u8 0, .int .u8 0, .int .u8 0, .int .u8 0, .int .u8 0, .int .u8 0, .int .u8 0, .int .u8 0, .int .u8 0, .int .u8 0, .int .u8 0, .int .u8 0, .int .u8 0, .int .u8 0, .int .u8 0], 16, 16, false, []⟩),
 (217, ⟨.slice 4, [.nilS], 1, 24, false, []⟩),
 (221, ⟨.array 32 4, [.bool false, .bool false, .bool false, .bool false, .bool false, .bool false, .bool false, .bool false, .bool false, .bool false, .bool false, .bool false, .bool false, .bool false, .bool false, .bool false, .bool false, .bool false, .bool false, .bool false, .bool false, .bool false, .bool false, .bool false, .bool false, .bool false, .bool false, .bool false, .bool false, .bool false, .bool false, .bool false], 32, 32, false, []⟩),
 (223, ⟨.uptr, [.nilP], 1, 8, false, []⟩),
 (235, ⟨.ptr 231, [.nilP], 1, 8, false, []⟩),
 (243, ⟨.struct [(0, 171)], [.str [], .int .i64 0], 2, 24, true, []⟩),
 (252, ⟨.array 3 26, [.int .u32 0, .int .u32 0, .int .u32 0], 3, 12, false, []⟩),
 (255, ⟨.struct [(0, 5), (1, 5)], [.int .u8 0, .int .u8 0], 2, 2, true, []⟩),
 (256, ⟨.array 16 255, [.int .u8 0, .int .u8 0, .int .u8 0, .int .u8 0, .int .u8 0, .int .u8 0, .int .u8 0, .int .u8 0, .int .u8 0, .int .u8 0, .int .u8 0, .int .u8 0, .int .u8 0, .int .u8 0, .int .u8 0, .int .u8 0, .int .u8 0, .int .u8 0, .int .u8 0, .int .u8 0, .int .u8 0, .int .u8 0, .int .u8 0, .int .u8 0, .int .u8 0, .int .u8 0, .int .u8 0, .int .u8 0, .int .u8 0, .int .u8 0, .int .u8 0, .int .u8 0], 32, 32, false, []⟩),
 (272, ⟨.array 3 4, [.bool false, .bool false, .bool false], 3, 3, false, []⟩)]
theorem g3 : Tys.get tys 3 = some ⟨.int .i64, [.int .i64 0], 1, 8, false, []⟩ := rfl
theorem g4 : Tys.get tys 4 = some ⟨.bool, [.bool false], 1, 1, false, []⟩ := rfl
theorem g5 : Tys.get tys 5 = some ⟨.int .u8, [.int .u8 0], 1, 1, false, []⟩ := rfl
theorem g9 : Tys.get tys 9 = some ⟨.str, [.str []], 1, 16, false, []⟩ := rfl
theorem g20 : Tys.get tys 20 = some ⟨.iface, [.nilI], 1, 16, false, []⟩ := rfl
theorem g21 : Tys.get tys 21 = some ⟨.int .i32, [.int .i32 0], 1, 4, false, []⟩ := rfl
theorem g22 : Tys.get tys 22 = some ⟨.slice 34, [.nilS], 1, 24, false, []⟩ := rfl
theorem g24 : Tys.get tys 24 = some ⟨.struct [(0, 3), (1, 3), (2, 3), (3, 22)], [.int .i64 0, .int .i64 0, .int .i64 0, .nilS], 4, 48, false, []⟩ := rfl
theorem g25 : Tys.get tys 25 = some ⟨.int .u16, [.int .u16 0], 1, 2, false, []⟩ := rfl
theorem g26 : Tys.get tys 26 = some ⟨.int .u32, [.int .u32 0], 1, 4, false, []⟩ := rfl
theorem g27 : Tys.get tys 27 = some ⟨.slice 65, [.nilS], 1, 24, false, []⟩ := rfl
theorem g29 : Tys.get tys 29 = some ⟨.struct [(0, 25), (1, 25), (2, 26), (3, 27)], [.int .u16 0, .int .u16 0, .int .u32 0, .nilS], 4, 32, false, []⟩ := rfl
theorem g31 : Tys.get tys 31 = some ⟨.struct [(0, 25), (1, 5), (2, 9)], [.int .u16 0, .int .u8 0, .str []], 3, 24, true, []⟩ := rfl
theorem g34 : Tys.get tys 34 = some ⟨.struct [(0, 3), (1, 3), (2, 9)], [.int .i64 0, .int .i64 0, .str []], 3, 32, true, []⟩ := rfl
theorem g36 : Tys.get tys 36 = some ⟨.slice 5, [.nilS], 1, 24, false, []⟩ := rfl
theorem g37 : Tys.get tys 37 = some ⟨.array 3 24, [.int .i64 0, .int .i64 0, .int .i64 0, .nilS, .int .i64 0, .int .i64 0, .int .i64 0, .nilS, .int .i64 0, .int .i64 0, .int .i64 0, .nilS], 12, 144, false, []⟩ := rfl
theorem g38 : Tys.get tys 38 = some ⟨.int .i64, [.int .i64 0], 1, 8, false, []⟩ := rfl
theorem g44 : Tys.get tys 44 = some ⟨.func, [.nilF], 1, 8, false, []⟩ := rfl
theorem g45 : Tys.get tys 45 = some ⟨.slice 9, [.nilS], 1, 24, false, []⟩ := rfl
theorem g51 : Tys.get tys 51 = some ⟨.struct [(0, 3), (1, 3), (2, 3), (3, 3), (4, 4), (5, 4), (6, 4), (7, 9)], [.int .i64 0, .int .i64 0, .int .i64 0, .int .i64 0, .bool false, .bool false, .bool false, .str []], 8, 56, true, []⟩ := rfl
theorem g52 : Tys.get tys 52 = some ⟨.slice 118, [.nilS], 1, 24, false, []⟩ := rfl
theorem g53 : Tys.get tys 53 = some ⟨.slice 3, [.nilS], 1, 24, false, []⟩ := rfl
theorem g55 : Tys.get tys 55 = some ⟨.struct [(0, 3), (1, 3), (2, 52), (3, 53)], [.int .i64 0, .int .i64 0, .nilS, .nilS], 4, 64, false, []⟩ := rfl
theorem g57 : Tys.get tys 57 = some ⟨.struct [(0, 3), (1, 3), (2, 3), (3, 3), (4, 3), (5, 9)], [.int .i64 0, .int .i64 0, .int .i64 0, .int .i64 0, .int .i64 0, .str []], 6, 56, true, []⟩ := rfl
theorem g59 : Tys.get tys 59 = some ⟨.struct [(0, 3), (1, 52)], [.int .i64 0, .nilS], 2, 32, false, []⟩ := rfl
theorem g61 : Tys.get tys 61 = some ⟨.struct [(0, 3), (1, 3), (2, 3), (3, 3), (4, 53)], [.int .i64 0, .int .i64 0, .int .i64 0, .int .i64 0, .nilS], 5, 56, false, []⟩ := rfl
theorem g62 : Tys.get tys 62 = some ⟨.array 4 26, [.int .u32 0, .int .u32 0, .int .u32 0, .int .u32 0], 4, 16, false, []⟩ := rfl
theorem g63 : Tys.get tys 63 = some ⟨.slice 151, [.nilS], 1, 24, false, []⟩ := rfl
theorem g65 : Tys.get tys 65 = some ⟨.struct [(0, 5), (1, 62), (5, 63), (6, 9)], [.int .u8 0, .int .u32 0, .int .u32 0, .int .u32 0, .int .u32 0, .nilS, .str []], 7, 64, false, []⟩ := rfl
theorem g67 : Tys.get tys 67 = some ⟨.array 2 51, [.int .i64 0, .int .i64 0, .int .i64 0, .int .i64 0, .bool false, .bool false, .bool false, .str [], .int .i64 0, .int .i64 0, .int .i64 0, .int .i64 0, .bool false, .bool false, .bool false, .str []], 16, 112, false, []⟩ := rfl
theorem g69 : Tys.get tys 69 = some ⟨.func, [.nilF], 1, 8, false, []⟩ := rfl
theorem g74 : Tys.get tys 74 = some ⟨.array 2 55, [.int .i64 0, .int .i64 0, .nilS, .nilS, .int .i64 0, .int .i64 0, .nilS, .nilS], 8, 128, false, []⟩ := rfl
theorem g75 : Tys.get tys 75 = some ⟨.func, [.nilF], 1, 8, false, []⟩ := rfl
theorem g79 : Tys.get tys 79 = some ⟨.array 3 57, [.int .i64 0, .int .i64 0, .int .i64 0, .int .i64 0, .int .i64 0, .str [], .int .i64 0, .int .i64 0, .int .i64 0, .int .i64 0, .int .i64 0, .str [], .int .i64 0, .int .i64 0, .int .i64 0, .int .i64 0, .int .i64 0, .str []], 18, 168, false, []⟩ := rfl
theorem g80 : Tys.get tys 80 = some ⟨.func, [.nilF], 1, 8, false, []⟩ := rfl
theorem g84 : Tys.get tys 84 = some ⟨.array 2 59, [.int .i64 0, .nilS, .int .i64 0, .nilS], 4, 64, false, []⟩ := rfl
theorem g85 : Tys.get tys 85 = some ⟨.func, [.nilF], 1, 8, false, []⟩ := rfl
theorem g89 : Tys.get tys 89 = some ⟨.array 2 61, [.int .i64 0, .int .i64 0, .int .i64 0, .int .i64 0, .nilS, .int .i64 0, .int .i64 0, .int .i64 0, .int .i64 0, .nilS], 10, 112, false, []⟩ := rfl
theorem g90 : Tys.get tys 90 = some ⟨.func, [.nilF], 1, 8, false, []⟩ := rfl
theorem g96 : Tys.get tys 96 = some ⟨.array 6 3, [.int .i64 0, .int .i64 0, .int .i64 0, .int .i64 0, .int .i64 0, .int .i64 0], 6, 48, false, []⟩ := rfl
theorem g97 : Tys.get tys 97 = some ⟨.func, [.nilF], 1, 8, false, []⟩ := rfl
theorem g117 : Tys.get tys 117 = some ⟨.array 6 24, [.int .i64 0, .int .i64 0, .int .i64 0, .nilS, .int .i64 0, .int .i64 0, .int .i64 0, .nilS, .int .i64 0, .int .i64 0, .int .i64 0, .nilS, .int .i64 0, .int .i64 0, .int .i64 0, .nilS, .int .i64 0, .int .i64 0, .int .i64 0, .nilS, .int .i64 0, .int .i64 0, .int .i64 0, .nilS], 24, 288, false, []⟩ := rfl
theorem g118 : Tys.get tys 118 = some ⟨.array 2 3, [.int .i64 0, .int .i64 0], 2, 16, false, []⟩ := rfl
theorem g119 : Tys.get tys 119 = some ⟨.func, [.nilF], 1, 8, false, []⟩ := rfl
theorem g126 : Tys.get tys 126 = some ⟨.ptr 128, [.nilP], 1, 8, false, []⟩ := rfl
theorem g128 : Tys.get tys 128 = some ⟨.struct [(0, 126), (1, 36)], [.nilP, .nilS], 2, 32, false, [(0, 128)]⟩ := rfl
theorem g130 : Tys.get tys 130 = some ⟨.struct [(0, 128)], [.nilP, .nilS], 2, 32, false, [(0, 128)]⟩ := rfl
theorem g135 : Tys.get tys 135 = some ⟨.iface, [.nilI], 1, 16, false, []⟩ := rfl
theorem g140 : Tys.get tys 140 = some ⟨.ptr 173, [.nilP], 1, 8, false, []⟩ := rfl
theorem g143 : Tys.get tys 143 = some ⟨.func, [.nilF], 1, 8, false, []⟩ := rfl
theorem g146 : Tys.get tys 146 = some ⟨.func, [.nilF], 1, 8, false, []⟩ := rfl
theorem g147 : Tys.get tys 147 = some ⟨.func, [.nilF], 1, 8, false, []⟩ := rfl
theorem g150 : Tys.get tys 150 = some ⟨.struct [(0, 51)], [.int .i64 0, .int .i64 0, .int .i64 0, .int .i64 0, .bool false, .bool false, .bool false, .str []], 8, 56, true, []⟩ := rfl
theorem g151 : Tys.get tys 151 = some ⟨.array 2 5, [.int .u8 0, .int .u8 0], 2, 2, false, []⟩ := rfl
theorem g153 : Tys.get tys 153 = some ⟨.struct [(0, 55)], [.int .i64 0, .int .i64 0, .nilS, .nilS], 4, 64, false, []⟩ := rfl
theorem g155 : Tys.get tys 155 = some ⟨.struct [(0, 57)], [.int .i64 0, .int .i64 0, .int .i64 0, .int .i64 0, .int .i64 0, .str []], 6, 56, true, []⟩ := rfl
theorem g157 : Tys.get tys 157 = some ⟨.struct [(0, 59)], [.int .i64 0, .nilS], 2, 32, false, []⟩ := rfl
theorem g159 : Tys.get tys 159 = some ⟨.struct [(0, 61)], [.int .i64 0, .int .i64 0, .int .i64 0, .int .i64 0, .nilS], 5, 56, false, []⟩ := rfl
theorem g160 : Tys.get tys 160 = some ⟨.array 8 3, [.int .i64 0, .int .i64 0, .int .i64 0, .int .i64 0, .int .i64 0, .int .i64 0, .int .i64 0, .int .i64 0], 8, 64, false, []⟩ := rfl
theorem g162 : Tys.get tys 162 = some ⟨.func, [.nilF], 1, 8, false, []⟩ := rfl
theorem g164 : Tys.get tys 164 = some ⟨.func, [.nilF], 1, 8, false, []⟩ := rfl
theorem g168 : Tys.get tys 168 = some ⟨.func, [.nilF], 1, 8, false, []⟩ := rfl
theorem g171 : Tys.get tys 171 = some ⟨.struct [(0, 9), (1, 3)], [.str [], .int .i64 0], 2, 24, true, []⟩ := rfl
theorem g173 : Tys.get tys 173 = some ⟨.struct [(0, 171)], [.str [], .int .i64 0], 2, 24, true, []⟩ := rfl
theorem g174 : Tys.get tys 174 = some ⟨.func, [.nilF], 1, 8, false, []⟩ := rfl
theorem g175 : Tys.get tys 175 = some ⟨.func, [.nilF], 1, 8, false, []⟩ := rfl
theorem g179 : Tys.get tys 179 = some ⟨.int .u64, [.int .u64 0], 1, 8, false, []⟩ := rfl
theorem g186 : Tys.get tys 186 = some ⟨.ptr 130, [.nilP], 1, 8, false, []⟩ := rfl
theorem g190 : Tys.get tys 190 = some ⟨.ptr 5, [.nilP], 1, 8, false, []⟩ := rfl
theorem g192 : Tys.get tys 192 = some ⟨.struct [], [], 0, 0, true, []⟩ := rfl
theorem g200 : Tys.get tys 200 = some ⟨.iface, [.nilI], 1, 16, false, []⟩ := rfl
theorem g212 : Tys.get tys 212 = some ⟨.int .u64, [.int .u64 0], 1, 8, false, []⟩ := rfl
theorem g215 : Tys.get tys 215 = some ⟨.array 16 5, [.int .u8 0, .int .u8 0, .int .u8 0, .int .u8 0, .int .u8 0, .int .u8 0, .int .u8 0, .int .u8 0, .int .u8 0, .int .u8 0, .int .u8 0, .int .u8 0, .int .u8 0, .int .u8 0, .int .u8 0, .int .u8 0], 16, 16, false, []⟩ := rfl
theorem g217 : Tys.get tys 217 = some ⟨.slice 4, [.nilS], 1, 24, false, []⟩ := rfl
theorem g221 : Tys.get tys 221 = some ⟨.array 32 4, [.bool false, .bool false, .bool false, .bool false, .bool false, .bool false, .bool false, .bool false, .bool false, .bool false, .bool false, .bool false, .bool false, .bool false, .bool false, .bool false, .bool false, .bool false, .bool false, .bool false, .bool false, .bool false, .bool false, .bool false, .bool false, .bool false, .bool false, .bool false, .bool false, .bool false, .bool false, .bool false], 32, 32, false, []⟩ := rfl
theorem g223 : Tys.get tys 223 = some ⟨.uptr, [.nilP], 1, 8, false, []⟩ := rfl
theorem g235 : Tys.get tys 235 = some ⟨.ptr 231, [.nilP], 1, 8, false, []⟩ := rfl
theorem g243 : Tys.get tys 243 = some ⟨.struct [(0, 171)], [.str [], .int .i64 0], 2, 24, true, []⟩ := rfl
theorem g252 : Tys.get tys 252 = some ⟨.array 3 26, [.int .u32 0, .int .u32 0, .int .u32 0], 3, 12, false, []⟩ := rfl
theorem g255 : Tys.get tys 255 = some ⟨.struct [(0, 5), (1, 5)], [.int .u8 0, .int .u8 0], 2, 2, true, []⟩ := rfl
theorem g256 : Tys.get tys 256 = some ⟨.array 16 255, [.int .u8 0, .int .u8 0, .int .u8 0, .int .u8 0, .int .u8 0, .int .u8 0, .int .u8 0, .int .u8 0, .int .u8 0, .int .u8 0, .int .u8 0, .int .u8 0, .int .u8 0, .int .u8 0, .int .u8 0, .int .u8 0, .int .u8 0, .int .u8 0, .int .u8 0, .int .u8 0, .int .u8 0, .int .u8 0, .int .u8 0, .int .u8 0, .int .u8 0, .int .u8 0, .int .u8 0, .int .u8 0, .int .u8 0, .int .u8 0, .int .u8 0, .int .u8 0], 32, 32, false, []⟩ := rfl
theorem g272 : Tys.get tys 272 = some ⟨.array 3 4, [.bool false, .bool false, .bool false], 3, 3, false, []⟩ := rfl
noncomputable def zvl (P : Program) (t : TypeId) : Value := ((P.info? t).bind (·.zero)).getD (.bool false)
theorem tkA {P : Program} {t : TypeId} {i : TI} (a : (P.underlying t).map Go.Sx.tk = some i.k := by kernel_rfl) (b : (P.info? t).map (fun x => (x.zero, x.size, x.bytes)) = some (some (zvl P t), i.size, i.bytes) := by kernel_rfl)
 (c : Go.Sx.plainL (Go.Sx.cellsOf (zvl P t)) = true := by kernel_rfl) (d : (Go.Sx.cellsOf (zvl P t)).all (·.oneCell') = true := by kernel_rfl) (e : (Go.Sx.cellsOf (zvl P t)).length = i.size := by kernel_rfl)
 (f : i.eq = true → P.stoodInHeld t = false ∧ P.eqGuardType P.depth t = false ∧ (match P.underlying t with | some (.struct fs) => fs.toList.all (fun f => f.name != "_") | _ => false) = true := by first | (intro h; cases h; done) | exact fun _ => ⟨by kernel_rfl, by kernel_rfl, by kernel_rfl⟩)
 (g : (match i.k with | .struct _ => true | .array _ _ => true | _ => false) = (match zvl P t with | .agg _ => true | _ => false) := by kernel_rfl) (k : ofVl (Go.Sx.cellsOf (zvl P t)) = some i.zero := by kernel_rfl)
 (l : ∀ x ∈ i.lies, rowAt P (sameLayout P P.depth · x.2) P.depth t 1 x.1 1 = true := by first | (intro x hx; cases hx; done) | (intro x hx; simp only [List.mem_cons, List.not_mem_nil, or_false] at hx; subst hx; kernel_rfl)) : ∃ z, TOk P t i z := ⟨zvl P t, ⟨⟨a, b, c, d, e, f, g⟩, k, l⟩⟩
theorem tysOk : Tys.Ok Tryz.prog tys := TysAll.ok ⟨tkA, tkA, tkA, tkA, tkA, tkA, tkA, tkA, tkA, tkA, tkA, tkA, tkA, tkA, tkA, tkA, tkA, tkA, tkA, tkA, tkA, tkA, tkA, tkA, tkA, tkA, tkA, tkA, tkA, tkA, tkA, tkA, tkA, tkA, tkA, tkA, tkA, tkA, tkA, tkA, tkA, tkA, tkA, tkA, tkA, tkA, tkA, tkA, tkA, tkA, tkA, tkA, tkA, tkA, tkA, tkA, tkA, tkA, tkA, tkA, tkA, tkA, tkA, tkA, tkA, tkA, tkA, tkA, tkA, tkA, tkA, tkA, tkA, tkA, tkA, tkA, tkA, tkA, tkA, tkA, tkA, tkA, trivial⟩
def FieldsIn (T : Tys) : Tys → Bool
 | [] => true
 | (_, i) :: l => (match i.k with | .struct fs => fs.all (fun f => (T.get f.2).isSome) | _ => true) && FieldsIn T l
theorem FieldsIn.ok {T : Tys} : ∀ {L : Tys}, FieldsIn T L = true → ∀ t i fs, L.get t = some i → i.k = .struct fs → ∀ f ∈ fs, ∃ fi, T.get f.2 = some fi
 | [], _, t, i, fs, h => by cases h
 | (u, j) :: l, h, t, i, fs, hg => by
  simp only [FieldsIn, Bool.and_eq_true] at h
  simp only [Tys.get] at hg
  split at hg
  ·injection hg with hg; subst hg
   intro hk f hf
   have h1 := h.1
   rw [hk] at h1
   simp only [List.all_eq_true] at h1
   exact Option.isSome_iff_exists.1 (h1 f hf)
  ·exact FieldsIn.ok h.2 t i fs hg
theorem fieldsOk : AllFields tys := FieldsIn.ok (by kernel_rfl)
theorem mixedOk : Tryz.prog.follows .mixedOrders = true := by kernel_rfl
def meths : Meths := [(150, "tannoy/chunk.valid", 195), (150, "tannoy/chunk.write", 196), (153, "tannoy/chunk.valid", 197), (153, "tannoy/chunk.write", 198), (155, "tannoy/chunk.valid", 199), (155, "tannoy/chunk.write", 200), (157, "tannoy/chunk.valid", 201), (157, "tannoy/chunk.write", 202), (159, "tannoy/chunk.valid", 203), (159, "tannoy/chunk.write", 204)]
theorem methsOk : meths.Ok Tryz.prog := by
 intro t n f h v w
 simp only [meths, Meths.get] at h
 iterate 10
  split at h
  ·rename_i hc; obtain ⟨e1, e2⟩ := hc; simp only [Option.some.injEq] at h; rw [← e1, ← e2, ← h]; kernel_rfl
 cases h
noncomputable def cx (L : Nat) : Cx := ⟨Tryz.prog, tys, meths, false, L, none, [], [], false, [], fun _ => False⟩
theorem cxOk (L : Nat) : (cx L).Ok := ⟨tysOk, fieldsOk, mixedOk, methsOk⟩
@[simp] abbrev oz (n : Nat) : List (Option PV) := List.replicate n none
attribute [go_sem] oz g3 g4 g5 g9 g20 g21 g22 g24 g25 g26 g27 g29 g31 g34 g36 g37 g38 g44 g45 g51 g52 g53 g55 g57 g59 g61 g62 g63 g65 g67 g69 g74 g75 g79 g80 g84 g85 g89 g90 g96 g97 g117 g118 g119 g126 g128 g130 g135 g140 g143 g146 g147 g150 g151 g153 g155 g157 g159 g160 g162 g164 g168 g171 g173 g174 g175 g179 g186 g190 g192 g200 g212 g215 g217 g221 g223 g235 g243 g252 g255 g256 g272
theorem bdy (fn : Func) {f : FuncId} {args : List PV} {F : SF} {L nx : Nat} {v : PV} {upd : List (Nm × SBlk)} {rd : List Nm} (H : ∀ F3 : SF, (∀ n ∈ rd, F3 n = F n) → (∀ n : Nm, L < n.l → F3 n = none) → vcC (cx (L + 1)) F3 (fn.body.getD .skip) ⟨initT args fn.ntmps, [], 0⟩ (PostF (cx (L + 1)).T F3 fn.results.toList L v upd)) (hrd : ∀ n ∈ rd, n.l ≤ L := by simp) (hf : Tryz.prog.funcs[f]? = some fn := by kernel_rfl) (hb : fn.body = some (fn.body.getD .skip) := by rfl) (hnum : (fn.name == "runtime.NumGoroutine") = false := by kernel_rfl) : Con Tryz.prog f args F L nx nx v upd rd := Con.body (cxOk (L + 1)) rfl rfl hf hb hnum rfl hrd H
theorem bdyN (fn : Func) {f : FuncId} {args : List PV} {F : SF} {L nx k : Nat} {v : PV} {upd : List (Nm × SBlk)} {rd : List Nm} (H : ∀ F3 : SF, (∀ n ∈ rd, F3 n = F n) → (∀ n : Nm, L < n.l → F3 n = none) → vcC (cx (L + 1)) F3 (fn.body.getD .skip) ⟨initT args fn.ntmps, [], 0⟩ (PostS (cx (L + 1)).T F3 fn.results.toList L nx v upd k)) (hrd : ∀ n ∈ rd, n.l ≤ L := by simp) (hf : Tryz.prog.funcs[f]? = some fn := by kernel_rfl) (hb : fn.body = some (fn.body.getD .skip) := by rfl) (hnum : (fn.name == "runtime.NumGoroutine") = false := by kernel_rfl) : Con Tryz.prog f args F L nx (nx + k) v upd rd := Con.bodyN (cxOk (L + 1)) rfl rfl hf hb hnum rfl hrd H
end Go.Proofs.YtaacfnngodhecaaGreatDoor
end
