/- Lemmas for the walk: YtifhjhbfhdcahaaGreatTxT. -/
import Derived.Test.YtifhjhbfhdcahaaGreatProg
import Derived.Test.YtifhjhbfhdcahaaGreatP10
import Derived.KernelRfl
set_option linter.all false
section
namespace Go.Proofs.YtifhjhbfhdcahaaGreat
open Go.Tx
def TysAll(P:Program):Tys→Prop
 | []=>True
 |(t,i)::l=>(∃z,TOk P t i z)∧TysAll P l
theorem TysAll.ok{P:Program}:∀{T:Tys},TysAll P T→T.Ok P
 | [],_,t,i,h=>by cases h
 |(u,j)::l,h,t,i,hg=>by
  simp only[Tys.get]at hg;split at hg
  ·rename_i he;injection hg with hg;subst hg;have:=eq_of_beq he;subst this;exact h.1
  ·exact TysAll.ok h.2 t i hg
def tys:Tys:=[
 (3,⟨.int .i64,[.int .i64 0],1,8,false,[]⟩),
 (4,⟨.bool,[.bool false],1,1,false,[]⟩),
 (5,⟨.int .u8,[.int .u8 0],1,1,false,[]⟩),
 (9,⟨.str,[.str []],1,16,false,[]⟩),
 (20,⟨.iface,[.nilI],1,16,false,[]⟩),
 (22,⟨.int .u16,[.int .u16 0],1,2,false,[]⟩),
 (23,⟨.slice 60,[.nilS],1,24,false,[]⟩),
 (26,⟨.struct [(0,3),(1,3),(2,3),(3,3),(4,3),(5,9)],[.int .i64 0,.int .i64 0,.int .i64 0,.int .i64 0,.int .i64 0,.str []],6,56,true,[]⟩),
 (28,⟨.struct [(0,3),(1,3),(2,3),(3,9),(4,26),(10,26),(16,9),(17,3),(18,3),(19,3)],[.int .i64 0,.int .i64 0,.int .i64 0,.str [],.int .i64 0,.int .i64 0,.int .i64 0,.int .i64 0,.int .i64 0,.str [],.int .i64 0,.int .i64 0,.int .i64 0,.int .i64 0,.int .i64 0,.str [],.str [],.int .i64 0,.int .i64 0,.int .i64 0],20,192,true,[]⟩),
 (29,⟨.array 2 28,[.int .i64 0,.int .i64 0,.int .i64 0,.str [],.int .i64 0,.int .i64 0,.int .i64 0,.int .i64 0,.int .i64 0,.str [],.int .i64 0,.int .i64 0,.int .i64 0,.int .i64 0,.int .i64 0,.str [],.str [],.int .i64 0,.int .i64 0,.int .i64 0,.int .i64 0,.int .i64 0,.int .i64 0,.str [],.int .i64 0,.int .i64 0,.int .i64 0,.int .i64 0,.int .i64 0,.str [],.int .i64 0,.int .i64 0,.int .i64 0,.int .i64 0,.int .i64 0,.str [],.str [],.int .i64 0,.int .i64 0,.int .i64 0],40,384,false,[]⟩),
 (30,⟨.slice 38,[.nilS],1,24,false,[]⟩),
 (31,⟨.array 2 30,[.nilS,.nilS],2,48,false,[]⟩),
 (33,⟨.struct [(0,29),(40,31),(42,3)],[.int .i64 0,.int .i64 0,.int .i64 0,.str [],.int .i64 0,.int .i64 0,.int .i64 0,.int .i64 0,.int .i64 0,.str [],.int .i64 0,.int .i64 0,.int .i64 0,.int .i64 0,.int .i64 0,.str [],.str [],.int .i64 0,.int .i64 0,.int .i64 0,.int .i64 0,.int .i64 0,.int .i64 0,.str [],.int .i64 0,.int .i64 0,.int .i64 0,.int .i64 0,.int .i64 0,.str [],.int .i64 0,.int .i64 0,.int .i64 0,.int .i64 0,.int .i64 0,.str [],.str [],.int .i64 0,.int .i64 0,.int .i64 0,.nilS,.nilS,.int .i64 0],43,440,false,[]⟩),
 (36,⟨.slice 73,[.nilS],1,24,false,[]⟩),
 (38,⟨.struct [(0,3),(1,3),(2,3),(3,36)],[.int .i64 0,.int .i64 0,.int .i64 0,.nilS],4,48,false,[]⟩),
 (40,⟨.struct [(0,3),(1,38)],[.int .i64 0,.int .i64 0,.int .i64 0,.int .i64 0,.nilS],5,56,false,[]⟩),
 (43,⟨.array 8 5,[.int .u8 0,.int .u8 0,.int .u8 0,.int .u8 0,.int .u8 0,.int .u8 0,.int .u8 0,.int .u8 0],8,8,false,[]⟩),
 (46,⟨.struct [(0,5),(1,3),(2,9)],[.int .u8 0,.int .i64 0,.str []],3,32,true,[]⟩),
 (47,⟨.int .u32,[.int .u32 0],1,4,false,[]⟩),
 (48,⟨.slice 111,[.nilS],1,24,false,[]⟩),
 (50,⟨.struct [(0,22),(1,22),(2,47),(3,48)],[.int .u16 0,.int .u16 0,.int .u32 0,.nilS],4,32,false,[]⟩),
 (51,⟨.slice 3,[.nilS],1,24,false,[]⟩),
 (53,⟨.struct [(0,51),(1,51)],[.nilS,.nilS],2,48,false,[]⟩),
 (56,⟨.struct [(0,29),(40,31),(42,3)],[.int .i64 0,.int .i64 0,.int .i64 0,.str [],.int .i64 0,.int .i64 0,.int .i64 0,.int .i64 0,.int .i64 0,.str [],.int .i64 0,.int .i64 0,.int .i64 0,.int .i64 0,.int .i64 0,.str [],.str [],.int .i64 0,.int .i64 0,.int .i64 0,.int .i64 0,.int .i64 0,.int .i64 0,.str [],.int .i64 0,.int .i64 0,.int .i64 0,.int .i64 0,.int .i64 0,.str [],.int .i64 0,.int .i64 0,.int .i64 0,.int .i64 0,.int .i64 0,.str [],.str [],.int .i64 0,.int .i64 0,.int .i64 0,.nilS,.nilS,.int .i64 0],43,440,false,[]⟩),
 (60,⟨.struct [(0,5),(1,5),(2,5)],[.int .u8 0,.int .u8 0,.int .u8 0],3,3,true,[]⟩),
 (61,⟨.array 6 40,[.int .i64 0,.int .i64 0,.int .i64 0,.int .i64 0,.nilS,.int .i64 0,.int .i64 0,.int .i64 0,.int .i64 0,.nilS,.int .i64 0,.int .i64 0,.int .i64 0,.int .i64 0,.nilS,.int .i64 0,.int .i64 0,.int .i64 0,.int .i64 0,.nilS,.int .i64 0,.int .i64 0,.int .i64 0,.int .i64 0,.nilS,.int .i64 0,.int .i64 0,.int .i64 0,.int .i64 0,.nilS],30,336,false,[]⟩),
 (65,⟨.array 4 28,[.int .i64 0,.int .i64 0,.int .i64 0,.str [],.int .i64 0,.int .i64 0,.int .i64 0,.int .i64 0,.int .i64 0,.str [],.int .i64 0,.int .i64 0,.int .i64 0,.int .i64 0,.int .i64 0,.str [],.str [],.int .i64 0,.int .i64 0,.int .i64 0,.int .i64 0,.int .i64 0,.int .i64 0,.str [],.int .i64 0,.int .i64 0,.int .i64 0,.int .i64 0,.int .i64 0,.str [],.int .i64 0,.int .i64 0,.int .i64 0,.int .i64 0,.int .i64 0,.str [],.str [],.int .i64 0,.int .i64 0,.int .i64 0,.int .i64 0,.int .i64 0,.int .i64 0,.str [],.int .i64 0,.int .i64 0,.int .i64 0,.int .i64 0,.int .i64 0,.str [],.int .i64 0,.int .i64 0,.int .i64 0,.int .i64 0,.int .i64 0,.str [],.str [],.int .i64 0,.int .i64 0,.int .i64 0,.int .i64 0,.int .i64 0,.int .i64 0,.str [],.int .i64 0,.int .i64 0,.int .i64 0,.int .i64 0,.int .i64 0,.str [],.int .i64 0,.int .i64 0,.int .i64 0,.int .i64 0,.int .i64 0,.str [],.str [],.int .i64 0,.int .i64 0,.int .i64 0],80,768,false,[]⟩),
 (66,⟨.array 3 3,[.int .i64 0,.int .i64 0,.int .i64 0],3,24,false,[]⟩),
 (69,⟨.int .i64,[.int .i64 0],1,8,false,[]⟩),
 (73,⟨.struct [(0,3),(1,3),(2,9)],[.int .i64 0,.int .i64 0,.str []],3,32,true,[]⟩),
 (76,⟨.slice 5,[.nilS],1,24,false,[]⟩),
 (77,⟨.array 2 38,[.int .i64 0,.int .i64 0,.int .i64 0,.nilS,.int .i64 0,.int .i64 0,.int .i64 0,.nilS],8,96,false,[]⟩),
 (81,⟨.func,[.nilF],1,8,false,[]⟩),
 (82,⟨.func,[.nilF],1,8,false,[]⟩),
 (88,⟨.array 10 46,[.int .u8 0,.int .i64 0,.str [],.int .u8 0,.int .i64 0,.str [],.int .u8 0,.int .i64 0,.str [],.int .u8 0,.int .i64 0,.str [],.int .u8 0,.int .i64 0,.str [],.int .u8 0,.int .i64 0,.str [],.int .u8 0,.int .i64 0,.str [],.int .u8 0,.int .i64 0,.str [],.int .u8 0,.int .i64 0,.str [],.int .u8 0,.int .i64 0,.str []],30,320,false,[]⟩),
 (89,⟨.array 5 46,[.int .u8 0,.int .i64 0,.str [],.int .u8 0,.int .i64 0,.str [],.int .u8 0,.int .i64 0,.str [],.int .u8 0,.int .i64 0,.str [],.int .u8 0,.int .i64 0,.str []],15,160,false,[]⟩),
 (92,⟨.array 5 28,[.int .i64 0,.int .i64 0,.int .i64 0,.str [],.int .i64 0,.int .i64 0,.int .i64 0,.int .i64 0,.int .i64 0,.str [],.int .i64 0,.int .i64 0,.int .i64 0,.int .i64 0,.int .i64 0,.str [],.str [],.int .i64 0,.int .i64 0,.int .i64 0,.int .i64 0,.int .i64 0,.int .i64 0,.str [],.int .i64 0,.int .i64 0,.int .i64 0,.int .i64 0,.int .i64 0,.str [],.int .i64 0,.int .i64 0,.int .i64 0,.int .i64 0,.int .i64 0,.str [],.str [],.int .i64 0,.int .i64 0,.int .i64 0,.int .i64 0,.int .i64 0,.int .i64 0,.str [],.int .i64 0,.int .i64 0,.int .i64 0,.int .i64 0,.int .i64 0,.str [],.int .i64 0,.int .i64 0,.int .i64 0,.int .i64 0,.int .i64 0,.str [],.str [],.int .i64 0,.int .i64 0,.int .i64 0,.int .i64 0,.int .i64 0,.int .i64 0,.str [],.int .i64 0,.int .i64 0,.int .i64 0,.int .i64 0,.int .i64 0,.str [],.int .i64 0,.int .i64 0,.int .i64 0,.int .i64 0,.int .i64 0,.str [],.str [],.int .i64 0,.int .i64 0,.int .i64 0,.int .i64 0,.int .i64 0,.int .i64 0,.str [],.int .i64 0,.int .i64 0,.int .i64 0,.int .i64 0,.int .i64 0,.str [],.int .i64 0,.int .i64 0,.int .i64 0,.int .i64 0,.int .i64 0,.str [],.str [],.int .i64 0,.int .i64 0,.int .i64 0],100,960,false,[]⟩),
 (94,⟨.array 2 26,[.int .i64 0,.int .i64 0,.int .i64 0,.int .i64 0,.int .i64 0,.str [],.int .i64 0,.int .i64 0,.int .i64 0,.int .i64 0,.int .i64 0,.str []],12,112,false,[]⟩),
 (100,⟨.array 3 66,[.int .i64 0,.int .i64 0,.int .i64 0,.int .i64 0,.int .i64 0,.int .i64 0,.int .i64 0,.int .i64 0,.int .i64 0],9,72,false,[]⟩),
 (101,⟨.ptr 33,[.nilP],1,8,false,[]⟩),
 (108,⟨.array 4 47,[.int .u32 0,.int .u32 0,.int .u32 0,.int .u32 0],4,16,false,[]⟩),
 (109,⟨.slice 201,[.nilS],1,24,false,[]⟩),
 (111,⟨.struct [(0,5),(1,108),(5,109),(6,9)],[.int .u8 0,.int .u32 0,.int .u32 0,.int .u32 0,.int .u32 0,.nilS,.str []],7,64,false,[]⟩),
 (115,⟨.ptr 178,[.nilP],1,8,false,[]⟩),
 (118,⟨.func,[.nilF],1,8,false,[]⟩),
 (119,⟨.func,[.nilF],1,8,false,[]⟩),
 (121,⟨.ptr 123,[.nilP],1,8,false,[]⟩),
 (123,⟨.struct [(0,28),(20,3),(21,30)],[.int .i64 0,.int .i64 0,.int .i64 0,.str [],.int .i64 0,.int .i64 0,.int .i64 0,.int .i64 0,.int .i64 0,.str [],.int .i64 0,.int .i64 0,.int .i64 0,.int .i64 0,.int .i64 0,.str [],.str [],.int .i64 0,.int .i64 0,.int .i64 0,.int .i64 0,.nilS],22,224,false,[]⟩),
 (124,⟨.func,[.nilF],1,8,false,[]⟩),
 (125,⟨.map 3 124,[.nilM],1,8,false,[]⟩),
 (127,⟨.int .u64,[.int .u64 0],1,8,false,[]⟩),
 (131,⟨.ptr 133,[.nilP],1,8,false,[]⟩),
 (133,⟨.struct [(0,131),(1,76)],[.nilP,.nilS],2,32,false,[(0,133)]⟩),
 (136,⟨.iface,[.nilI],1,16,false,[]⟩),
 (143,⟨.int .u64,[.int .u64 0],1,8,false,[]⟩),
 (155,⟨.struct [(0,3),(1,3),(2,3),(3,3),(4,4),(5,4),(6,4),(7,9)],[.int .i64 0,.int .i64 0,.int .i64 0,.int .i64 0,.bool false,.bool false,.bool false,.str []],8,56,true,[]⟩),
 (158,⟨.slice 200,[.nilS],1,24,false,[]⟩),
 (160,⟨.struct [(0,3),(1,3),(2,158),(3,51)],[.int .i64 0,.int .i64 0,.nilS,.nilS],4,64,false,[]⟩),
 (165,⟨.struct [(0,3),(1,158)],[.int .i64 0,.nilS],2,32,false,[]⟩),
 (169,⟨.struct [(0,3),(1,3),(2,3),(3,3),(4,51)],[.int .i64 0,.int .i64 0,.int .i64 0,.int .i64 0,.nilS],5,56,false,[]⟩),
 (171,⟨.array 8 3,[.int .i64 0,.int .i64 0,.int .i64 0,.int .i64 0,.int .i64 0,.int .i64 0,.int .i64 0,.int .i64 0],8,64,false,[]⟩),
 (176,⟨.struct [(0,9),(1,3)],[.str [],.int .i64 0],2,24,true,[]⟩),
 (178,⟨.struct [(0,176)],[.str [],.int .i64 0],2,24,true,[]⟩),
 (184,⟨.struct [(0,26)],[.int .i64 0,.int .i64 0,.int .i64 0,.int .i64 0,.int .i64 0,.str []],6,56,true,[]⟩),
 (187,⟨.func,[.nilF],1,8,false,[]⟩),
 (189,⟨.map 3 187,[.nilM],1,8,false,[]⟩),
 (195,⟨.ptr 5,[.nilP],1,8,false,[]⟩),
 (200,⟨.array 2 3,[.int .i64 0,.int .i64 0],2,16,false,[]⟩),
 (201,⟨.array 2 5,[.int .u8 0,.int .u8 0],2,2,false,[]⟩),
 (204,⟨.struct [],[],0,0,true,[]⟩),
 (207,⟨.func,[.nilF],1,8,false,[]⟩),
 (211,⟨.iface,[.nilI],1,16,false,[]⟩),
 (213,⟨.struct [(0,133)],[.nilP,.nilS],2,32,false,[(0,133)]⟩),
 (216,⟨.ptr 213,[.nilP],1,8,false,[]⟩),
 (219,⟨.array 8 47,[.int .u32 0,.int .u32 0,.int .u32 0,.int .u32 0,.int .u32 0,.int .u32 0,.int .u32 0,.int .u32 0],8,32,false,[]⟩),
 (220,⟨.array 64 47,[.int .u32 0,.int .u32 0,.int .u32 0,.int .u32 0,.int .u32 0,.int .u32 0,.int .u32 0,.int .u32 0,.int .u32 0,.int .u32 0,.int .u32 0,.int .u32 0,.int .u32 0,.int .u32 0,.int .u32 0,.int .u32 0,.int .u32 0,.int .u32 0,.int .u32 0,.int .u32 0,.int .u32 0,.int .u32 0,.int .u32 0,.int .u32 0,.int .u32 0,.int .u32 0,.int .u32 0,.int .u32 0,.int .u32 0,.int .u32 0,.int .u32 0,.int .u32 0,.int .u32 0,.int .u32 0,.int .u32 0,.int .u32 0,.int .u32 0,.int .u32 0,.int .u32 0,.int .u32 0,.int .u32 0,.int .u32 0,.int .u32 0,.int .u32 0,.int .u32 0,.int .u32 0,.int .u32 0,.int .u32 0,.int .u32 0,.int .u32 0,.int .u32 0,.int .u32 0,.int .u32 0,.int .u32 0,.int .u32 0,.int .u32 0,.int .u32 0,.int .u32 0,.int .u32 0,.int .u32 0,.int .u32 0,.int .u32 0,.int .u32 0,.int .u32 0],64,256,false,[]⟩),
 (222,⟨.struct [(0,219),(8,220)],[.int .u32 0,.int .u32 0,.int .u32 0,.int .u32 0,.int .u32 0,.int .u32 0,.int .u32 0,.int .u32 0,.int .u32 0,.int .u32 0,.int .u32 0,.int .u32 0,.int .u32 0,.int .u32 0,.int .u32 0,.int .u32 0,.int .u32 0,.int .u32 0,.int .u32 0,.int .u32 0,.int .u32 0,.int .u32 0,.int .u32 0,.int .u32 0,.int .u32 0,.int .u32 0,.int .u32 0,.int .u32 0,.int .u32 0,.int .u32 0,.int .u32 0,.int .u32 0,.int .u32 0,.int .u32 0,.int .u32 0,.int .u32 0,.int .u32 0,.int .u32 0,.int .u32 0,.int .u32 0,.int .u32 0,.int .u32 0,.int .u32 0,.int .u32 0,.int .u32 0,.int .u32 0,.int .u32 0,.int .u32 0,.int .u32 0,.int .u32 0,.int .u32 0,.int .u32 0,.int .u32 0,.int .u32 0,.int .u32 0,.int .u32 0,.int .u32 0,.int .u32 0,.int .u32 0,.int .u32 0,.int .u32 0,.int .u32 0,.int .u32 0,.int .u32 0,.int .u32 0,.int .u32 0,.int .u32 0,.int .u32 0,.int .u32 0,.int .u32 0,.int .u32 0,.int .u32 0],72,288,true,[]⟩),
 (226,⟨.uptr,[.nilP],1,8,false,[]⟩),
 (232,⟨.struct [(0,176)],[.str [],.int .i64 0],2,24,true,[]⟩),
 (236,⟨.func,[.nilF],1,8,false,[]⟩),
 (237,⟨.slice 9,[.nilS],1,24,false,[]⟩),
 (243,⟨.func,[.nilF],1,8,false,[]⟩),
 (245,⟨.struct [(0,219),(8,9),(9,3)],[.int .u32 0,.int .u32 0,.int .u32 0,.int .u32 0,.int .u32 0,.int .u32 0,.int .u32 0,.int .u32 0,.str [],.int .i64 0],10,56,true,[]⟩),
 (247,⟨.struct [(0,245)],[.int .u32 0,.int .u32 0,.int .u32 0,.int .u32 0,.int .u32 0,.int .u32 0,.int .u32 0,.int .u32 0,.str [],.int .i64 0],10,56,true,[]⟩),
 (251,⟨.array 32 4,[.bool false,.bool false,.bool false,.bool false,.bool false,.bool false,.bool false,.bool false,.bool false,.bool false,.bool false,.bool false,.bool false,.bool false,.bool false,.bool false,.bool false,.bool false,.bool false,.bool false,.bool false,.bool false,.bool false,.bool false,.bool false,.bool false,.bool false,.bool false,.bool false,.bool false,.bool false,.bool false],32,32,false,[]⟩),
 (259,⟨.ptr 247,[.nilP],1,8,false,[]⟩),
 (261,⟨.func,[.nilF],1,8,false,[]⟩),
 (264,⟨.func,[.nilF],1,8,false,[]⟩)]
theorem g3:Tys.get tys 3=some ⟨.int .i64,[.int .i64 0],1,8,false,[]⟩:=rfl
theorem g4:Tys.get tys 4=some ⟨.bool,[.bool false],1,1,false,[]⟩:=rfl
theorem g5:Tys.get tys 5=some ⟨.int .u8,[.int .u8 0],1,1,false,[]⟩:=rfl
theorem g9:Tys.get tys 9=some ⟨.str,[.str []],1,16,false,[]⟩:=rfl
theorem g20:Tys.get tys 20=some ⟨.iface,[.nilI],1,16,false,[]⟩:=rfl
theorem g22:Tys.get tys 22=some ⟨.int .u16,[.int .u16 0],1,2,false,[]⟩:=rfl
theorem g23:Tys.get tys 23=some ⟨.slice 60,[.nilS],1,24,false,[]⟩:=rfl
theorem g26:Tys.get tys 26=some ⟨.struct [(0,3),(1,3),(2,3),(3,3),(4,3),(5,9)],[.int .i64 0,.int .i64 0,.int .i64 0,.int .i64 0,.int .i64 0,.str []],6,56,true,[]⟩:=rfl
theorem g28:Tys.get tys 28=some ⟨.struct [(0,3),(1,3),(2,3),(3,9),(4,26),(10,26),(16,9),(17,3),(18,3),(19,3)],[.int .i64 0,.int .i64 0,.int .i64 0,.str [],.int .i64 0,.int .i64 0,.int .i64 0,.int .i64 0,.int .i64 0,.str [],.int .i64 0,.int .i64 0,.int .i64 0,.int .i64 0,.int .i64 0,.str [],.str [],.int .i64 0,.int .i64 0,.int .i64 0],20,192,true,[]⟩:=rfl
theorem g29:Tys.get tys 29=some ⟨.array 2 28,[.int .i64 0,.int .i64 0,.int .i64 0,.str [],.int .i64 0,.int .i64 0,.int .i64 0,.int .i64 0,.int .i64 0,.str [],.int .i64 0,.int .i64 0,.int .i64 0,.int .i64 0,.int .i64 0,.str [],.str [],.int .i64 0,.int .i64 0,.int .i64 0,.int .i64 0,.int .i64 0,.int .i64 0,.str [],.int .i64 0,.int .i64 0,.int .i64 0,.int .i64 0,.int .i64 0,.str [],.int .i64 0,.int .i64 0,.int .i64 0,.int .i64 0,.int .i64 0,.str [],.str [],.int .i64 0,.int .i64 0,.int .i64 0],40,384,false,[]⟩:=rfl
theorem g30:Tys.get tys 30=some ⟨.slice 38,[.nilS],1,24,false,[]⟩:=rfl
theorem g31:Tys.get tys 31=some ⟨.array 2 30,[.nilS,.nilS],2,48,false,[]⟩:=rfl
theorem g33:Tys.get tys 33=some ⟨.struct [(0,29),(40,31),(42,3)],[.int .i64 0,.int .i64 0,.int .i64 0,.str [],.int .i64 0,.int .i64 0,.int .i64 0,.int .i64 0,.int .i64 0,.str [],.int .i64 0,.int .i64 0,.int .i64 0,.int .i64 0,.int .i64 0,.str [],.str [],.int .i64 0,.int .i64 0,.int .i64 0,.int .i64 0,.int .i64 0,.int .i64 0,.str [],.int .i64 0,.int .i64 0,.int .i64 0,.int .i64 0,.int .i64 0,.str [],.int .i64 0,.int .i64 0,.int .i64 0,.int .i64 0,.int .i64 0,.str [],.str [],.int .i64 0,.int .i64 0,.int .i64 0,.nilS,.nilS,.int .i64 0],43,440,false,[]⟩:=rfl
theorem g36:Tys.get tys 36=some ⟨.slice 73,[.nilS],1,24,false,[]⟩:=rfl
theorem g38:Tys.get tys 38=some ⟨.struct [(0,3),(1,3),(2,3),(3,36)],[.int .i64 0,.int .i64 0,.int .i64 0,.nilS],4,48,false,[]⟩:=rfl
theorem g40:Tys.get tys 40=some ⟨.struct [(0,3),(1,38)],[.int .i64 0,.int .i64 0,.int .i64 0,.int .i64 0,.nilS],5,56,false,[]⟩:=rfl
theorem g43:Tys.get tys 43=some ⟨.array 8 5,[.int .u8 0,.int .u8 0,.int .u8 0,.int .u8 0,.int .u8 0,.int .u8 0,.int .u8 0,.int .u8 0],8,8,false,[]⟩:=rfl
theorem g46:Tys.get tys 46=some ⟨.struct [(0,5),(1,3),(2,9)],[.int .u8 0,.int .i64 0,.str []],3,32,true,[]⟩:=rfl
theorem g47:Tys.get tys 47=some ⟨.int .u32,[.int .u32 0],1,4,false,[]⟩:=rfl
theorem g48:Tys.get tys 48=some ⟨.slice 111,[.nilS],1,24,false,[]⟩:=rfl
theorem g50:Tys.get tys 50=some ⟨.struct [(0,22),(1,22),(2,47),(3,48)],[.int .u16 0,.int .u16 0,.int .u32 0,.nilS],4,32,false,[]⟩:=rfl
theorem g51:Tys.get tys 51=some ⟨.slice 3,[.nilS],1,24,false,[]⟩:=rfl
theorem g53:Tys.get tys 53=some ⟨.struct [(0,51),(1,51)],[.nilS,.nilS],2,48,false,[]⟩:=rfl
theorem g56:Tys.get tys 56=some ⟨.struct [(0,29),(40,31),(42,3)],[.int .i64 0,.int .i64 0,.int .i64 0,.str [],.int .i64 0,.int .i64 0,.int .i64 0,.int .i64 0,.int .i64 0,.str [],.int .i64 0,.int .i64 0,.int .i64 0,.int .i64 0,.int .i64 0,.str [],.str [],.int .i64 0,.int .i64 0,.int .i64 0,.int .i64 0,.int .i64 0,.int .i64 0,.str [],.int .i64 0,.int .i64 0,.int .i64 0,.int .i64 0,.int .i64 0,.str [],.int .i64 0,.int .i64 0,.int .i64 0,.int .i64 0,.int .i64 0,.str [],.str [],.int .i64 0,.int .i64 0,.int .i64 0,.nilS,.nilS,.int .i64 0],43,440,false,[]⟩:=rfl
theorem g60:Tys.get tys 60=some ⟨.struct [(0,5),(1,5),(2,5)],[.int .u8 0,.int .u8 0,.int .u8 0],3,3,true,[]⟩:=rfl
theorem g61:Tys.get tys 61=some ⟨.array 6 40,[.int .i64 0,.int .i64 0,.int .i64 0,.int .i64 0,.nilS,.int .i64 0,.int .i64 0,.int .i64 0,.int .i64 0,.nilS,.int .i64 0,.int .i64 0,.int .i64 0,.int .i64 0,.nilS,.int .i64 0,.int .i64 0,.int .i64 0,.int .i64 0,.nilS,.int .i64 0,.int .i64 0,.int .i64 0,.int .i64 0,.nilS,.int .i64 0,.int .i64 0,.int .i64 0,.int .i64 0,.nilS],30,336,false,[]⟩:=rfl
theorem g65:Tys.get tys 65=some ⟨.array 4 28,[.int .i64 0,.int .i64 0,.int .i64 0,.str [],.int .i64 0,.int .i64 0,.int .i64 0,.int .i64 0,.int .i64 0,.str [],.int .i64 0,.int .i64 0,.int .i64 0,.int .i64 0,.int .i64 0,.str [],.str [],.int .i64 0,.int .i64 0,.int .i64 0,.int .i64 0,.int .i64 0,.int .i64 0,.str [],.int .i64 0,.int .i64 0,.int .i64 0,.int .i64 0,.int .i64 0,.str [],.int .i64 0,.int .i64 0,.int .i64 0,.int .i64 0,.int .i64 0,.str [],.str [],.int .i64 0,.int .i64 0,.int .i64 0,.int .i64 0,.int .i64 0,.int .i64 0,.str [],.int .i64 0,.int .i64 0,.int .i64 0,.int .i64 0,.int .i64 0,.str [],.int .i64 0,.int .i64 0,.int .i64 0,.int .i64 0,.int .i64 0,.str [],.str [],.int .i64 0,.int .i64 0,.int .i64 0,.int .i64 0,.int .i64 0,.int .i64 0,.str [],.int .i64 0,.int .i64 0,.int .i64 0,.int .i64 0,.int .i64 0,.str [],.int .i64 0,.int .i64 0,.int .i64 0,.int .i64 0,.int .i64 0,.str [],.str [],.int .i64 0,.int .i64 0,.int .i64 0],80,768,false,[]⟩:=rfl
theorem g66:Tys.get tys 66=some ⟨.array 3 3,[.int .i64 0,.int .i64 0,.int .i64 0],3,24,false,[]⟩:=rfl
theorem g69:Tys.get tys 69=some ⟨.int .i64,[.int .i64 0],1,8,false,[]⟩:=rfl
theorem g73:Tys.get tys 73=some ⟨.struct [(0,3),(1,3),(2,9)],[.int .i64 0,.int .i64 0,.str []],3,32,true,[]⟩:=rfl
theorem g76:Tys.get tys 76=some ⟨.slice 5,[.nilS],1,24,false,[]⟩:=rfl
theorem g77:Tys.get tys 77=some ⟨.array 2 38,[.int .i64 0,.int .i64 0,.int .i64 0,.nilS,.int .i64 0,.int .i64 0,.int .i64 0,.nilS],8,96,false,[]⟩:=rfl
theorem g81:Tys.get tys 81=some ⟨.func,[.nilF],1,8,false,[]⟩:=rfl
theorem g82:Tys.get tys 82=some ⟨.func,[.nilF],1,8,false,[]⟩:=rfl
theorem g88:Tys.get tys 88=some ⟨.array 10 46,[.int .u8 0,.int .i64 0,.str [],.int .u8 0,.int .i64 0,.str [],.int .u8 0,.int .i64 0,.str [],.int .u8 0,.int .i64 0,.str [],.int .u8 0,.int .i64 0,.str [],.int .u8 0,.int .i64 0,.str [],.int .u8 0,.int .i64 0,.str [],.int .u8 0,.int .i64 0,.str [],.int .u8 0,.int .i64 0,.str [],.int .u8 0,.int .i64 0,.str []],30,320,false,[]⟩:=rfl
theorem g89:Tys.get tys 89=some ⟨.array 5 46,[.int .u8 0,.int .i64 0,.str [],.int .u8 0,.int .i64 0,.str [],.int .u8 0,.int .i64 0,.str [],.int .u8 0,.int .i64 0,.str [],.int .u8 0,.int .i64 0,.str []],15,160,false,[]⟩:=rfl
theorem g92:Tys.get tys 92=some ⟨.array 5 28,[.int .i64 0,.int .i64 0,.int .i64 0,.str [],.int .i64 0,.int .i64 0,.int .i64 0,.int .i64 0,.int .i64 0,.str [],.int .i64 0,.int .i64 0,.int .i64 0,.int .i64 0,.int .i64 0,.str [],.str [],.int .i64 0,.int .i64 0,.int .i64 0,.int .i64 0,.int .i64 0,.int .i64 0,.str [],.int .i64 0,.int .i64 0,.int .i64 0,.int .i64 0,.int .i64 0,.str [],.int .i64 0,.int .i64 0,.int .i64 0,.int .i64 0,.int .i64 0,.str [],.str [],.int .i64 0,.int .i64 0,.int .i64 0,.int .i64 0,.int .i64 0,.int .i64 0,.str [],.int .i64 0,.int .i64 0,.int .i64 0,.int .i64 0,.int .i64 0,.str [],.int .i64 0,.int .i64 0,.int .i64 0,.int .i64 0,.int .i64 0,.str [],.str [],.int .i64 0,.int .i64 0,.int .i64 0,.int .i64 0,.int .i64 0,.int .i64 0,.str [],.int .i64 0,.int .i64 0,.int .i64 0,.int .i64 0,.int .i64 0,.str [],.int .i64 0,.int .i64 0,.int .i64 0,.int .i64 0,.int .i64 0,.str [],.str [],.int .i64 0,.int .i64 0,.int .i64 0,.int .i64 0,.int .i64 0,.int .i64 0,.str [],.int .i64 0,.int .i64 0,.int .i64 0,.int .i64 0,.int .i64 0,.str [],.int .i64 0,.int .i64 0,.int .i64 0,.int .i64 0,.int .i64 0,.str [],.str [],.int .i64 0,.int .i64 0,.int .i64 0],100,960,false,[]⟩:=rfl
theorem g94:Tys.get tys 94=some ⟨.array 2 26,[.int .i64 0,.int .i64 0,.int .i64 0,.int .i64 0,.int .i64 0,.str [],.int .i64 0,.int .i64 0,.int .i64 0,.int .i64 0,.int .i64 0,.str []],12,112,false,[]⟩:=rfl
theorem zTH:Tys.get tys 100=some ⟨.array 3 66,[.int .i64 0,.int .i64 0,.int .i64 0,.int .i64 0,.int .i64 0,.int .i64 0,.int .i64 0,.int .i64 0,.int .i64 0],9,72,false,[]⟩:=rfl
theorem zTI:Tys.get tys 101=some ⟨.ptr 33,[.nilP],1,8,false,[]⟩:=rfl
theorem zTJ:Tys.get tys 108=some ⟨.array 4 47,[.int .u32 0,.int .u32 0,.int .u32 0,.int .u32 0],4,16,false,[]⟩:=rfl
theorem zTK:Tys.get tys 109=some ⟨.slice 201,[.nilS],1,24,false,[]⟩:=rfl
theorem zTL:Tys.get tys 111=some ⟨.struct [(0,5),(1,108),(5,109),(6,9)],[.int .u8 0,.int .u32 0,.int .u32 0,.int .u32 0,.int .u32 0,.nilS,.str []],7,64,false,[]⟩:=rfl
theorem zTM:Tys.get tys 115=some ⟨.ptr 178,[.nilP],1,8,false,[]⟩:=rfl
theorem zTN:Tys.get tys 118=some ⟨.func,[.nilF],1,8,false,[]⟩:=rfl
theorem zTO:Tys.get tys 119=some ⟨.func,[.nilF],1,8,false,[]⟩:=rfl
theorem zTP:Tys.get tys 121=some ⟨.ptr 123,[.nilP],1,8,false,[]⟩:=rfl
theorem zTQ:Tys.get tys 123=some ⟨.struct [(0,28),(20,3),(21,30)],[.int .i64 0,.int .i64 0,.int .i64 0,.str [],.int .i64 0,.int .i64 0,.int .i64 0,.int .i64 0,.int .i64 0,.str [],.int .i64 0,.int .i64 0,.int .i64 0,.int .i64 0,.int .i64 0,.str [],.str [],.int .i64 0,.int .i64 0,.int .i64 0,.int .i64 0,.nilS],22,224,false,[]⟩:=rfl
theorem zTR:Tys.get tys 124=some ⟨.func,[.nilF],1,8,false,[]⟩:=rfl
theorem zTS:Tys.get tys 125=some ⟨.map 3 124,[.nilM],1,8,false,[]⟩:=rfl
theorem zTT:Tys.get tys 127=some ⟨.int .u64,[.int .u64 0],1,8,false,[]⟩:=rfl
theorem zTU:Tys.get tys 131=some ⟨.ptr 133,[.nilP],1,8,false,[]⟩:=rfl
theorem zTV:Tys.get tys 133=some ⟨.struct [(0,131),(1,76)],[.nilP,.nilS],2,32,false,[(0,133)]⟩:=rfl
theorem zTW:Tys.get tys 136=some ⟨.iface,[.nilI],1,16,false,[]⟩:=rfl
theorem zTX:Tys.get tys 143=some ⟨.int .u64,[.int .u64 0],1,8,false,[]⟩:=rfl
theorem zTY:Tys.get tys 155=some ⟨.struct [(0,3),(1,3),(2,3),(3,3),(4,4),(5,4),(6,4),(7,9)],[.int .i64 0,.int .i64 0,.int .i64 0,.int .i64 0,.bool false,.bool false,.bool false,.str []],8,56,true,[]⟩:=rfl
theorem zTZ:Tys.get tys 158=some ⟨.slice 200,[.nilS],1,24,false,[]⟩:=rfl
theorem zTa:Tys.get tys 160=some ⟨.struct [(0,3),(1,3),(2,158),(3,51)],[.int .i64 0,.int .i64 0,.nilS,.nilS],4,64,false,[]⟩:=rfl
theorem zTb:Tys.get tys 165=some ⟨.struct [(0,3),(1,158)],[.int .i64 0,.nilS],2,32,false,[]⟩:=rfl
theorem zTc:Tys.get tys 169=some ⟨.struct [(0,3),(1,3),(2,3),(3,3),(4,51)],[.int .i64 0,.int .i64 0,.int .i64 0,.int .i64 0,.nilS],5,56,false,[]⟩:=rfl
theorem zTd:Tys.get tys 171=some ⟨.array 8 3,[.int .i64 0,.int .i64 0,.int .i64 0,.int .i64 0,.int .i64 0,.int .i64 0,.int .i64 0,.int .i64 0],8,64,false,[]⟩:=rfl
theorem zTe:Tys.get tys 176=some ⟨.struct [(0,9),(1,3)],[.str [],.int .i64 0],2,24,true,[]⟩:=rfl
theorem zTf:Tys.get tys 178=some ⟨.struct [(0,176)],[.str [],.int .i64 0],2,24,true,[]⟩:=rfl
theorem zTg:Tys.get tys 184=some ⟨.struct [(0,26)],[.int .i64 0,.int .i64 0,.int .i64 0,.int .i64 0,.int .i64 0,.str []],6,56,true,[]⟩:=rfl
theorem zTh:Tys.get tys 187=some ⟨.func,[.nilF],1,8,false,[]⟩:=rfl
theorem zTi:Tys.get tys 189=some ⟨.map 3 187,[.nilM],1,8,false,[]⟩:=rfl
theorem zTj:Tys.get tys 195=some ⟨.ptr 5,[.nilP],1,8,false,[]⟩:=rfl
theorem zTk:Tys.get tys 200=some ⟨.array 2 3,[.int .i64 0,.int .i64 0],2,16,false,[]⟩:=rfl
theorem zTl:Tys.get tys 201=some ⟨.array 2 5,[.int .u8 0,.int .u8 0],2,2,false,[]⟩:=rfl
theorem zTm:Tys.get tys 204=some ⟨.struct [],[],0,0,true,[]⟩:=rfl
theorem zTn:Tys.get tys 207=some ⟨.func,[.nilF],1,8,false,[]⟩:=rfl
theorem zTo:Tys.get tys 211=some ⟨.iface,[.nilI],1,16,false,[]⟩:=rfl
theorem zTp:Tys.get tys 213=some ⟨.struct [(0,133)],[.nilP,.nilS],2,32,false,[(0,133)]⟩:=rfl
theorem zTq:Tys.get tys 216=some ⟨.ptr 213,[.nilP],1,8,false,[]⟩:=rfl
theorem zTr:Tys.get tys 219=some ⟨.array 8 47,[.int .u32 0,.int .u32 0,.int .u32 0,.int .u32 0,.int .u32 0,.int .u32 0,.int .u32 0,.int .u32 0],8,32,false,[]⟩:=rfl
theorem zTs:Tys.get tys 220=some ⟨.array 64 47,[.int .u32 0,.int .u32 0,.int .u32 0,.int .u32 0,.int .u32 0,.int .u32 0,.int .u32 0,.int .u32 0,.int .u32 0,.int .u32 0,.int .u32 0,.int .u32 0,.int .u32 0,.int .u32 0,.int .u32 0,.int .u32 0,.int .u32 0,.int .u32 0,.int .u32 0,.int .u32 0,.int .u32 0,.int .u32 0,.int .u32 0,.int .u32 0,.int .u32 0,.int .u32 0,.int .u32 0,.int .u32 0,.int .u32 0,.int .u32 0,.int .u32 0,.int .u32 0,.int .u32 0,.int .u32 0,.int .u32 0,.int .u32 0,.int .u32 0,.int .u32 0,.int .u32 0,.int .u32 0,.int .u32 0,.int .u32 0,.int .u32 0,.int .u32 0,.int .u32 0,.int .u32 0,.int .u32 0,.int .u32 0,.int .u32 0,.int .u32 0,.int .u32 0,.int .u32 0,.int .u32 0,.int .u32 0,.int .u32 0,.int .u32 0,.int .u32 0,.int .u32 0,.int .u32 0,.int .u32 0,.int .u32 0,.int .u32 0,.int .u32 0,.int .u32 0],64,256,false,[]⟩:=rfl
theorem zTt:Tys.get tys 222=some ⟨.struct [(0,219),(8,220)],[.int .u32 0,.int .u32 0,.int .u32 0,.int .u32 0,.int .u32 0,.int .u32 0,.int .u32 0,.int .u32 0,.int .u32 0,.int .u32 0,.int .u32 0,.int .u32 0,.int .u32 0,.int .u32 0,.int .u32 0,.int .u32 0,.int .u32 0,.int .u32 0,.int .u32 0,.int .u32 0,.int .u32 0,.int .u32 0,.int .u32 0,.int .u32 0,.int .u32 0,.int .u32 0,.int .u32 0,.int .u32 0,.int .u32 0,.int .u32 0,.int .u32 0,.int .u32 0,.int .u32 0,.int .u32 0,.int .u32 0,.int .u32 0,.int .u32 0,.int .u32 0,.int .u32 0,.int .u32 0,.int .u32 0,.int .u32 0,.int .u32 0,.int .u32 0,.int .u32 0,.int .u32 0,.int .u32 0,.int .u32 0,.int .u32 0,.int .u32 0,.int .u32 0,.int .u32 0,.int .u32 0,.int .u32 0,.int .u32 0,.int .u32 0,.int .u32 0,.int .u32 0,.int .u32 0,.int .u32 0,.int .u32 0,.int .u32 0,.int .u32 0,.int .u32 0,.int .u32 0,.int .u32 0,.int .u32 0,.int .u32 0,.int .u32 0,.int .u32 0,.int .u32 0,.int .u32 0],72,288,true,[]⟩:=rfl
theorem zTu:Tys.get tys 226=some ⟨.uptr,[.nilP],1,8,false,[]⟩:=rfl
theorem zTv:Tys.get tys 232=some ⟨.struct [(0,176)],[.str [],.int .i64 0],2,24,true,[]⟩:=rfl
theorem zTw:Tys.get tys 236=some ⟨.func,[.nilF],1,8,false,[]⟩:=rfl
theorem zTx:Tys.get tys 237=some ⟨.slice 9,[.nilS],1,24,false,[]⟩:=rfl
theorem zTy:Tys.get tys 243=some ⟨.func,[.nilF],1,8,false,[]⟩:=rfl
theorem zTz:Tys.get tys 245=some ⟨.struct [(0,219),(8,9),(9,3)],[.int .u32 0,.int .u32 0,.int .u32 0,.int .u32 0,.int .u32 0,.int .u32 0,.int .u32 0,.int .u32 0,.str [],.int .i64 0],10,56,true,[]⟩:=rfl
theorem zT0:Tys.get tys 247=some ⟨.struct [(0,245)],[.int .u32 0,.int .u32 0,.int .u32 0,.int .u32 0,.int .u32 0,.int .u32 0,.int .u32 0,.int .u32 0,.str [],.int .i64 0],10,56,true,[]⟩:=rfl
theorem zT1:Tys.get tys 251=some ⟨.array 32 4,[.bool false,.bool false,.bool false,.bool false,.bool false,.bool false,.bool false,.bool false,.bool false,.bool false,.bool false,.bool false,.bool false,.bool false,.bool false,.bool false,.bool false,.bool false,.bool false,.bool false,.bool false,.bool false,.bool false,.bool false,.bool false,.bool false,.bool false,.bool false,.bool false,.bool false,.bool false,.bool false],32,32,false,[]⟩:=rfl
theorem zT2:Tys.get tys 259=some ⟨.ptr 247,[.nilP],1,8,false,[]⟩:=rfl
theorem zT3:Tys.get tys 261=some ⟨.func,[.nilF],1,8,false,[]⟩:=rfl
theorem zT4:Tys.get tys 264=some ⟨.func,[.nilF],1,8,false,[]⟩:=rfl
set_option maxRecDepth 100000 in
set_option maxRecDepth 100000 in
set_option maxRecDepth 100000 in
set_option maxRecDepth 100000 in
noncomputable def zvl(P:Program)(t:TypeId):Value:=((P.info? t).bind (·.zero)).getD (.bool false)
theorem tkA{P:Program}{t:TypeId}{i:TI}(a:(P.underlying t).map Go.Sx.tk=some i.k:=by kernel_rfl)(b:(P.info? t).map (fun x=>(x.zero,x.size,x.bytes))=some (some (zvl P t),i.size,i.bytes):=by kernel_rfl)
 (c:Go.Sx.zHb (Go.Sx.cellsOf (zvl P t))=true:=by kernel_rfl)(d:(Go.Sx.cellsOf (zvl P t)).all (·.oneCell')=true:=by kernel_rfl)(e:(Go.Sx.cellsOf (zvl P t)).length=i.size:=by kernel_rfl)
 (f:i.eq=true→P.stoodInHeld t=false∧P.eqGuardType P.depth t=false∧(match P.underlying t with|some (.struct fs)=>fs.toList.all (fun f=>f.name != "_")|_=>false)=true:=by first|(intro h;cases h;done)|exact fun _=>⟨by kernel_rfl,by kernel_rfl,by kernel_rfl⟩)
 (g:(match i.k with| .struct _=>true| .array _ _=>true|_=>false)=(match zvl P t with| .agg _=>true|_=>false):=by kernel_rfl)(k:zKV (Go.Sx.cellsOf (zvl P t))=some i.zero:=by kernel_rfl)
 (l:∀x∈i.lies,rowAt P (sameLayout P P.depth · x.2) P.depth t 1 x.1 1=true:=by first|(intro x hx;cases hx;done)|(intro x hx;simp only[wP,uC,or_false]at hx;subst hx;kernel_rfl)):∃z,TOk P t i z:=⟨zvl P t,⟨⟨a,b,c,d,e,f,g⟩,k,l⟩⟩
theorem zFB:Tys.Ok Tryz.prog tys:=TysAll.ok ⟨tkA,tkA,tkA,tkA,tkA,tkA,tkA,tkA,tkA,tkA,tkA,tkA,tkA,tkA,tkA,tkA,tkA,tkA,tkA,tkA,tkA,tkA,tkA,tkA,tkA,tkA,tkA,tkA,tkA,tkA,tkA,tkA,tkA,tkA,tkA,tkA,tkA,tkA,tkA,tkA,tkA,tkA,tkA,tkA,tkA,tkA,tkA,tkA,tkA,tkA,tkA,tkA,tkA,tkA,tkA,tkA,tkA,tkA,tkA,tkA,tkA,tkA,tkA,tkA,tkA,tkA,tkA,tkA,tkA,tkA,tkA,tkA,tkA,tkA,tkA,tkA,tkA,tkA,tkA,tkA,tkA,tkA,tkA,tkA,tkA,tkA,tkA,tkA,trivial⟩
def FieldsIn(T:Tys):Tys→Bool
 | []=>true
 |(_,i)::l=>(match i.k with| .struct fs=>fs.all (fun f=>(T.get f.2).isSome)|_=>true)&&FieldsIn T l
theorem FieldsIn.ok{T:Tys}:∀{L:Tys},FieldsIn T L=true→∀t i fs,L.get t=some i→i.k= .struct fs→∀f∈fs,∃fi,T.get f.2=some fi
 | [],_,t,i,fs,h=>by cases h
 |(u,j)::l,h,t,i,fs,hg=>by
  simp only[FieldsIn,zC]at h;simp only[Tys.get]at hg;split at hg
  ·injection hg with hg;subst hg;intro hk f hf;have h1:=h.1;rw[hk]at h1;simp only[wK]at h1;exact Option.isSome_iff_exists.1 (h1 f hf)
  ·exact FieldsIn.ok h.2 t i fs hg
theorem zGO:zDp tys:=FieldsIn.ok (by kernel_rfl)
theorem zIS:Tryz.prog.follows .mixedOrders=true:=by kernel_rfl
def meths:Meths:=[(184, "tannoy/chunk.valid",183),(184, "tannoy/chunk.write",184)]
theorem zIT:meths.Ok Tryz.prog:=by
 intro t n f h v w;simp only[meths,Meths.get]at h
 iterate 2
  split at h;·rename_i hc;obtain ⟨e1,e2⟩:=hc;simp only[zZ]at h;rw[←e1,←e2,←h];kernel_rfl
 cases h
noncomputable def cx(L:Nat):Cx:=⟨Tryz.prog,tys,meths,false,L,none,[],[],false,[],fun _=>False⟩
theorem zAg(L:Nat):(cx L).Ok:=⟨zFB,zGO,zIS,zIT⟩
@[simp] abbrev oz (n : Nat) : List (Option PV) := List.replicate n none
attribute [go_sem] oz g3 g4 g5 g9 g20 g22 g23 g26 g28 g29 g30 g31 g33 g36 g38 g40 g43 g46 g47 g48 g50 g51 g53 g56 g60 g61 g65 g66 g69 g73 g76 g77 g81 g82 g88 g89 g92 g94 zTH zTI zTJ zTK zTL zTM zTN zTO zTP zTQ zTR zTS zTT zTU zTV zTW zTX zTY zTZ zTa zTb zTc zTd zTe zTf zTg zTh zTi zTj zTk zTl zTm zTn zTo zTp zTq zTr zTs zTt zTu zTv zTw zTx zTy zTz zT0 zT1 zT2 zT3 zT4 cx
theorem bdy(fn:Func){f:FuncId}{args:List PV}{F:SF}{L nx:Nat}{v:PV}{upd:List (Nm×SBlk)}{rd:List Nm}(H:∀F3:SF,(∀n∈rd,F3 n=F n)→(∀n:Nm,L<n.l→F3 n=none)→vcC (cx (L+1)) F3 (fn.body.getD .skip) ⟨zBn args fn.ntmps,[],0⟩ (PostF (cx (L+1)).T F3 fn.results.toList L v upd))(hrd:∀n∈rd,n.l≤L:=by simp)(hf:Tryz.prog.funcs[f]?=some fn:=by kernel_rfl)(hb:fn.body=some (fn.body.getD .skip):=by rfl)(hnum:(fn.name== "runtime.NumGoroutine")=false:=by kernel_rfl):Con Tryz.prog f args F L nx nx v upd rd:=Con.body (zAg (L+1)) rfl rfl hf hb hnum rfl hrd H
theorem zPU(fn:Func){f:FuncId}{args:List PV}{F:SF}{L nx k:Nat}{v:PV}{upd:List (Nm×SBlk)}{rd:List Nm}(H:∀F3:SF,(∀n∈rd,F3 n=F n)→(∀n:Nm,L<n.l→F3 n=none)→vcC (cx (L+1)) F3 (fn.body.getD .skip) ⟨zBn args fn.ntmps,[],0⟩ (PostS (cx (L+1)).T F3 fn.results.toList L nx v upd k))(hrd:∀n∈rd,n.l≤L:=by simp)(hf:Tryz.prog.funcs[f]?=some fn:=by kernel_rfl)(hb:fn.body=some (fn.body.getD .skip):=by rfl)(hnum:(fn.name== "runtime.NumGoroutine")=false:=by kernel_rfl):Con Tryz.prog f args F L nx (nx+k) v upd rd:=zVT (zAg (L+1)) rfl rfl hf hb hnum rfl hrd H
end Go.Proofs.YtifhjhbfhdcahaaGreat
end
