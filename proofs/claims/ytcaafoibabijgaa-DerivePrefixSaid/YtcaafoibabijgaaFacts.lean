/- Facts of the program. -/
import Derived.Test.YtcaafoibabijgaaAmB
import Derived.Test.YtcaafoibabijgaaProg
import Derived.KernelRfl
import Derived.Test.YtcaafoibabijgaaSy
set_option linter.unusedSimpArgs false
set_option linter.unusedVariables false
/- Facts of this seat's program: each type's size, bytes, zero and kind; which functions may be entered; what the abstract machine asks of the program. -/
namespace Go.Proofs.Ytcaafoibabijgaa
open Go Go.Am
set_option maxRecDepth 100000
theorem sz3 : szT Try.prog 3 = some 1 := by kernel_rfl
theorem ag3 : aggT Try.prog 3 = some false := by kernel_rfl
theorem sz4 : szT Try.prog 4 = some 1 := by kernel_rfl
theorem ag4 : aggT Try.prog 4 = some false := by kernel_rfl
theorem kd4 : kindT Try.prog 4 = 1 := by kernel_rfl
theorem sz5 : szT Try.prog 5 = some 1 := by kernel_rfl
theorem bs5 : bytesT Try.prog 5 = some 1 := by kernel_rfl
theorem zr5 : zeroT Try.prog 5 = some (.int .u8 0) := by kernel_rfl
theorem ag5 : aggT Try.prog 5 = some false := by kernel_rfl
theorem sz23 : szT Try.prog 23 = some 1 := by kernel_rfl
theorem bs23 : bytesT Try.prog 23 = some 24 := by kernel_rfl
theorem zr23 : zeroT Try.prog 23 = some (.slice none 0 0) := by kernel_rfl
theorem ag23 : aggT Try.prog 23 = some false := by kernel_rfl
theorem kd23 : kindT Try.prog 23 = 3 := by kernel_rfl
theorem sz26 : szT Try.prog 26 = some 1 := by kernel_rfl
theorem bs26 : bytesT Try.prog 26 = some 24 := by kernel_rfl
theorem zr26 : zeroT Try.prog 26 = some (.slice none 0 0) := by kernel_rfl
theorem ag26 : aggT Try.prog 26 = some false := by kernel_rfl
theorem sz27 : szT Try.prog 27 = some 1 := by kernel_rfl
theorem ag27 : aggT Try.prog 27 = some false := by kernel_rfl
theorem sz35 : szT Try.prog 35 = some 1 := by kernel_rfl
theorem ag35 : aggT Try.prog 35 = some false := by kernel_rfl
theorem sz36 : szT Try.prog 36 = some 1 := by kernel_rfl
theorem ag36 : aggT Try.prog 36 = some false := by kernel_rfl
theorem sz38 : szT Try.prog 38 = some 2 := by kernel_rfl
theorem bs38 : bytesT Try.prog 38 = some 48 := by kernel_rfl
theorem zr38 : zeroT Try.prog 38 = some (.agg ⟨[(.slice none 0 0), (.slice none 0 0)]⟩) := by kernel_rfl
theorem ag38 : aggT Try.prog 38 = some true := by kernel_rfl
theorem sz53 : szT Try.prog 53 = some 1 := by kernel_rfl
theorem zr53 : zeroT Try.prog 53 = some (.int .u64 0) := by kernel_rfl
theorem ag53 : aggT Try.prog 53 = some false := by kernel_rfl
theorem sz55 : szT Try.prog 55 = some 4 := by kernel_rfl
theorem zr55 : zeroT Try.prog 55 = some (.agg ⟨[(.int .u64 0), (.int .u64 0), (.int .u64 0), (.int .u64 0)]⟩) := by kernel_rfl
theorem ag55 : aggT Try.prog 55 = some true := by kernel_rfl
theorem sz57 : szT Try.prog 57 = some 9 := by kernel_rfl
theorem bs57 : bytesT Try.prog 57 = some 88 := by kernel_rfl
theorem zr57 : zeroT Try.prog 57 = some (.agg ⟨List.replicate 8 (.int .u64 0) ++ [(.slice none 0 0)]⟩) := by kernel_rfl
theorem ag57 : aggT Try.prog 57 = some true := by kernel_rfl
theorem kd57 : kindT Try.prog 57 = 0 := by kernel_rfl
theorem sz59 : szT Try.prog 59 = some 10 := by kernel_rfl
theorem bs59 : bytesT Try.prog 59 = some 96 := by kernel_rfl
theorem zr59 : zeroT Try.prog 59 = some (.agg ⟨[(.int .i64 0)] ++ List.replicate 8 (.int .u64 0) ++ [(.slice none 0 0)]⟩) := by kernel_rfl
theorem ag59 : aggT Try.prog 59 = some true := by kernel_rfl
theorem sz61 : szT Try.prog 61 = some 24 := by kernel_rfl
theorem bs61 : bytesT Try.prog 61 = some 224 := by kernel_rfl
theorem zr61 : zeroT Try.prog 61 = some (.agg ⟨[(.bool false)] ++ List.replicate 12 (.int .u64 0) ++ [(.slice none 0 0)] ++ [(.int .i64 0)] ++ List.replicate 8 (.int .u64 0) ++ [(.slice none 0 0)]⟩) := by kernel_rfl
theorem ag61 : aggT Try.prog 61 = some true := by kernel_rfl
theorem sz62 : szT Try.prog 62 = some 1 := by kernel_rfl
theorem ag62 : aggT Try.prog 62 = some false := by kernel_rfl
theorem sz64 : szT Try.prog 64 = some 2 := by kernel_rfl
theorem ag64 : aggT Try.prog 64 = some true := by kernel_rfl
theorem sz66 : szT Try.prog 66 = some 9 := by kernel_rfl
theorem zr66 : zeroT Try.prog 66 = some (.agg ⟨List.replicate 8 (.int .u64 0) ++ [(.slice none 0 0)]⟩) := by kernel_rfl
theorem ag66 : aggT Try.prog 66 = some true := by kernel_rfl
theorem sz76 : szT Try.prog 76 = some 1 := by kernel_rfl
theorem ag76 : aggT Try.prog 76 = some false := by kernel_rfl
theorem sz78 : szT Try.prog 78 = some 2 := by kernel_rfl
theorem zr78 : zeroT Try.prog 78 = some (.agg ⟨[(.int .u64 0)] ++ [(.slice none 0 0)]⟩) := by kernel_rfl
theorem ag78 : aggT Try.prog 78 = some true := by kernel_rfl
theorem kd78 : kindT Try.prog 78 = 0 := by kernel_rfl
theorem sz84 : szT Try.prog 84 = some 10 := by kernel_rfl
theorem zr84 : zeroT Try.prog 84 = some (.agg ⟨[(.int .i64 0)] ++ List.replicate 8 (.int .u64 0) ++ [(.slice none 0 0)]⟩) := by kernel_rfl
theorem ag84 : aggT Try.prog 84 = some true := by kernel_rfl
theorem sz86 : szT Try.prog 86 = some 24 := by kernel_rfl
theorem bs86 : bytesT Try.prog 86 = some 224 := by kernel_rfl
theorem zr86 : zeroT Try.prog 86 = some (.agg ⟨[(.bool false)] ++ List.replicate 12 (.int .u64 0) ++ [(.slice none 0 0)] ++ [(.int .i64 0)] ++ List.replicate 8 (.int .u64 0) ++ [(.slice none 0 0)]⟩) := by kernel_rfl
theorem ag86 : aggT Try.prog 86 = some true := by kernel_rfl
theorem kd111 : kindT Try.prog 111 = 2 := by kernel_rfl
theorem kd114 : kindT Try.prog 114 = 2 := by kernel_rfl
theorem sz124 : szT Try.prog 124 = some 3 := by kernel_rfl
theorem zr124 : zeroT Try.prog 124 = some (.agg ⟨[(.slice none 0 0)] ++ [(.bool false)] ++ [(.int .i64 0)]⟩) := by kernel_rfl
theorem zr126 : zeroT Try.prog 126 = some (.agg ⟨[(.slice none 0 0)] ++ [(.bool false)] ++ [(.int .i64 0)]⟩) := by kernel_rfl
theorem zr127 : zeroT Try.prog 127 = some (.agg ⟨[(.slice none 0 0)] ++ [(.bool false)] ++ [(.int .i64 0)]⟩) := by kernel_rfl
theorem kd134 : kindT Try.prog 134 = 2 := by kernel_rfl
theorem en8 : enters Try.prog 8 = true := by kernel_rfl
theorem en9 : enters Try.prog 9 = true := by kernel_rfl
theorem en10 : enters Try.prog 10 = true := by kernel_rfl
theorem en11 : enters Try.prog 11 = true := by kernel_rfl
theorem en12 : enters Try.prog 12 = true := by kernel_rfl
theorem en13 : enters Try.prog 13 = true := by kernel_rfl
theorem en14 : enters Try.prog 14 = true := by kernel_rfl
theorem en17 : enters Try.prog 17 = true := by kernel_rfl
theorem en19 : enters Try.prog 19 = true := by kernel_rfl
theorem en20 : enters Try.prog 20 = true := by kernel_rfl
theorem en22 : enters Try.prog 22 = true := by kernel_rfl
theorem en23 : enters Try.prog 23 = true := by kernel_rfl
theorem en25 : enters Try.prog 25 = true := by kernel_rfl
theorem en26 : enters Try.prog 26 = true := by kernel_rfl
theorem en27 : enters Try.prog 27 = true := by kernel_rfl
theorem en28 : enters Try.prog 28 = true := by kernel_rfl
theorem en29 : enters Try.prog 29 = true := by kernel_rfl
theorem en30 : enters Try.prog 30 = true := by kernel_rfl
theorem en32 : enters Try.prog 32 = true := by kernel_rfl
theorem en39 : enters Try.prog 39 = true := by kernel_rfl
theorem en40 : enters Try.prog 40 = true := by kernel_rfl
theorem en41 : enters Try.prog 41 = true := by kernel_rfl
theorem en42 : enters Try.prog 42 = true := by kernel_rfl
theorem en43 : enters Try.prog 43 = true := by kernel_rfl
theorem en44 : enters Try.prog 44 = true := by kernel_rfl
theorem en50 : enters Try.prog 50 = true := by kernel_rfl
theorem en51 : enters Try.prog 51 = true := by kernel_rfl
theorem en52 : enters Try.prog 52 = true := by kernel_rfl
theorem en53 : enters Try.prog 53 = true := by kernel_rfl
theorem en54 : enters Try.prog 54 = true := by kernel_rfl
theorem en55 : enters Try.prog 55 = true := by kernel_rfl
theorem en56 : enters Try.prog 56 = true := by kernel_rfl
theorem en57 : enters Try.prog 57 = true := by kernel_rfl
theorem en58 : enters Try.prog 58 = true := by kernel_rfl
theorem en61 : enters Try.prog 61 = true := by kernel_rfl
theorem en62 : enters Try.prog 62 = true := by kernel_rfl
theorem en63 : enters Try.prog 63 = true := by kernel_rfl
theorem en64 : enters Try.prog 64 = true := by kernel_rfl
theorem en65 : enters Try.prog 65 = true := by kernel_rfl
theorem en66 : enters Try.prog 66 = true := by kernel_rfl
theorem en69 : enters Try.prog 69 = true := by kernel_rfl
theorem en87 : enters Try.prog 87 = true := by kernel_rfl
theorem en88 : enters Try.prog 88 = true := by kernel_rfl
theorem en89 : enters Try.prog 89 = true := by kernel_rfl
theorem en90 : enters Try.prog 90 = true := by kernel_rfl
theorem en91 : enters Try.prog 91 = true := by kernel_rfl
theorem en92 : enters Try.prog 92 = true := by kernel_rfl
theorem en93 : enters Try.prog 93 = true := by kernel_rfl
theorem en94 : enters Try.prog 94 = true := by kernel_rfl
theorem en95 : enters Try.prog 95 = true := by kernel_rfl
theorem en96 : enters Try.prog 96 = true := by kernel_rfl
theorem en97 : enters Try.prog 97 = true := by kernel_rfl
theorem en102 : enters Try.prog 102 = true := by kernel_rfl
theorem en103 : enters Try.prog 103 = true := by kernel_rfl
theorem en104 : enters Try.prog 104 = true := by kernel_rfl
theorem en105 : enters Try.prog 105 = true := by kernel_rfl
theorem en106 : enters Try.prog 106 = true := by kernel_rfl
theorem good : GoodP Try.prog := GoodP.of_checks (by kernel_rfl) (by kernel_rfl)
theorem mixed : Try.prog.follows .mixedOrders = true := by kernel_rfl
end Go.Proofs.Ytcaafoibabijgaa

/- Facts of this program, for the walks. -/
namespace Go.Proofs.Ytcaafoibabijgaa
open Go Go.Am
set_option maxRecDepth 100000
theorem fa38_0 (b o : Nat) : fieldAddrV Try.prog 38 (.pointer (some ⟨b, o, none⟩)) 0 = some (.pointer (some ⟨b, o, none⟩)) := by simp [fieldAddrV, Try.underlying38, sz36]
theorem fa38_1 (b o : Nat) : fieldAddrV Try.prog 38 (.pointer (some ⟨b, o, none⟩)) 1 = some (.pointer (some ⟨b, o + 1, none⟩)) := by simp [fieldAddrV, Try.underlying38, sz35]
theorem fa57_0 (b o : Nat) : fieldAddrV Try.prog 57 (.pointer (some ⟨b, o, none⟩)) 0 = some (.pointer (some ⟨b, o, none⟩)) := by simp [fieldAddrV, Try.underlying57, sz53]
theorem fa57_1 (b o : Nat) : fieldAddrV Try.prog 57 (.pointer (some ⟨b, o, none⟩)) 1 = some (.pointer (some ⟨b, o + 1, none⟩)) := by simp [fieldAddrV, Try.underlying57, sz53]
theorem fa57_2 (b o : Nat) : fieldAddrV Try.prog 57 (.pointer (some ⟨b, o, none⟩)) 2 = some (.pointer (some ⟨b, o + 2, none⟩)) := by simp [fieldAddrV, Try.underlying57, sz53]
theorem fa57_3 (b o : Nat) : fieldAddrV Try.prog 57 (.pointer (some ⟨b, o, none⟩)) 3 = some (.pointer (some ⟨b, o + 3, none⟩)) := by simp [fieldAddrV, Try.underlying57, sz55]
theorem fa57_4 (b o : Nat) : fieldAddrV Try.prog 57 (.pointer (some ⟨b, o, none⟩)) 4 = some (.pointer (some ⟨b, o + 7, none⟩)) := by simp [fieldAddrV, Try.underlying57, sz53]
theorem fa57_5 (b o : Nat) : fieldAddrV Try.prog 57 (.pointer (some ⟨b, o, none⟩)) 5 = some (.pointer (some ⟨b, o + 8, none⟩)) := by simp [fieldAddrV, Try.underlying57, sz23]
theorem fa59_0 (b o : Nat) : fieldAddrV Try.prog 59 (.pointer (some ⟨b, o, none⟩)) 0 = some (.pointer (some ⟨b, o, none⟩)) := by simp [fieldAddrV, Try.underlying59, sz3]
theorem fa59_1 (b o : Nat) : fieldAddrV Try.prog 59 (.pointer (some ⟨b, o, none⟩)) 1 = some (.pointer (some ⟨b, o + 1, none⟩)) := by simp [fieldAddrV, Try.underlying59, sz53]
theorem fa59_2 (b o : Nat) : fieldAddrV Try.prog 59 (.pointer (some ⟨b, o, none⟩)) 2 = some (.pointer (some ⟨b, o + 2, none⟩)) := by simp [fieldAddrV, Try.underlying59, sz53]
theorem fa59_3 (b o : Nat) : fieldAddrV Try.prog 59 (.pointer (some ⟨b, o, none⟩)) 3 = some (.pointer (some ⟨b, o + 3, none⟩)) := by simp [fieldAddrV, Try.underlying59, sz53]
theorem fa59_4 (b o : Nat) : fieldAddrV Try.prog 59 (.pointer (some ⟨b, o, none⟩)) 4 = some (.pointer (some ⟨b, o + 4, none⟩)) := by simp [fieldAddrV, Try.underlying59, sz55]
theorem fa59_5 (b o : Nat) : fieldAddrV Try.prog 59 (.pointer (some ⟨b, o, none⟩)) 5 = some (.pointer (some ⟨b, o + 8, none⟩)) := by simp [fieldAddrV, Try.underlying59, sz53]
theorem fa59_6 (b o : Nat) : fieldAddrV Try.prog 59 (.pointer (some ⟨b, o, none⟩)) 6 = some (.pointer (some ⟨b, o + 9, none⟩)) := by simp [fieldAddrV, Try.underlying59, sz23]
theorem fa61_0 (b o : Nat) : fieldAddrV Try.prog 61 (.pointer (some ⟨b, o, none⟩)) 0 = some (.pointer (some ⟨b, o, none⟩)) := by simp [fieldAddrV, Try.underlying61, sz4]
theorem fa61_1 (b o : Nat) : fieldAddrV Try.prog 61 (.pointer (some ⟨b, o, none⟩)) 1 = some (.pointer (some ⟨b, o + 1, none⟩)) := by simp [fieldAddrV, Try.underlying61, sz55]
theorem fa61_2 (b o : Nat) : fieldAddrV Try.prog 61 (.pointer (some ⟨b, o, none⟩)) 2 = some (.pointer (some ⟨b, o + 5, none⟩)) := by simp [fieldAddrV, Try.underlying61, sz57]
theorem fa61_3 (b o : Nat) : fieldAddrV Try.prog 61 (.pointer (some ⟨b, o, none⟩)) 3 = some (.pointer (some ⟨b, o + 14, none⟩)) := by simp [fieldAddrV, Try.underlying61, sz59]
theorem fa64_0 (b o : Nat) : fieldAddrV Try.prog 64 (.pointer (some ⟨b, o, none⟩)) 0 = some (.pointer (some ⟨b, o, none⟩)) := by simp [fieldAddrV, Try.underlying64, sz62]
theorem fa64_1 (b o : Nat) : fieldAddrV Try.prog 64 (.pointer (some ⟨b, o, none⟩)) 1 = some (.pointer (some ⟨b, o + 1, none⟩)) := by simp [fieldAddrV, Try.underlying64, sz35]
theorem fa66_0 (b o : Nat) : fieldAddrV Try.prog 66 (.pointer (some ⟨b, o, none⟩)) 0 = some (.pointer (some ⟨b, o, none⟩)) := by simp [fieldAddrV, Try.underlying66, sz53]
theorem fa66_1 (b o : Nat) : fieldAddrV Try.prog 66 (.pointer (some ⟨b, o, none⟩)) 1 = some (.pointer (some ⟨b, o + 1, none⟩)) := by simp [fieldAddrV, Try.underlying66, sz53]
theorem fa66_2 (b o : Nat) : fieldAddrV Try.prog 66 (.pointer (some ⟨b, o, none⟩)) 2 = some (.pointer (some ⟨b, o + 2, none⟩)) := by simp [fieldAddrV, Try.underlying66, sz53]
theorem fa66_3 (b o : Nat) : fieldAddrV Try.prog 66 (.pointer (some ⟨b, o, none⟩)) 3 = some (.pointer (some ⟨b, o + 3, none⟩)) := by simp [fieldAddrV, Try.underlying66, sz55]
theorem fa66_4 (b o : Nat) : fieldAddrV Try.prog 66 (.pointer (some ⟨b, o, none⟩)) 4 = some (.pointer (some ⟨b, o + 7, none⟩)) := by simp [fieldAddrV, Try.underlying66, sz53]
theorem fa66_5 (b o : Nat) : fieldAddrV Try.prog 66 (.pointer (some ⟨b, o, none⟩)) 5 = some (.pointer (some ⟨b, o + 8, none⟩)) := by simp [fieldAddrV, Try.underlying66, sz23]
theorem fa78_0 (b o : Nat) : fieldAddrV Try.prog 78 (.pointer (some ⟨b, o, none⟩)) 0 = some (.pointer (some ⟨b, o, none⟩)) := by simp [fieldAddrV, Try.underlying78, sz53]
theorem fa78_1 (b o : Nat) : fieldAddrV Try.prog 78 (.pointer (some ⟨b, o, none⟩)) 1 = some (.pointer (some ⟨b, o + 1, none⟩)) := by simp [fieldAddrV, Try.underlying78, sz76]
theorem fa84_0 (b o : Nat) : fieldAddrV Try.prog 84 (.pointer (some ⟨b, o, none⟩)) 0 = some (.pointer (some ⟨b, o, none⟩)) := by simp [fieldAddrV, Try.underlying84, sz3]
theorem fa84_1 (b o : Nat) : fieldAddrV Try.prog 84 (.pointer (some ⟨b, o, none⟩)) 1 = some (.pointer (some ⟨b, o + 1, none⟩)) := by simp [fieldAddrV, Try.underlying84, sz53]
theorem fa84_2 (b o : Nat) : fieldAddrV Try.prog 84 (.pointer (some ⟨b, o, none⟩)) 2 = some (.pointer (some ⟨b, o + 2, none⟩)) := by simp [fieldAddrV, Try.underlying84, sz53]
theorem fa84_3 (b o : Nat) : fieldAddrV Try.prog 84 (.pointer (some ⟨b, o, none⟩)) 3 = some (.pointer (some ⟨b, o + 3, none⟩)) := by simp [fieldAddrV, Try.underlying84, sz53]
theorem fa84_4 (b o : Nat) : fieldAddrV Try.prog 84 (.pointer (some ⟨b, o, none⟩)) 4 = some (.pointer (some ⟨b, o + 4, none⟩)) := by simp [fieldAddrV, Try.underlying84, sz55]
theorem fa84_5 (b o : Nat) : fieldAddrV Try.prog 84 (.pointer (some ⟨b, o, none⟩)) 5 = some (.pointer (some ⟨b, o + 8, none⟩)) := by simp [fieldAddrV, Try.underlying84, sz53]
theorem fa84_6 (b o : Nat) : fieldAddrV Try.prog 84 (.pointer (some ⟨b, o, none⟩)) 6 = some (.pointer (some ⟨b, o + 9, none⟩)) := by simp [fieldAddrV, Try.underlying84, sz23]
theorem fa86_0 (b o : Nat) : fieldAddrV Try.prog 86 (.pointer (some ⟨b, o, none⟩)) 0 = some (.pointer (some ⟨b, o, none⟩)) := by simp [fieldAddrV, Try.underlying86, sz4]
theorem fa86_1 (b o : Nat) : fieldAddrV Try.prog 86 (.pointer (some ⟨b, o, none⟩)) 1 = some (.pointer (some ⟨b, o + 1, none⟩)) := by simp [fieldAddrV, Try.underlying86, sz55]
theorem fa86_2 (b o : Nat) : fieldAddrV Try.prog 86 (.pointer (some ⟨b, o, none⟩)) 2 = some (.pointer (some ⟨b, o + 5, none⟩)) := by simp [fieldAddrV, Try.underlying86, sz66]
theorem fa86_3 (b o : Nat) : fieldAddrV Try.prog 86 (.pointer (some ⟨b, o, none⟩)) 3 = some (.pointer (some ⟨b, o + 14, none⟩)) := by simp [fieldAddrV, Try.underlying86, sz84]
theorem fa124_0 (b o : Nat) : fieldAddrV Try.prog 124 (.pointer (some ⟨b, o, none⟩)) 0 = some (.pointer (some ⟨b, o, none⟩)) := by simp [fieldAddrV, Try.underlying124, sz23]
theorem fa124_1 (b o : Nat) : fieldAddrV Try.prog 124 (.pointer (some ⟨b, o, none⟩)) 1 = some (.pointer (some ⟨b, o + 1, none⟩)) := by simp [fieldAddrV, Try.underlying124, sz4]
theorem fa124_2 (b o : Nat) : fieldAddrV Try.prog 124 (.pointer (some ⟨b, o, none⟩)) 2 = some (.pointer (some ⟨b, o + 2, none⟩)) := by simp [fieldAddrV, Try.underlying124, sz27]
theorem fa126_0 (b o : Nat) : fieldAddrV Try.prog 126 (.pointer (some ⟨b, o, none⟩)) 0 = some (.pointer (some ⟨b, o, none⟩)) := by simp [fieldAddrV, Try.underlying126, sz124]
theorem fa127_0 (b o : Nat) : fieldAddrV Try.prog 127 (.pointer (some ⟨b, o, none⟩)) 0 = some (.pointer (some ⟨b, o, none⟩)) := by simp [fieldAddrV, Try.underlying127, sz124]
theorem nwz38 {E : Env} {d : Nat} {ty : TypeId} {p : String} {a : Array Edge} {g : Option (Nat × Bool)} : NewY Try.prog E ⟨some d, .alloc 38, ty, p, a, g⟩ (.cells ([.slice none 0 0, .slice none 0 0]) 38 true) (fun h => .pointer (some ⟨h, 0, none⟩)) := nw zr38 rfl
theorem nwz55 {E : Env} {d : Nat} {ty : TypeId} {p : String} {a : Array Edge} {g : Option (Nat × Bool)} : NewY Try.prog E ⟨some d, .alloc 55, ty, p, a, g⟩ (.cells (ints .u64 (List.replicate 4 0)) 55 true) (fun h => .pointer (some ⟨h, 0, none⟩)) := nw zr55 rfl
theorem nwz57 {E : Env} {d : Nat} {ty : TypeId} {p : String} {a : Array Edge} {g : Option (Nat × Bool)} : NewY Try.prog E ⟨some d, .alloc 57, ty, p, a, g⟩ (.cells ([.int .u64 ((0 : Nat) : Int), .int .u64 ((0 : Nat) : Int), .int .u64 ((0 : Nat) : Int)] ++ (ints .u64 (List.replicate 4 0) ++ ([.int .u64 ((0 : Nat) : Int), .slice none 0 0]))) 57 true) (fun h => .pointer (some ⟨h, 0, none⟩)) := nw zr57 rfl
theorem nwz59 {E : Env} {d : Nat} {ty : TypeId} {p : String} {a : Array Edge} {g : Option (Nat × Bool)} : NewY Try.prog E ⟨some d, .alloc 59, ty, p, a, g⟩ (.cells ([.int .i64 ((0 : Nat) : Int), .int .u64 ((0 : Nat) : Int), .int .u64 ((0 : Nat) : Int), .int .u64 ((0 : Nat) : Int)] ++ (ints .u64 (List.replicate 4 0) ++ ([.int .u64 ((0 : Nat) : Int), .slice none 0 0]))) 59 true) (fun h => .pointer (some ⟨h, 0, none⟩)) := nw zr59 rfl
theorem nwz66 {E : Env} {d : Nat} {ty : TypeId} {p : String} {a : Array Edge} {g : Option (Nat × Bool)} : NewY Try.prog E ⟨some d, .alloc 66, ty, p, a, g⟩ (.cells ([.int .u64 ((0 : Nat) : Int), .int .u64 ((0 : Nat) : Int), .int .u64 ((0 : Nat) : Int)] ++ (ints .u64 (List.replicate 4 0) ++ ([.int .u64 ((0 : Nat) : Int), .slice none 0 0]))) 66 true) (fun h => .pointer (some ⟨h, 0, none⟩)) := nw zr66 rfl
theorem nwz78 {E : Env} {d : Nat} {ty : TypeId} {p : String} {a : Array Edge} {g : Option (Nat × Bool)} : NewY Try.prog E ⟨some d, .alloc 78, ty, p, a, g⟩ (.cells ([.int .u64 ((0 : Nat) : Int), .slice none 0 0]) 78 true) (fun h => .pointer (some ⟨h, 0, none⟩)) := nw zr78 rfl
theorem nwz84 {E : Env} {d : Nat} {ty : TypeId} {p : String} {a : Array Edge} {g : Option (Nat × Bool)} : NewY Try.prog E ⟨some d, .alloc 84, ty, p, a, g⟩ (.cells ([.int .i64 ((0 : Nat) : Int), .int .u64 ((0 : Nat) : Int), .int .u64 ((0 : Nat) : Int), .int .u64 ((0 : Nat) : Int)] ++ (ints .u64 (List.replicate 4 0) ++ ([.int .u64 ((0 : Nat) : Int), .slice none 0 0]))) 84 true) (fun h => .pointer (some ⟨h, 0, none⟩)) := nw zr84 rfl
theorem nwz86 {E : Env} {d : Nat} {ty : TypeId} {p : String} {a : Array Edge} {g : Option (Nat × Bool)} : NewY Try.prog E ⟨some d, .alloc 86, ty, p, a, g⟩ (.cells ([.bool false] ++ (ints .u64 (List.replicate 4 0) ++ ([.int .u64 ((0 : Nat) : Int), .int .u64 ((0 : Nat) : Int), .int .u64 ((0 : Nat) : Int)] ++ (ints .u64 (List.replicate 4 0) ++ ([.int .u64 ((0 : Nat) : Int), .slice none 0 0, .int .i64 ((0 : Nat) : Int), .int .u64 ((0 : Nat) : Int), .int .u64 ((0 : Nat) : Int), .int .u64 ((0 : Nat) : Int)] ++ (ints .u64 (List.replicate 4 0) ++ ([.int .u64 ((0 : Nat) : Int), .slice none 0 0]))))))) 86 true) (fun h => .pointer (some ⟨h, 0, none⟩)) := nw zr86 rfl
theorem bv38 {parts : List (Nat × Value)} {cs : List Value} (hf : fillL (plc [(0, 1), (1, 1)]) ([.slice none 0 0, .slice none 0 0]) parts = some cs) : buildV Try.prog 38 parts = some (.agg ⟨cs⟩) := bv_struct Try.underlying38 zr38 rfl (by simp [sz36, sz35]) hf
theorem bv55 {parts : List (Nat × Value)} {cs : List Value} (hf : fillL (fun i => some (i * 1, 1)) (ints .u64 (List.replicate 4 0)) parts = some cs) : buildV Try.prog 55 parts = some (.agg ⟨cs⟩) := bv_arr Try.underlying55 sz53 zr55 rfl hf
theorem bv57 {parts : List (Nat × Value)} {cs : List Value} (hf : fillL (plc [(0, 1), (1, 1), (2, 1), (3, 4), (7, 1), (8, 1)]) ([.int .u64 ((0 : Nat) : Int), .int .u64 ((0 : Nat) : Int), .int .u64 ((0 : Nat) : Int)] ++ (ints .u64 (List.replicate 4 0) ++ ([.int .u64 ((0 : Nat) : Int), .slice none 0 0]))) parts = some cs) : buildV Try.prog 57 parts = some (.agg ⟨cs⟩) := bv_struct Try.underlying57 zr57 rfl (by simp [sz53, sz53, sz53, sz55, sz53, sz23]) hf
theorem bv59 {parts : List (Nat × Value)} {cs : List Value} (hf : fillL (plc [(0, 1), (1, 1), (2, 1), (3, 1), (4, 4), (8, 1), (9, 1)]) ([.int .i64 ((0 : Nat) : Int), .int .u64 ((0 : Nat) : Int), .int .u64 ((0 : Nat) : Int), .int .u64 ((0 : Nat) : Int)] ++ (ints .u64 (List.replicate 4 0) ++ ([.int .u64 ((0 : Nat) : Int), .slice none 0 0]))) parts = some cs) : buildV Try.prog 59 parts = some (.agg ⟨cs⟩) := bv_struct Try.underlying59 zr59 rfl (by simp [sz3, sz53, sz53, sz53, sz55, sz53, sz23]) hf
theorem bv61 {parts : List (Nat × Value)} {cs : List Value} (hf : fillL (plc [(0, 1), (1, 4), (5, 9), (14, 10)]) ([.bool false] ++ (ints .u64 (List.replicate 4 0) ++ ([.int .u64 ((0 : Nat) : Int), .int .u64 ((0 : Nat) : Int), .int .u64 ((0 : Nat) : Int)] ++ (ints .u64 (List.replicate 4 0) ++ ([.int .u64 ((0 : Nat) : Int), .slice none 0 0, .int .i64 ((0 : Nat) : Int), .int .u64 ((0 : Nat) : Int), .int .u64 ((0 : Nat) : Int), .int .u64 ((0 : Nat) : Int)] ++ (ints .u64 (List.replicate 4 0) ++ ([.int .u64 ((0 : Nat) : Int), .slice none 0 0]))))))) parts = some cs) : buildV Try.prog 61 parts = some (.agg ⟨cs⟩) := bv_struct Try.underlying61 zr61 rfl (by simp [sz4, sz55, sz57, sz59]) hf
theorem bv66 {parts : List (Nat × Value)} {cs : List Value} (hf : fillL (plc [(0, 1), (1, 1), (2, 1), (3, 4), (7, 1), (8, 1)]) ([.int .u64 ((0 : Nat) : Int), .int .u64 ((0 : Nat) : Int), .int .u64 ((0 : Nat) : Int)] ++ (ints .u64 (List.replicate 4 0) ++ ([.int .u64 ((0 : Nat) : Int), .slice none 0 0]))) parts = some cs) : buildV Try.prog 66 parts = some (.agg ⟨cs⟩) := bv_struct Try.underlying66 zr66 rfl (by simp [sz53, sz53, sz53, sz55, sz53, sz23]) hf
theorem bv78 {parts : List (Nat × Value)} {cs : List Value} (hf : fillL (plc [(0, 1), (1, 1)]) ([.int .u64 ((0 : Nat) : Int), .slice none 0 0]) parts = some cs) : buildV Try.prog 78 parts = some (.agg ⟨cs⟩) := bv_struct Try.underlying78 zr78 rfl (by simp [sz53, sz76]) hf
theorem bv84 {parts : List (Nat × Value)} {cs : List Value} (hf : fillL (plc [(0, 1), (1, 1), (2, 1), (3, 1), (4, 4), (8, 1), (9, 1)]) ([.int .i64 ((0 : Nat) : Int), .int .u64 ((0 : Nat) : Int), .int .u64 ((0 : Nat) : Int), .int .u64 ((0 : Nat) : Int)] ++ (ints .u64 (List.replicate 4 0) ++ ([.int .u64 ((0 : Nat) : Int), .slice none 0 0]))) parts = some cs) : buildV Try.prog 84 parts = some (.agg ⟨cs⟩) := bv_struct Try.underlying84 zr84 rfl (by simp [sz3, sz53, sz53, sz53, sz55, sz53, sz23]) hf
theorem bv86 {parts : List (Nat × Value)} {cs : List Value} (hf : fillL (plc [(0, 1), (1, 4), (5, 9), (14, 10)]) ([.bool false] ++ (ints .u64 (List.replicate 4 0) ++ ([.int .u64 ((0 : Nat) : Int), .int .u64 ((0 : Nat) : Int), .int .u64 ((0 : Nat) : Int)] ++ (ints .u64 (List.replicate 4 0) ++ ([.int .u64 ((0 : Nat) : Int), .slice none 0 0, .int .i64 ((0 : Nat) : Int), .int .u64 ((0 : Nat) : Int), .int .u64 ((0 : Nat) : Int), .int .u64 ((0 : Nat) : Int)] ++ (ints .u64 (List.replicate 4 0) ++ ([.int .u64 ((0 : Nat) : Int), .slice none 0 0]))))))) parts = some cs) : buildV Try.prog 86 parts = some (.agg ⟨cs⟩) := bv_struct Try.underlying86 zr86 rfl (by simp [sz4, sz55, sz66, sz84]) hf
theorem bv124 {parts : List (Nat × Value)} {cs : List Value} (hf : fillL (plc [(0, 1), (1, 1), (2, 1)]) ([.slice none 0 0, .bool false, .int .i64 ((0 : Nat) : Int)]) parts = some cs) : buildV Try.prog 124 parts = some (.agg ⟨cs⟩) := bv_struct Try.underlying124 zr124 rfl (by simp [sz23, sz4, sz27]) hf
theorem bv126 {parts : List (Nat × Value)} {cs : List Value} (hf : fillL (plc [(0, 3)]) ([.slice none 0 0, .bool false, .int .i64 ((0 : Nat) : Int)]) parts = some cs) : buildV Try.prog 126 parts = some (.agg ⟨cs⟩) := bv_struct Try.underlying126 zr126 rfl (by simp [sz124]) hf
theorem bv127 {parts : List (Nat × Value)} {cs : List Value} (hf : fillL (plc [(0, 3)]) ([.slice none 0 0, .bool false, .int .i64 ((0 : Nat) : Int)]) parts = some cs) : buildV Try.prog 127 parts = some (.agg ⟨cs⟩) := bv_struct Try.underlying127 zr127 rfl (by simp [sz124]) hf
theorem if57 : kindT Try.prog 57 ≠ 7 ∧ (Try.prog.underlying 57).isSome = true := ⟨by rw [kd57]; decide, by rw [Try.underlying57]; rfl⟩
theorem if78 : kindT Try.prog 78 ≠ 7 ∧ (Try.prog.underlying 78).isSome = true := ⟨by rw [kd78]; decide, by rw [Try.underlying78]; rfl⟩
theorem ek55 : eqKs Try.prog 55 = some (List.replicate 4 (.int)) := by kernel_rfl
theorem eq55 {x y : List Nat} (hx : x.length = 4) (hy : y.length = 4) : binV Try.prog .eql 55 (.agg ⟨ints .u64 x⟩) (.agg ⟨ints .u64 y⟩) = some (.bool (decide (x = y))) := eqIs ek55 ag55 hx hy
theorem ap23_23 {z : Value} (hz : zeroT Try.prog 5 = some z) (hl : z.cells.toList.length = 1) : AppT Try.prog 23 23 5 1 1 z := ⟨Try.underlying23, by simp [notInt, Try.underlying23], sz5, bs5, hz, by decide, by decide, hl, by decide⟩
theorem ap26_26 {z : Value} (hz : zeroT Try.prog 61 = some z) (hl : z.cells.toList.length = 24) : AppT Try.prog 26 26 61 24 224 z := ⟨Try.underlying26, by simp [notInt, Try.underlying26], sz61, bs61, hz, by decide, by decide, hl, by decide⟩
theorem ap30_30 {z : Value} (hz : zeroT Try.prog 38 = some z) (hl : z.cells.toList.length = 2) : AppT Try.prog 30 30 38 2 48 z := ⟨Try.underlying30, by simp [notInt, Try.underlying30], sz38, bs38, hz, by decide, by decide, hl, by decide⟩
theorem ap35_35 {z : Value} (hz : zeroT Try.prog 23 = some z) (hl : z.cells.toList.length = 1) : AppT Try.prog 35 35 23 1 24 z := ⟨Try.underlying35, by simp [notInt, Try.underlying35], sz23, bs23, hz, by decide, by decide, hl, by decide⟩
theorem ap36_36 {z : Value} (hz : zeroT Try.prog 57 = some z) (hl : z.cells.toList.length = 9) : AppT Try.prog 36 36 57 9 88 z := ⟨Try.underlying36, by simp [notInt, Try.underlying36], sz57, bs57, hz, by decide, by decide, hl, by decide⟩
theorem ap42_42 {z : Value} (hz : zeroT Try.prog 86 = some z) (hl : z.cells.toList.length = 24) : AppT Try.prog 42 42 86 24 224 z := ⟨Try.underlying42, by simp [notInt, Try.underlying42], sz86, bs86, hz, by decide, by decide, hl, by decide⟩
theorem ap47_47 {z : Value} (hz : zeroT Try.prog 26 = some z) (hl : z.cells.toList.length = 1) : AppT Try.prog 47 47 26 1 24 z := ⟨Try.underlying47, by simp [notInt, Try.underlying47], sz26, bs26, hz, by decide, by decide, hl, by decide⟩
theorem ap76_76 {z : Value} (hz : zeroT Try.prog 59 = some z) (hl : z.cells.toList.length = 10) : AppT Try.prog 76 76 59 10 96 z := ⟨Try.underlying76, by simp [notInt, Try.underlying76], sz59, bs59, hz, by decide, by decide, hl, by decide⟩
end Go.Proofs.Ytcaafoibabijgaa
