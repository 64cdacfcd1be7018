/- Facts of the program. -/
import Derived.Test.YtjimjolfnimimaaDoorAmB
import Derived.Test.YtjimjolfnimimaaDoorProg
import Derived.KernelRfl
import Derived.Test.YtjimjolfnimimaaDoorSy
set_option linter.unusedSimpArgs false
set_option linter.unusedVariables false
/- Facts of this seat's program: each type's size, bytes, zero and kind; which functions may be entered; what the abstract machine asks of the program. -/
namespace Go.Proofs.YtjimjolfnimimaaDoor
open Go Go.Am
set_option maxRecDepth 100000
theorem sz3 : szT Tryd.prog 3 = some 1 := by kernel_rfl
theorem ag3 : aggT Tryd.prog 3 = some false := by kernel_rfl
theorem sz4 : szT Tryd.prog 4 = some 1 := by kernel_rfl
theorem ag4 : aggT Tryd.prog 4 = some false := by kernel_rfl
theorem kd4 : kindT Tryd.prog 4 = 1 := by kernel_rfl
theorem sz5 : szT Tryd.prog 5 = some 1 := by kernel_rfl
theorem bs5 : bytesT Tryd.prog 5 = some 1 := by kernel_rfl
theorem zr5 : zeroT Tryd.prog 5 = some (.int .u8 0) := by kernel_rfl
theorem ag5 : aggT Tryd.prog 5 = some false := by kernel_rfl
theorem sz22 : szT Tryd.prog 22 = some 1 := by kernel_rfl
theorem zr22 : zeroT Tryd.prog 22 = some (.int .u64 0) := by kernel_rfl
theorem ag22 : aggT Tryd.prog 22 = some false := by kernel_rfl
theorem sz24 : szT Tryd.prog 24 = some 4 := by kernel_rfl
theorem zr24 : zeroT Tryd.prog 24 = some (.agg ⟨[(.int .u64 0), (.int .u64 0), (.int .u64 0), (.int .u64 0)]⟩) := by kernel_rfl
theorem ag24 : aggT Tryd.prog 24 = some true := by kernel_rfl
theorem sz25 : szT Tryd.prog 25 = some 1 := by kernel_rfl
theorem zr25 : zeroT Tryd.prog 25 = some (.slice none 0 0) := by kernel_rfl
theorem ag25 : aggT Tryd.prog 25 = some false := by kernel_rfl
theorem kd25 : kindT Tryd.prog 25 = 3 := by kernel_rfl
theorem sz27 : szT Tryd.prog 27 = some 9 := by kernel_rfl
theorem zr27 : zeroT Tryd.prog 27 = some (.agg ⟨List.replicate 8 (.int .u64 0) ++ [(.slice none 0 0)]⟩) := by kernel_rfl
theorem ag27 : aggT Tryd.prog 27 = some true := by kernel_rfl
theorem sz30 : szT Tryd.prog 30 = some 9 := by kernel_rfl
theorem zr30 : zeroT Tryd.prog 30 = some (.agg ⟨List.replicate 8 (.int .u64 0) ++ [(.slice none 0 0)]⟩) := by kernel_rfl
theorem ag30 : aggT Tryd.prog 30 = some true := by kernel_rfl
theorem kd30 : kindT Tryd.prog 30 = 0 := by kernel_rfl
theorem sz32 : szT Tryd.prog 32 = some 1 := by kernel_rfl
theorem ag32 : aggT Tryd.prog 32 = some false := by kernel_rfl
theorem sz44 : szT Tryd.prog 44 = some 32 := by kernel_rfl
theorem zr44 : zeroT Tryd.prog 44 = some (.agg ⟨List.replicate 32 (.int .u8 0)⟩) := by kernel_rfl
theorem ag44 : aggT Tryd.prog 44 = some true := by kernel_rfl
theorem sz66 : szT Tryd.prog 66 = some 10 := by kernel_rfl
theorem zr66 : zeroT Tryd.prog 66 = some (.agg ⟨[(.int .i64 0)] ++ List.replicate 8 (.int .u64 0) ++ [(.slice none 0 0)]⟩) := by kernel_rfl
theorem ag66 : aggT Tryd.prog 66 = some true := by kernel_rfl
theorem sz68 : szT Tryd.prog 68 = some 1 := by kernel_rfl
theorem ag68 : aggT Tryd.prog 68 = some false := by kernel_rfl
theorem sz71 : szT Tryd.prog 71 = some 2 := by kernel_rfl
theorem zr71 : zeroT Tryd.prog 71 = some (.agg ⟨[(.int .u64 0)] ++ [(.slice none 0 0)]⟩) := by kernel_rfl
theorem ag71 : aggT Tryd.prog 71 = some true := by kernel_rfl
theorem kd71 : kindT Tryd.prog 71 = 0 := by kernel_rfl
theorem sz83 : szT Tryd.prog 83 = some 24 := by kernel_rfl
theorem zr83 : zeroT Tryd.prog 83 = some (.agg ⟨[(.bool false)] ++ List.replicate 12 (.int .u64 0) ++ [(.slice none 0 0)] ++ [(.int .i64 0)] ++ List.replicate 8 (.int .u64 0) ++ [(.slice none 0 0)]⟩) := by kernel_rfl
theorem ag83 : aggT Tryd.prog 83 = some true := by kernel_rfl
theorem sz85 : szT Tryd.prog 85 = some 10 := by kernel_rfl
theorem bs85 : bytesT Tryd.prog 85 = some 96 := by kernel_rfl
theorem zr85 : zeroT Tryd.prog 85 = some (.agg ⟨[(.int .i64 0)] ++ List.replicate 8 (.int .u64 0) ++ [(.slice none 0 0)]⟩) := by kernel_rfl
theorem ag85 : aggT Tryd.prog 85 = some true := by kernel_rfl
theorem sz87 : szT Tryd.prog 87 = some 24 := by kernel_rfl
theorem zr87 : zeroT Tryd.prog 87 = some (.agg ⟨[(.bool false)] ++ List.replicate 12 (.int .u64 0) ++ [(.slice none 0 0)] ++ [(.int .i64 0)] ++ List.replicate 8 (.int .u64 0) ++ [(.slice none 0 0)]⟩) := by kernel_rfl
theorem ag87 : aggT Tryd.prog 87 = some true := by kernel_rfl
theorem kd87 : kindT Tryd.prog 87 = 0 := by kernel_rfl
theorem kd97 : kindT Tryd.prog 97 = 2 := by kernel_rfl
theorem kd105 : kindT Tryd.prog 105 = 2 := by kernel_rfl
theorem sz158 : szT Tryd.prog 158 = some 3 := by kernel_rfl
theorem zr158 : zeroT Tryd.prog 158 = some (.agg ⟨[(.slice none 0 0)] ++ [(.bool false)] ++ [(.int .i64 0)]⟩) := by kernel_rfl
theorem zr160 : zeroT Tryd.prog 160 = some (.agg ⟨[(.slice none 0 0)] ++ [(.bool false)] ++ [(.int .i64 0)]⟩) := by kernel_rfl
theorem zr161 : zeroT Tryd.prog 161 = some (.agg ⟨[(.slice none 0 0)] ++ [(.bool false)] ++ [(.int .i64 0)]⟩) := by kernel_rfl
theorem sz189 : szT Tryd.prog 189 = some 1 := by kernel_rfl
theorem ag189 : aggT Tryd.prog 189 = some false := by kernel_rfl
theorem sz190 : szT Tryd.prog 190 = some 8 := by kernel_rfl
theorem zr190 : zeroT Tryd.prog 190 = some (.agg ⟨List.replicate 8 (.int .u32 0)⟩) := by kernel_rfl
theorem ag190 : aggT Tryd.prog 190 = some true := by kernel_rfl
theorem sz191 : szT Tryd.prog 191 = some 8 := by kernel_rfl
theorem zr191 : zeroT Tryd.prog 191 = some (.agg ⟨List.replicate 8 (.int .u32 0)⟩) := by kernel_rfl
theorem zr193 : zeroT Tryd.prog 193 = some (.agg ⟨List.replicate 128 (.int .u8 0)⟩) := by kernel_rfl
theorem kd194 : kindT Tryd.prog 194 = 2 := by kernel_rfl
theorem sz195 : szT Tryd.prog 195 = some 64 := by kernel_rfl
theorem zr195 : zeroT Tryd.prog 195 = some (.agg ⟨List.replicate 64 (.int .u32 0)⟩) := by kernel_rfl
theorem ag195 : aggT Tryd.prog 195 = some true := by kernel_rfl
theorem en9 : enters Tryd.prog 9 = true := by kernel_rfl
theorem en11 : enters Tryd.prog 11 = true := by kernel_rfl
theorem en12 : enters Tryd.prog 12 = true := by kernel_rfl
theorem en14 : enters Tryd.prog 14 = true := by kernel_rfl
theorem en18 : enters Tryd.prog 18 = true := by kernel_rfl
theorem en20 : enters Tryd.prog 20 = true := by kernel_rfl
theorem en21 : enters Tryd.prog 21 = true := by kernel_rfl
theorem en22 : enters Tryd.prog 22 = true := by kernel_rfl
theorem en32 : enters Tryd.prog 32 = true := by kernel_rfl
theorem en33 : enters Tryd.prog 33 = true := by kernel_rfl
theorem en35 : enters Tryd.prog 35 = true := by kernel_rfl
theorem en37 : enters Tryd.prog 37 = true := by kernel_rfl
theorem en38 : enters Tryd.prog 38 = true := by kernel_rfl
theorem en39 : enters Tryd.prog 39 = true := by kernel_rfl
theorem en40 : enters Tryd.prog 40 = true := by kernel_rfl
theorem en41 : enters Tryd.prog 41 = true := by kernel_rfl
theorem en42 : enters Tryd.prog 42 = true := by kernel_rfl
theorem en43 : enters Tryd.prog 43 = true := by kernel_rfl
theorem en44 : enters Tryd.prog 44 = true := by kernel_rfl
theorem en46 : enters Tryd.prog 46 = true := by kernel_rfl
theorem en47 : enters Tryd.prog 47 = true := by kernel_rfl
theorem en48 : enters Tryd.prog 48 = true := by kernel_rfl
theorem en52 : enters Tryd.prog 52 = true := by kernel_rfl
theorem en53 : enters Tryd.prog 53 = true := by kernel_rfl
theorem en54 : enters Tryd.prog 54 = true := by kernel_rfl
theorem en55 : enters Tryd.prog 55 = true := by kernel_rfl
theorem en56 : enters Tryd.prog 56 = true := by kernel_rfl
theorem en57 : enters Tryd.prog 57 = true := by kernel_rfl
theorem en58 : enters Tryd.prog 58 = true := by kernel_rfl
theorem en65 : enters Tryd.prog 65 = true := by kernel_rfl
theorem en69 : enters Tryd.prog 69 = true := by kernel_rfl
theorem en76 : enters Tryd.prog 76 = true := by kernel_rfl
theorem en79 : enters Tryd.prog 79 = true := by kernel_rfl
theorem en80 : enters Tryd.prog 80 = true := by kernel_rfl
theorem en81 : enters Tryd.prog 81 = true := by kernel_rfl
theorem en82 : enters Tryd.prog 82 = true := by kernel_rfl
theorem en86 : enters Tryd.prog 86 = true := by kernel_rfl
theorem en87 : enters Tryd.prog 87 = true := by kernel_rfl
theorem en88 : enters Tryd.prog 88 = true := by kernel_rfl
theorem en89 : enters Tryd.prog 89 = true := by kernel_rfl
theorem en92 : enters Tryd.prog 92 = true := by kernel_rfl
theorem en93 : enters Tryd.prog 93 = true := by kernel_rfl
theorem en97 : enters Tryd.prog 97 = true := by kernel_rfl
theorem en98 : enters Tryd.prog 98 = true := by kernel_rfl
theorem en99 : enters Tryd.prog 99 = true := by kernel_rfl
theorem en100 : enters Tryd.prog 100 = true := by kernel_rfl
theorem en101 : enters Tryd.prog 101 = true := by kernel_rfl
theorem en102 : enters Tryd.prog 102 = true := by kernel_rfl
theorem en103 : enters Tryd.prog 103 = true := by kernel_rfl
theorem en109 : enters Tryd.prog 109 = true := by kernel_rfl
theorem en110 : enters Tryd.prog 110 = true := by kernel_rfl
theorem en120 : enters Tryd.prog 120 = true := by kernel_rfl
theorem en122 : enters Tryd.prog 122 = true := by kernel_rfl
theorem en123 : enters Tryd.prog 123 = true := by kernel_rfl
theorem en133 : enters Tryd.prog 133 = true := by kernel_rfl
theorem en156 : enters Tryd.prog 156 = true := by kernel_rfl
theorem en157 : enters Tryd.prog 157 = true := by kernel_rfl
theorem en158 : enters Tryd.prog 158 = true := by kernel_rfl
theorem en159 : enters Tryd.prog 159 = true := by kernel_rfl
theorem en160 : enters Tryd.prog 160 = true := by kernel_rfl
theorem en161 : enters Tryd.prog 161 = true := by kernel_rfl
theorem en162 : enters Tryd.prog 162 = true := by kernel_rfl
theorem en163 : enters Tryd.prog 163 = true := by kernel_rfl
theorem en164 : enters Tryd.prog 164 = true := by kernel_rfl
theorem en165 : enters Tryd.prog 165 = true := by kernel_rfl
theorem en166 : enters Tryd.prog 166 = true := by kernel_rfl
theorem en167 : enters Tryd.prog 167 = true := by kernel_rfl
theorem good : GoodP Tryd.prog := GoodP.of_checks (by kernel_rfl) (by kernel_rfl)
theorem mixed : Tryd.prog.follows .mixedOrders = true := by kernel_rfl
end Go.Proofs.YtjimjolfnimimaaDoor

/- Facts of this program, for the walks. -/
namespace Go.Proofs.YtjimjolfnimimaaDoor
open Go Go.Am
set_option maxRecDepth 100000
theorem fa27_0 (b o : Nat) : fieldAddrV Tryd.prog 27 (.pointer (some ⟨b, o, none⟩)) 0 = some (.pointer (some ⟨b, o, none⟩)) := by simp [fieldAddrV, Tryd.underlying27, sz22]
theorem fa27_1 (b o : Nat) : fieldAddrV Tryd.prog 27 (.pointer (some ⟨b, o, none⟩)) 1 = some (.pointer (some ⟨b, o + 1, none⟩)) := by simp [fieldAddrV, Tryd.underlying27, sz22]
theorem fa27_2 (b o : Nat) : fieldAddrV Tryd.prog 27 (.pointer (some ⟨b, o, none⟩)) 2 = some (.pointer (some ⟨b, o + 2, none⟩)) := by simp [fieldAddrV, Tryd.underlying27, sz22]
theorem fa27_3 (b o : Nat) : fieldAddrV Tryd.prog 27 (.pointer (some ⟨b, o, none⟩)) 3 = some (.pointer (some ⟨b, o + 3, none⟩)) := by simp [fieldAddrV, Tryd.underlying27, sz24]
theorem fa27_4 (b o : Nat) : fieldAddrV Tryd.prog 27 (.pointer (some ⟨b, o, none⟩)) 4 = some (.pointer (some ⟨b, o + 7, none⟩)) := by simp [fieldAddrV, Tryd.underlying27, sz22]
theorem fa27_5 (b o : Nat) : fieldAddrV Tryd.prog 27 (.pointer (some ⟨b, o, none⟩)) 5 = some (.pointer (some ⟨b, o + 8, none⟩)) := by simp [fieldAddrV, Tryd.underlying27, sz25]
theorem fa30_0 (b o : Nat) : fieldAddrV Tryd.prog 30 (.pointer (some ⟨b, o, none⟩)) 0 = some (.pointer (some ⟨b, o, none⟩)) := by simp [fieldAddrV, Tryd.underlying30, sz22]
theorem fa30_1 (b o : Nat) : fieldAddrV Tryd.prog 30 (.pointer (some ⟨b, o, none⟩)) 1 = some (.pointer (some ⟨b, o + 1, none⟩)) := by simp [fieldAddrV, Tryd.underlying30, sz22]
theorem fa30_2 (b o : Nat) : fieldAddrV Tryd.prog 30 (.pointer (some ⟨b, o, none⟩)) 2 = some (.pointer (some ⟨b, o + 2, none⟩)) := by simp [fieldAddrV, Tryd.underlying30, sz22]
theorem fa30_3 (b o : Nat) : fieldAddrV Tryd.prog 30 (.pointer (some ⟨b, o, none⟩)) 3 = some (.pointer (some ⟨b, o + 3, none⟩)) := by simp [fieldAddrV, Tryd.underlying30, sz24]
theorem fa30_4 (b o : Nat) : fieldAddrV Tryd.prog 30 (.pointer (some ⟨b, o, none⟩)) 4 = some (.pointer (some ⟨b, o + 7, none⟩)) := by simp [fieldAddrV, Tryd.underlying30, sz22]
theorem fa30_5 (b o : Nat) : fieldAddrV Tryd.prog 30 (.pointer (some ⟨b, o, none⟩)) 5 = some (.pointer (some ⟨b, o + 8, none⟩)) := by simp [fieldAddrV, Tryd.underlying30, sz25]
theorem fa66_0 (b o : Nat) : fieldAddrV Tryd.prog 66 (.pointer (some ⟨b, o, none⟩)) 0 = some (.pointer (some ⟨b, o, none⟩)) := by simp [fieldAddrV, Tryd.underlying66, sz3]
theorem fa66_1 (b o : Nat) : fieldAddrV Tryd.prog 66 (.pointer (some ⟨b, o, none⟩)) 1 = some (.pointer (some ⟨b, o + 1, none⟩)) := by simp [fieldAddrV, Tryd.underlying66, sz22]
theorem fa66_2 (b o : Nat) : fieldAddrV Tryd.prog 66 (.pointer (some ⟨b, o, none⟩)) 2 = some (.pointer (some ⟨b, o + 2, none⟩)) := by simp [fieldAddrV, Tryd.underlying66, sz22]
theorem fa66_3 (b o : Nat) : fieldAddrV Tryd.prog 66 (.pointer (some ⟨b, o, none⟩)) 3 = some (.pointer (some ⟨b, o + 3, none⟩)) := by simp [fieldAddrV, Tryd.underlying66, sz22]
theorem fa66_4 (b o : Nat) : fieldAddrV Tryd.prog 66 (.pointer (some ⟨b, o, none⟩)) 4 = some (.pointer (some ⟨b, o + 4, none⟩)) := by simp [fieldAddrV, Tryd.underlying66, sz24]
theorem fa66_5 (b o : Nat) : fieldAddrV Tryd.prog 66 (.pointer (some ⟨b, o, none⟩)) 5 = some (.pointer (some ⟨b, o + 8, none⟩)) := by simp [fieldAddrV, Tryd.underlying66, sz22]
theorem fa66_6 (b o : Nat) : fieldAddrV Tryd.prog 66 (.pointer (some ⟨b, o, none⟩)) 6 = some (.pointer (some ⟨b, o + 9, none⟩)) := by simp [fieldAddrV, Tryd.underlying66, sz25]
theorem fa71_0 (b o : Nat) : fieldAddrV Tryd.prog 71 (.pointer (some ⟨b, o, none⟩)) 0 = some (.pointer (some ⟨b, o, none⟩)) := by simp [fieldAddrV, Tryd.underlying71, sz22]
theorem fa71_1 (b o : Nat) : fieldAddrV Tryd.prog 71 (.pointer (some ⟨b, o, none⟩)) 1 = some (.pointer (some ⟨b, o + 1, none⟩)) := by simp [fieldAddrV, Tryd.underlying71, sz68]
theorem fa83_0 (b o : Nat) : fieldAddrV Tryd.prog 83 (.pointer (some ⟨b, o, none⟩)) 0 = some (.pointer (some ⟨b, o, none⟩)) := by simp [fieldAddrV, Tryd.underlying83, sz4]
theorem fa83_1 (b o : Nat) : fieldAddrV Tryd.prog 83 (.pointer (some ⟨b, o, none⟩)) 1 = some (.pointer (some ⟨b, o + 1, none⟩)) := by simp [fieldAddrV, Tryd.underlying83, sz24]
theorem fa83_2 (b o : Nat) : fieldAddrV Tryd.prog 83 (.pointer (some ⟨b, o, none⟩)) 2 = some (.pointer (some ⟨b, o + 5, none⟩)) := by simp [fieldAddrV, Tryd.underlying83, sz27]
theorem fa83_3 (b o : Nat) : fieldAddrV Tryd.prog 83 (.pointer (some ⟨b, o, none⟩)) 3 = some (.pointer (some ⟨b, o + 14, none⟩)) := by simp [fieldAddrV, Tryd.underlying83, sz66]
theorem fa85_0 (b o : Nat) : fieldAddrV Tryd.prog 85 (.pointer (some ⟨b, o, none⟩)) 0 = some (.pointer (some ⟨b, o, none⟩)) := by simp [fieldAddrV, Tryd.underlying85, sz3]
theorem fa85_1 (b o : Nat) : fieldAddrV Tryd.prog 85 (.pointer (some ⟨b, o, none⟩)) 1 = some (.pointer (some ⟨b, o + 1, none⟩)) := by simp [fieldAddrV, Tryd.underlying85, sz22]
theorem fa85_2 (b o : Nat) : fieldAddrV Tryd.prog 85 (.pointer (some ⟨b, o, none⟩)) 2 = some (.pointer (some ⟨b, o + 2, none⟩)) := by simp [fieldAddrV, Tryd.underlying85, sz22]
theorem fa85_3 (b o : Nat) : fieldAddrV Tryd.prog 85 (.pointer (some ⟨b, o, none⟩)) 3 = some (.pointer (some ⟨b, o + 3, none⟩)) := by simp [fieldAddrV, Tryd.underlying85, sz22]
theorem fa85_4 (b o : Nat) : fieldAddrV Tryd.prog 85 (.pointer (some ⟨b, o, none⟩)) 4 = some (.pointer (some ⟨b, o + 4, none⟩)) := by simp [fieldAddrV, Tryd.underlying85, sz24]
theorem fa85_5 (b o : Nat) : fieldAddrV Tryd.prog 85 (.pointer (some ⟨b, o, none⟩)) 5 = some (.pointer (some ⟨b, o + 8, none⟩)) := by simp [fieldAddrV, Tryd.underlying85, sz22]
theorem fa85_6 (b o : Nat) : fieldAddrV Tryd.prog 85 (.pointer (some ⟨b, o, none⟩)) 6 = some (.pointer (some ⟨b, o + 9, none⟩)) := by simp [fieldAddrV, Tryd.underlying85, sz25]
theorem fa87_0 (b o : Nat) : fieldAddrV Tryd.prog 87 (.pointer (some ⟨b, o, none⟩)) 0 = some (.pointer (some ⟨b, o, none⟩)) := by simp [fieldAddrV, Tryd.underlying87, sz4]
theorem fa87_1 (b o : Nat) : fieldAddrV Tryd.prog 87 (.pointer (some ⟨b, o, none⟩)) 1 = some (.pointer (some ⟨b, o + 1, none⟩)) := by simp [fieldAddrV, Tryd.underlying87, sz24]
theorem fa87_2 (b o : Nat) : fieldAddrV Tryd.prog 87 (.pointer (some ⟨b, o, none⟩)) 2 = some (.pointer (some ⟨b, o + 5, none⟩)) := by simp [fieldAddrV, Tryd.underlying87, sz30]
theorem fa87_3 (b o : Nat) : fieldAddrV Tryd.prog 87 (.pointer (some ⟨b, o, none⟩)) 3 = some (.pointer (some ⟨b, o + 14, none⟩)) := by simp [fieldAddrV, Tryd.underlying87, sz85]
theorem fa158_0 (b o : Nat) : fieldAddrV Tryd.prog 158 (.pointer (some ⟨b, o, none⟩)) 0 = some (.pointer (some ⟨b, o, none⟩)) := by simp [fieldAddrV, Tryd.underlying158, sz25]
theorem fa158_1 (b o : Nat) : fieldAddrV Tryd.prog 158 (.pointer (some ⟨b, o, none⟩)) 1 = some (.pointer (some ⟨b, o + 1, none⟩)) := by simp [fieldAddrV, Tryd.underlying158, sz4]
theorem fa158_2 (b o : Nat) : fieldAddrV Tryd.prog 158 (.pointer (some ⟨b, o, none⟩)) 2 = some (.pointer (some ⟨b, o + 2, none⟩)) := by simp [fieldAddrV, Tryd.underlying158, sz32]
theorem fa160_0 (b o : Nat) : fieldAddrV Tryd.prog 160 (.pointer (some ⟨b, o, none⟩)) 0 = some (.pointer (some ⟨b, o, none⟩)) := by simp [fieldAddrV, Tryd.underlying160, sz158]
theorem fa161_0 (b o : Nat) : fieldAddrV Tryd.prog 161 (.pointer (some ⟨b, o, none⟩)) 0 = some (.pointer (some ⟨b, o, none⟩)) := by simp [fieldAddrV, Tryd.underlying161, sz158]
theorem nwz24 {E : Env} {d : Nat} {ty : TypeId} {p : String} {a : Array Edge} {g : Option (Nat × Bool)} : NewY Tryd.prog E ⟨some d, .alloc 24, ty, p, a, g⟩ (.cells (ints .u64 (List.replicate 4 0)) 24 true) (fun h => .pointer (some ⟨h, 0, none⟩)) := nw zr24 rfl
theorem nwz27 {E : Env} {d : Nat} {ty : TypeId} {p : String} {a : Array Edge} {g : Option (Nat × Bool)} : NewY Tryd.prog E ⟨some d, .alloc 27, ty, p, a, g⟩ (.cells ([.int .u64 ((0 : Nat) : Int), .int .u64 ((0 : Nat) : Int), .int .u64 ((0 : Nat) : Int)] ++ (ints .u64 (List.replicate 4 0) ++ ([.int .u64 ((0 : Nat) : Int), .slice none 0 0]))) 27 true) (fun h => .pointer (some ⟨h, 0, none⟩)) := nw zr27 rfl
theorem nwz30 {E : Env} {d : Nat} {ty : TypeId} {p : String} {a : Array Edge} {g : Option (Nat × Bool)} : NewY Tryd.prog E ⟨some d, .alloc 30, ty, p, a, g⟩ (.cells ([.int .u64 ((0 : Nat) : Int), .int .u64 ((0 : Nat) : Int), .int .u64 ((0 : Nat) : Int)] ++ (ints .u64 (List.replicate 4 0) ++ ([.int .u64 ((0 : Nat) : Int), .slice none 0 0]))) 30 true) (fun h => .pointer (some ⟨h, 0, none⟩)) := nw zr30 rfl
theorem nwz44 {E : Env} {d : Nat} {ty : TypeId} {p : String} {a : Array Edge} {g : Option (Nat × Bool)} : NewY Tryd.prog E ⟨some d, .alloc 44, ty, p, a, g⟩ (.cells (hC zeroH) 44 true) (fun h => .pointer (some ⟨h, 0, none⟩)) := nw zr44 rfl
theorem nwz66 {E : Env} {d : Nat} {ty : TypeId} {p : String} {a : Array Edge} {g : Option (Nat × Bool)} : NewY Tryd.prog E ⟨some d, .alloc 66, ty, p, a, g⟩ (.cells ([.int .i64 ((0 : Nat) : Int), .int .u64 ((0 : Nat) : Int), .int .u64 ((0 : Nat) : Int), .int .u64 ((0 : Nat) : Int)] ++ (ints .u64 (List.replicate 4 0) ++ ([.int .u64 ((0 : Nat) : Int), .slice none 0 0]))) 66 true) (fun h => .pointer (some ⟨h, 0, none⟩)) := nw zr66 rfl
theorem nwz71 {E : Env} {d : Nat} {ty : TypeId} {p : String} {a : Array Edge} {g : Option (Nat × Bool)} : NewY Tryd.prog E ⟨some d, .alloc 71, ty, p, a, g⟩ (.cells ([.int .u64 ((0 : Nat) : Int), .slice none 0 0]) 71 true) (fun h => .pointer (some ⟨h, 0, none⟩)) := nw zr71 rfl
theorem nwz83 {E : Env} {d : Nat} {ty : TypeId} {p : String} {a : Array Edge} {g : Option (Nat × Bool)} : NewY Tryd.prog E ⟨some d, .alloc 83, ty, p, a, g⟩ (.cells ([.bool false] ++ (ints .u64 (List.replicate 4 0) ++ ([.int .u64 ((0 : Nat) : Int), .int .u64 ((0 : Nat) : Int), .int .u64 ((0 : Nat) : Int)] ++ (ints .u64 (List.replicate 4 0) ++ ([.int .u64 ((0 : Nat) : Int), .slice none 0 0, .int .i64 ((0 : Nat) : Int), .int .u64 ((0 : Nat) : Int), .int .u64 ((0 : Nat) : Int), .int .u64 ((0 : Nat) : Int)] ++ (ints .u64 (List.replicate 4 0) ++ ([.int .u64 ((0 : Nat) : Int), .slice none 0 0]))))))) 83 true) (fun h => .pointer (some ⟨h, 0, none⟩)) := nw zr83 rfl
theorem nwz85 {E : Env} {d : Nat} {ty : TypeId} {p : String} {a : Array Edge} {g : Option (Nat × Bool)} : NewY Tryd.prog E ⟨some d, .alloc 85, ty, p, a, g⟩ (.cells ([.int .i64 ((0 : Nat) : Int), .int .u64 ((0 : Nat) : Int), .int .u64 ((0 : Nat) : Int), .int .u64 ((0 : Nat) : Int)] ++ (ints .u64 (List.replicate 4 0) ++ ([.int .u64 ((0 : Nat) : Int), .slice none 0 0]))) 85 true) (fun h => .pointer (some ⟨h, 0, none⟩)) := nw zr85 rfl
theorem nwz87 {E : Env} {d : Nat} {ty : TypeId} {p : String} {a : Array Edge} {g : Option (Nat × Bool)} : NewY Tryd.prog E ⟨some d, .alloc 87, ty, p, a, g⟩ (.cells ([.bool false] ++ (ints .u64 (List.replicate 4 0) ++ ([.int .u64 ((0 : Nat) : Int), .int .u64 ((0 : Nat) : Int), .int .u64 ((0 : Nat) : Int)] ++ (ints .u64 (List.replicate 4 0) ++ ([.int .u64 ((0 : Nat) : Int), .slice none 0 0, .int .i64 ((0 : Nat) : Int), .int .u64 ((0 : Nat) : Int), .int .u64 ((0 : Nat) : Int), .int .u64 ((0 : Nat) : Int)] ++ (ints .u64 (List.replicate 4 0) ++ ([.int .u64 ((0 : Nat) : Int), .slice none 0 0]))))))) 87 true) (fun h => .pointer (some ⟨h, 0, none⟩)) := nw zr87 rfl
theorem nwz191 {E : Env} {d : Nat} {ty : TypeId} {p : String} {a : Array Edge} {g : Option (Nat × Bool)} : NewY Tryd.prog E ⟨some d, .alloc 191, ty, p, a, g⟩ (.cells (ints .u32 (List.replicate 8 0)) 191 true) (fun h => .pointer (some ⟨h, 0, none⟩)) := nw zr191 rfl
theorem nwz193 {E : Env} {d : Nat} {ty : TypeId} {p : String} {a : Array Edge} {g : Option (Nat × Bool)} : NewY Tryd.prog E ⟨some d, .alloc 193, ty, p, a, g⟩ (.cells (ints .u8 (List.replicate 128 0)) 193 true) (fun h => .pointer (some ⟨h, 0, none⟩)) := nw zr193 rfl
theorem nwz195 {E : Env} {d : Nat} {ty : TypeId} {p : String} {a : Array Edge} {g : Option (Nat × Bool)} : NewY Tryd.prog E ⟨some d, .alloc 195, ty, p, a, g⟩ (.cells (ints .u32 (List.replicate 64 0)) 195 true) (fun h => .pointer (some ⟨h, 0, none⟩)) := nw zr195 rfl
theorem bv24 {parts : List (Nat × Value)} {cs : List Value} (hf : fillL (fun i => some (i * 1, 1)) (ints .u64 (List.replicate 4 0)) parts = some cs) : buildV Tryd.prog 24 parts = some (.agg ⟨cs⟩) := bv_arr Tryd.underlying24 sz22 zr24 rfl hf
theorem bv27 {parts : List (Nat × Value)} {cs : List Value} (hf : fillL (plc [(0, 1), (1, 1), (2, 1), (3, 4), (7, 1), (8, 1)]) ([.int .u64 ((0 : Nat) : Int), .int .u64 ((0 : Nat) : Int), .int .u64 ((0 : Nat) : Int)] ++ (ints .u64 (List.replicate 4 0) ++ ([.int .u64 ((0 : Nat) : Int), .slice none 0 0]))) parts = some cs) : buildV Tryd.prog 27 parts = some (.agg ⟨cs⟩) := bv_struct Tryd.underlying27 zr27 rfl (by simp [sz22, sz22, sz22, sz24, sz22, sz25]) hf
theorem bv30 {parts : List (Nat × Value)} {cs : List Value} (hf : fillL (plc [(0, 1), (1, 1), (2, 1), (3, 4), (7, 1), (8, 1)]) ([.int .u64 ((0 : Nat) : Int), .int .u64 ((0 : Nat) : Int), .int .u64 ((0 : Nat) : Int)] ++ (ints .u64 (List.replicate 4 0) ++ ([.int .u64 ((0 : Nat) : Int), .slice none 0 0]))) parts = some cs) : buildV Tryd.prog 30 parts = some (.agg ⟨cs⟩) := bv_struct Tryd.underlying30 zr30 rfl (by simp [sz22, sz22, sz22, sz24, sz22, sz25]) hf
theorem bv66 {parts : List (Nat × Value)} {cs : List Value} (hf : fillL (plc [(0, 1), (1, 1), (2, 1), (3, 1), (4, 4), (8, 1), (9, 1)]) ([.int .i64 ((0 : Nat) : Int), .int .u64 ((0 : Nat) : Int), .int .u64 ((0 : Nat) : Int), .int .u64 ((0 : Nat) : Int)] ++ (ints .u64 (List.replicate 4 0) ++ ([.int .u64 ((0 : Nat) : Int), .slice none 0 0]))) parts = some cs) : buildV Tryd.prog 66 parts = some (.agg ⟨cs⟩) := bv_struct Tryd.underlying66 zr66 rfl (by simp [sz3, sz22, sz22, sz22, sz24, sz22, sz25]) hf
theorem bv71 {parts : List (Nat × Value)} {cs : List Value} (hf : fillL (plc [(0, 1), (1, 1)]) ([.int .u64 ((0 : Nat) : Int), .slice none 0 0]) parts = some cs) : buildV Tryd.prog 71 parts = some (.agg ⟨cs⟩) := bv_struct Tryd.underlying71 zr71 rfl (by simp [sz22, sz68]) hf
theorem bv83 {parts : List (Nat × Value)} {cs : List Value} (hf : fillL (plc [(0, 1), (1, 4), (5, 9), (14, 10)]) ([.bool false] ++ (ints .u64 (List.replicate 4 0) ++ ([.int .u64 ((0 : Nat) : Int), .int .u64 ((0 : Nat) : Int), .int .u64 ((0 : Nat) : Int)] ++ (ints .u64 (List.replicate 4 0) ++ ([.int .u64 ((0 : Nat) : Int), .slice none 0 0, .int .i64 ((0 : Nat) : Int), .int .u64 ((0 : Nat) : Int), .int .u64 ((0 : Nat) : Int), .int .u64 ((0 : Nat) : Int)] ++ (ints .u64 (List.replicate 4 0) ++ ([.int .u64 ((0 : Nat) : Int), .slice none 0 0]))))))) parts = some cs) : buildV Tryd.prog 83 parts = some (.agg ⟨cs⟩) := bv_struct Tryd.underlying83 zr83 rfl (by simp [sz4, sz24, sz27, sz66]) hf
theorem bv85 {parts : List (Nat × Value)} {cs : List Value} (hf : fillL (plc [(0, 1), (1, 1), (2, 1), (3, 1), (4, 4), (8, 1), (9, 1)]) ([.int .i64 ((0 : Nat) : Int), .int .u64 ((0 : Nat) : Int), .int .u64 ((0 : Nat) : Int), .int .u64 ((0 : Nat) : Int)] ++ (ints .u64 (List.replicate 4 0) ++ ([.int .u64 ((0 : Nat) : Int), .slice none 0 0]))) parts = some cs) : buildV Tryd.prog 85 parts = some (.agg ⟨cs⟩) := bv_struct Tryd.underlying85 zr85 rfl (by simp [sz3, sz22, sz22, sz22, sz24, sz22, sz25]) hf
theorem bv87 {parts : List (Nat × Value)} {cs : List Value} (hf : fillL (plc [(0, 1), (1, 4), (5, 9), (14, 10)]) ([.bool false] ++ (ints .u64 (List.replicate 4 0) ++ ([.int .u64 ((0 : Nat) : Int), .int .u64 ((0 : Nat) : Int), .int .u64 ((0 : Nat) : Int)] ++ (ints .u64 (List.replicate 4 0) ++ ([.int .u64 ((0 : Nat) : Int), .slice none 0 0, .int .i64 ((0 : Nat) : Int), .int .u64 ((0 : Nat) : Int), .int .u64 ((0 : Nat) : Int), .int .u64 ((0 : Nat) : Int)] ++ (ints .u64 (List.replicate 4 0) ++ ([.int .u64 ((0 : Nat) : Int), .slice none 0 0]))))))) parts = some cs) : buildV Tryd.prog 87 parts = some (.agg ⟨cs⟩) := bv_struct Tryd.underlying87 zr87 rfl (by simp [sz4, sz24, sz30, sz85]) hf
theorem bv158 {parts : List (Nat × Value)} {cs : List Value} (hf : fillL (plc [(0, 1), (1, 1), (2, 1)]) ([.slice none 0 0, .bool false, .int .i64 ((0 : Nat) : Int)]) parts = some cs) : buildV Tryd.prog 158 parts = some (.agg ⟨cs⟩) := bv_struct Tryd.underlying158 zr158 rfl (by simp [sz25, sz4, sz32]) hf
theorem bv160 {parts : List (Nat × Value)} {cs : List Value} (hf : fillL (plc [(0, 3)]) ([.slice none 0 0, .bool false, .int .i64 ((0 : Nat) : Int)]) parts = some cs) : buildV Tryd.prog 160 parts = some (.agg ⟨cs⟩) := bv_struct Tryd.underlying160 zr160 rfl (by simp [sz158]) hf
theorem bv161 {parts : List (Nat × Value)} {cs : List Value} (hf : fillL (plc [(0, 3)]) ([.slice none 0 0, .bool false, .int .i64 ((0 : Nat) : Int)]) parts = some cs) : buildV Tryd.prog 161 parts = some (.agg ⟨cs⟩) := bv_struct Tryd.underlying161 zr161 rfl (by simp [sz158]) hf
theorem if30 : kindT Tryd.prog 30 ≠ 7 ∧ (Tryd.prog.underlying 30).isSome = true := ⟨by rw [kd30]; decide, by rw [Tryd.underlying30]; rfl⟩
theorem if71 : kindT Tryd.prog 71 ≠ 7 ∧ (Tryd.prog.underlying 71).isSome = true := ⟨by rw [kd71]; decide, by rw [Tryd.underlying71]; rfl⟩
theorem if87 : kindT Tryd.prog 87 ≠ 7 ∧ (Tryd.prog.underlying 87).isSome = true := ⟨by rw [kd87]; decide, by rw [Tryd.underlying87]; rfl⟩
theorem ek44 : eqKs Tryd.prog 44 = some (List.replicate 32 (.int)) := by kernel_rfl
theorem ne44 {a b : Hsh} : binV Tryd.prog .neq 44 (hV a) (hV b) = some (.bool (decide (¬ a = b))) := neH ek44 ag44
theorem ek24 : eqKs Tryd.prog 24 = some (List.replicate 4 (.int)) := by kernel_rfl
theorem eq24 {x y : List Nat} (hx : x.length = 4) (hy : y.length = 4) : binV Tryd.prog .eql 24 (.agg ⟨ints .u64 x⟩) (.agg ⟨ints .u64 y⟩) = some (.bool (decide (x = y))) := eqIs ek24 ag24 hx hy
theorem ap25_9 {z : Value} (hz : zeroT Tryd.prog 5 = some z) (hl : z.cells.toList.length = 1) : AppT Tryd.prog 25 9 5 1 1 z := ⟨Tryd.underlying25, by simp [notInt, Tryd.underlying9], sz5, bs5, hz, by decide, by decide, hl, by decide⟩
theorem ap25_25 {z : Value} (hz : zeroT Tryd.prog 5 = some z) (hl : z.cells.toList.length = 1) : AppT Tryd.prog 25 25 5 1 1 z := ⟨Tryd.underlying25, by simp [notInt, Tryd.underlying25], sz5, bs5, hz, by decide, by decide, hl, by decide⟩
theorem ap68_68 {z : Value} (hz : zeroT Tryd.prog 85 = some z) (hl : z.cells.toList.length = 10) : AppT Tryd.prog 68 68 85 10 96 z := ⟨Tryd.underlying68, by simp [notInt, Tryd.underlying68], sz85, bs85, hz, by decide, by decide, hl, by decide⟩
end Go.Proofs.YtjimjolfnimimaaDoor
