/- Facts of the program. -/
import Derived.Test.YtjimjolfnimimaaDoorAmB
import Derived.Test.YtjimjolfnimimaaDoorProg
import Derived.KernelRfl
import Derived.Test.YtjimjolfnimimaaDoorSy
set_option linter.unusedSimpArgs false
set_option linter.unusedVariables false
/- Facts of this seat's program: each type's size, bytes, zero and kind; which functions may be entered; what the abstract machine asks of the program. -/
namespace Go.Proofs.YtjimjolfnimimaaDoor
open Go Go.Am
set_option maxRecDepth 100000
theorem sz3 : szT Tryd.prog 3 = some 1 := by kernel_rfl
theorem ag3 : aggT Tryd.prog 3 = some false := by kernel_rfl
theorem sz4 : szT Tryd.prog 4 = some 1 := by kernel_rfl
theorem ag4 : aggT Tryd.prog 4 = some false := by kernel_rfl
theorem sz5 : szT Tryd.prog 5 = some 1 := by kernel_rfl
theorem bs5 : bytesT Tryd.prog 5 = some 1 := by kernel_rfl
theorem zr5 : zeroT Tryd.prog 5 = some (.int .u8 0) := by kernel_rfl
theorem ag5 : aggT Tryd.prog 5 = some false := by kernel_rfl
theorem sz22 : szT Tryd.prog 22 = some 1 := by kernel_rfl
theorem zr22 : zeroT Tryd.prog 22 = some (.int .u64 0) := by kernel_rfl
theorem ag22 : aggT Tryd.prog 22 = some false := by kernel_rfl
theorem sz25 : szT Tryd.prog 25 = some 1 := by kernel_rfl
theorem zr25 : zeroT Tryd.prog 25 = some (.slice none 0 0) := by kernel_rfl
theorem ag25 : aggT Tryd.prog 25 = some false := by kernel_rfl
theorem kd25 : kindT Tryd.prog 25 = 3 := by kernel_rfl
theorem sz32 : szT Tryd.prog 32 = some 1 := by kernel_rfl
theorem ag32 : aggT Tryd.prog 32 = some false := by kernel_rfl
theorem sz44 : szT Tryd.prog 44 = some 32 := by kernel_rfl
theorem bs44 : bytesT Tryd.prog 44 = some 32 := by kernel_rfl
theorem zr44 : zeroT Tryd.prog 44 = some (.agg ⟨List.replicate 32 (.int .u8 0)⟩) := by kernel_rfl
theorem ag44 : aggT Tryd.prog 44 = some true := by kernel_rfl
theorem kd97 : kindT Tryd.prog 97 = 2 := by kernel_rfl
theorem kd105 : kindT Tryd.prog 105 = 2 := by kernel_rfl
theorem sz114 : szT Tryd.prog 114 = some 1 := by kernel_rfl
theorem ag114 : aggT Tryd.prog 114 = some false := by kernel_rfl
theorem sz116 : szT Tryd.prog 116 = some 33 := by kernel_rfl
theorem zr116 : zeroT Tryd.prog 116 = some (.agg ⟨List.replicate 32 (.int .u8 0) ++ [(.slice none 0 0)]⟩) := by kernel_rfl
theorem ag116 : aggT Tryd.prog 116 = some true := by kernel_rfl
theorem sz118 : szT Tryd.prog 118 = some 97 := by kernel_rfl
theorem bs118 : bytesT Tryd.prog 118 = some 120 := by kernel_rfl
theorem zr118 : zeroT Tryd.prog 118 = some (.agg ⟨List.replicate 96 (.int .u8 0) ++ [(.slice none 0 0)]⟩) := by kernel_rfl
theorem ag118 : aggT Tryd.prog 118 = some true := by kernel_rfl
theorem sz121 : szT Tryd.prog 121 = some 33 := by kernel_rfl
theorem ag121 : aggT Tryd.prog 121 = some true := by kernel_rfl
theorem sz123 : szT Tryd.prog 123 = some 97 := by kernel_rfl
theorem bs123 : bytesT Tryd.prog 123 = some 120 := by kernel_rfl
theorem zr123 : zeroT Tryd.prog 123 = some (.agg ⟨List.replicate 96 (.int .u8 0) ++ [(.slice none 0 0)]⟩) := by kernel_rfl
theorem ag123 : aggT Tryd.prog 123 = some true := by kernel_rfl
theorem kd134 : kindT Tryd.prog 134 = 2 := by kernel_rfl
theorem sz138 : szT Tryd.prog 138 = some 64 := by kernel_rfl
theorem zr138 : zeroT Tryd.prog 138 = some (.agg ⟨List.replicate 64 (.int .u8 0)⟩) := by kernel_rfl
theorem ag138 : aggT Tryd.prog 138 = some true := by kernel_rfl
theorem zr148 : zeroT Tryd.prog 148 = some (.agg ⟨[(.slice none 0 0)] ++ [(.int .i64 0), (.int .i64 0)]⟩) := by kernel_rfl
theorem sz158 : szT Tryd.prog 158 = some 3 := by kernel_rfl
theorem zr158 : zeroT Tryd.prog 158 = some (.agg ⟨[(.slice none 0 0)] ++ [(.bool false)] ++ [(.int .i64 0)]⟩) := by kernel_rfl
theorem zr160 : zeroT Tryd.prog 160 = some (.agg ⟨[(.slice none 0 0)] ++ [(.bool false)] ++ [(.int .i64 0)]⟩) := by kernel_rfl
theorem zr161 : zeroT Tryd.prog 161 = some (.agg ⟨[(.slice none 0 0)] ++ [(.bool false)] ++ [(.int .i64 0)]⟩) := by kernel_rfl
theorem sz179 : szT Tryd.prog 179 = some 1 := by kernel_rfl
theorem ag179 : aggT Tryd.prog 179 = some false := by kernel_rfl
theorem kd179 : kindT Tryd.prog 179 = 2 := by kernel_rfl
theorem zr181 : zeroT Tryd.prog 181 = some (.agg ⟨[(.pointer none)] ++ [(.int .i64 0)] ++ [(.bool false)]⟩) := by kernel_rfl
theorem sz189 : szT Tryd.prog 189 = some 1 := by kernel_rfl
theorem ag189 : aggT Tryd.prog 189 = some false := by kernel_rfl
theorem sz190 : szT Tryd.prog 190 = some 8 := by kernel_rfl
theorem zr190 : zeroT Tryd.prog 190 = some (.agg ⟨List.replicate 8 (.int .u32 0)⟩) := by kernel_rfl
theorem ag190 : aggT Tryd.prog 190 = some true := by kernel_rfl
theorem sz191 : szT Tryd.prog 191 = some 8 := by kernel_rfl
theorem zr191 : zeroT Tryd.prog 191 = some (.agg ⟨List.replicate 8 (.int .u32 0)⟩) := by kernel_rfl
theorem zr193 : zeroT Tryd.prog 193 = some (.agg ⟨List.replicate 128 (.int .u8 0)⟩) := by kernel_rfl
theorem kd194 : kindT Tryd.prog 194 = 2 := by kernel_rfl
theorem sz195 : szT Tryd.prog 195 = some 64 := by kernel_rfl
theorem zr195 : zeroT Tryd.prog 195 = some (.agg ⟨List.replicate 64 (.int .u32 0)⟩) := by kernel_rfl
theorem ag195 : aggT Tryd.prog 195 = some true := by kernel_rfl
theorem sz204 : szT Tryd.prog 204 = some 2 := by kernel_rfl
theorem zr204 : zeroT Tryd.prog 204 = some (.agg ⟨[(.pointer none), (.pointer none)]⟩) := by kernel_rfl
theorem ag204 : aggT Tryd.prog 204 = some true := by kernel_rfl
theorem sz205 : szT Tryd.prog 205 = some 1 := by kernel_rfl
theorem ag205 : aggT Tryd.prog 205 = some false := by kernel_rfl
theorem zr207 : zeroT Tryd.prog 207 = some (.agg ⟨List.replicate 32 (.int .u8 0) ++ [(.pointer none), (.pointer none), (.pointer none)]⟩) := by kernel_rfl
theorem zr215 : zeroT Tryd.prog 215 = some (.agg ⟨List.replicate 85 (.int .u8 0)⟩) := by kernel_rfl
theorem en10 : enters Tryd.prog 10 = true := by kernel_rfl
theorem en23 : enters Tryd.prog 23 = true := by kernel_rfl
theorem en24 : enters Tryd.prog 24 = true := by kernel_rfl
theorem en25 : enters Tryd.prog 25 = true := by kernel_rfl
theorem en26 : enters Tryd.prog 26 = true := by kernel_rfl
theorem en27 : enters Tryd.prog 27 = true := by kernel_rfl
theorem en28 : enters Tryd.prog 28 = true := by kernel_rfl
theorem en29 : enters Tryd.prog 29 = true := by kernel_rfl
theorem en30 : enters Tryd.prog 30 = true := by kernel_rfl
theorem en31 : enters Tryd.prog 31 = true := by kernel_rfl
theorem en46 : enters Tryd.prog 46 = true := by kernel_rfl
theorem en49 : enters Tryd.prog 49 = true := by kernel_rfl
theorem en51 : enters Tryd.prog 51 = true := by kernel_rfl
theorem en53 : enters Tryd.prog 53 = true := by kernel_rfl
theorem en54 : enters Tryd.prog 54 = true := by kernel_rfl
theorem en56 : enters Tryd.prog 56 = true := by kernel_rfl
theorem en58 : enters Tryd.prog 58 = true := by kernel_rfl
theorem en60 : enters Tryd.prog 60 = true := by kernel_rfl
theorem en61 : enters Tryd.prog 61 = true := by kernel_rfl
theorem en62 : enters Tryd.prog 62 = true := by kernel_rfl
theorem en63 : enters Tryd.prog 63 = true := by kernel_rfl
theorem en64 : enters Tryd.prog 64 = true := by kernel_rfl
theorem en65 : enters Tryd.prog 65 = true := by kernel_rfl
theorem en66 : enters Tryd.prog 66 = true := by kernel_rfl
theorem en67 : enters Tryd.prog 67 = true := by kernel_rfl
theorem en68 : enters Tryd.prog 68 = true := by kernel_rfl
theorem en69 : enters Tryd.prog 69 = true := by kernel_rfl
theorem en70 : enters Tryd.prog 70 = true := by kernel_rfl
theorem en71 : enters Tryd.prog 71 = true := by kernel_rfl
theorem en72 : enters Tryd.prog 72 = true := by kernel_rfl
theorem en73 : enters Tryd.prog 73 = true := by kernel_rfl
theorem en74 : enters Tryd.prog 74 = true := by kernel_rfl
theorem en75 : enters Tryd.prog 75 = true := by kernel_rfl
theorem en79 : enters Tryd.prog 79 = true := by kernel_rfl
theorem en83 : enters Tryd.prog 83 = true := by kernel_rfl
theorem en84 : enters Tryd.prog 84 = true := by kernel_rfl
theorem en92 : enters Tryd.prog 92 = true := by kernel_rfl
theorem en96 : enters Tryd.prog 96 = true := by kernel_rfl
theorem en97 : enters Tryd.prog 97 = true := by kernel_rfl
theorem en98 : enters Tryd.prog 98 = true := by kernel_rfl
theorem en100 : enters Tryd.prog 100 = true := by kernel_rfl
theorem en101 : enters Tryd.prog 101 = true := by kernel_rfl
theorem en103 : enters Tryd.prog 103 = true := by kernel_rfl
theorem en106 : enters Tryd.prog 106 = true := by kernel_rfl
theorem en107 : enters Tryd.prog 107 = true := by kernel_rfl
theorem en108 : enters Tryd.prog 108 = true := by kernel_rfl
theorem en109 : enters Tryd.prog 109 = true := by kernel_rfl
theorem en110 : enters Tryd.prog 110 = true := by kernel_rfl
theorem en111 : enters Tryd.prog 111 = true := by kernel_rfl
theorem en112 : enters Tryd.prog 112 = true := by kernel_rfl
theorem en113 : enters Tryd.prog 113 = true := by kernel_rfl
theorem en114 : enters Tryd.prog 114 = true := by kernel_rfl
theorem en115 : enters Tryd.prog 115 = true := by kernel_rfl
theorem en116 : enters Tryd.prog 116 = true := by kernel_rfl
theorem en117 : enters Tryd.prog 117 = true := by kernel_rfl
theorem en119 : enters Tryd.prog 119 = true := by kernel_rfl
theorem en122 : enters Tryd.prog 122 = true := by kernel_rfl
theorem en123 : enters Tryd.prog 123 = true := by kernel_rfl
theorem en127 : enters Tryd.prog 127 = true := by kernel_rfl
theorem en128 : enters Tryd.prog 128 = true := by kernel_rfl
theorem en129 : enters Tryd.prog 129 = true := by kernel_rfl
theorem en130 : enters Tryd.prog 130 = true := by kernel_rfl
theorem en131 : enters Tryd.prog 131 = true := by kernel_rfl
theorem en132 : enters Tryd.prog 132 = true := by kernel_rfl
theorem en133 : enters Tryd.prog 133 = true := by kernel_rfl
theorem en136 : enters Tryd.prog 136 = true := by kernel_rfl
theorem en137 : enters Tryd.prog 137 = true := by kernel_rfl
theorem en138 : enters Tryd.prog 138 = true := by kernel_rfl
theorem en139 : enters Tryd.prog 139 = true := by kernel_rfl
theorem good : GoodP Tryd.prog := GoodP.of_checks (by kernel_rfl) (by kernel_rfl)
theorem mixed : Tryd.prog.follows .mixedOrders = true := by kernel_rfl
end Go.Proofs.YtjimjolfnimimaaDoor

/- Facts of this program, for the walks. -/
namespace Go.Proofs.YtjimjolfnimimaaDoor
open Go Go.Am
set_option maxRecDepth 100000
theorem fa116_0 (b o : Nat) : fieldAddrV Tryd.prog 116 (.pointer (some ⟨b, o, none⟩)) 0 = some (.pointer (some ⟨b, o, none⟩)) := by simp [fieldAddrV, Tryd.underlying116, sz44]
theorem fa116_1 (b o : Nat) : fieldAddrV Tryd.prog 116 (.pointer (some ⟨b, o, none⟩)) 1 = some (.pointer (some ⟨b, o + 32, none⟩)) := by simp [fieldAddrV, Tryd.underlying116, sz114]
theorem fa118_0 (b o : Nat) : fieldAddrV Tryd.prog 118 (.pointer (some ⟨b, o, none⟩)) 0 = some (.pointer (some ⟨b, o, none⟩)) := by simp [fieldAddrV, Tryd.underlying118, sz44]
theorem fa118_1 (b o : Nat) : fieldAddrV Tryd.prog 118 (.pointer (some ⟨b, o, none⟩)) 1 = some (.pointer (some ⟨b, o + 32, none⟩)) := by simp [fieldAddrV, Tryd.underlying118, sz44]
theorem fa118_2 (b o : Nat) : fieldAddrV Tryd.prog 118 (.pointer (some ⟨b, o, none⟩)) 2 = some (.pointer (some ⟨b, o + 64, none⟩)) := by simp [fieldAddrV, Tryd.underlying118, sz116]
theorem fa121_0 (b o : Nat) : fieldAddrV Tryd.prog 121 (.pointer (some ⟨b, o, none⟩)) 0 = some (.pointer (some ⟨b, o, none⟩)) := by simp [fieldAddrV, Tryd.underlying121, sz44]
theorem fa121_1 (b o : Nat) : fieldAddrV Tryd.prog 121 (.pointer (some ⟨b, o, none⟩)) 1 = some (.pointer (some ⟨b, o + 32, none⟩)) := by simp [fieldAddrV, Tryd.underlying121, sz114]
theorem fa123_0 (b o : Nat) : fieldAddrV Tryd.prog 123 (.pointer (some ⟨b, o, none⟩)) 0 = some (.pointer (some ⟨b, o, none⟩)) := by simp [fieldAddrV, Tryd.underlying123, sz44]
theorem fa123_1 (b o : Nat) : fieldAddrV Tryd.prog 123 (.pointer (some ⟨b, o, none⟩)) 1 = some (.pointer (some ⟨b, o + 32, none⟩)) := by simp [fieldAddrV, Tryd.underlying123, sz44]
theorem fa123_2 (b o : Nat) : fieldAddrV Tryd.prog 123 (.pointer (some ⟨b, o, none⟩)) 2 = some (.pointer (some ⟨b, o + 64, none⟩)) := by simp [fieldAddrV, Tryd.underlying123, sz121]
theorem fa138_0 (b o : Nat) : fieldAddrV Tryd.prog 138 (.pointer (some ⟨b, o, none⟩)) 0 = some (.pointer (some ⟨b, o, none⟩)) := by simp [fieldAddrV, Tryd.underlying138, sz44]
theorem fa138_1 (b o : Nat) : fieldAddrV Tryd.prog 138 (.pointer (some ⟨b, o, none⟩)) 1 = some (.pointer (some ⟨b, o + 32, none⟩)) := by simp [fieldAddrV, Tryd.underlying138, sz44]
theorem fa148_0 (b o : Nat) : fieldAddrV Tryd.prog 148 (.pointer (some ⟨b, o, none⟩)) 0 = some (.pointer (some ⟨b, o, none⟩)) := by simp [fieldAddrV, Tryd.underlying148, sz25]
theorem fa148_1 (b o : Nat) : fieldAddrV Tryd.prog 148 (.pointer (some ⟨b, o, none⟩)) 1 = some (.pointer (some ⟨b, o + 1, none⟩)) := by simp [fieldAddrV, Tryd.underlying148, sz3]
theorem fa148_2 (b o : Nat) : fieldAddrV Tryd.prog 148 (.pointer (some ⟨b, o, none⟩)) 2 = some (.pointer (some ⟨b, o + 2, none⟩)) := by simp [fieldAddrV, Tryd.underlying148, sz3]
theorem fa158_0 (b o : Nat) : fieldAddrV Tryd.prog 158 (.pointer (some ⟨b, o, none⟩)) 0 = some (.pointer (some ⟨b, o, none⟩)) := by simp [fieldAddrV, Tryd.underlying158, sz25]
theorem fa158_1 (b o : Nat) : fieldAddrV Tryd.prog 158 (.pointer (some ⟨b, o, none⟩)) 1 = some (.pointer (some ⟨b, o + 1, none⟩)) := by simp [fieldAddrV, Tryd.underlying158, sz4]
theorem fa158_2 (b o : Nat) : fieldAddrV Tryd.prog 158 (.pointer (some ⟨b, o, none⟩)) 2 = some (.pointer (some ⟨b, o + 2, none⟩)) := by simp [fieldAddrV, Tryd.underlying158, sz32]
theorem fa160_0 (b o : Nat) : fieldAddrV Tryd.prog 160 (.pointer (some ⟨b, o, none⟩)) 0 = some (.pointer (some ⟨b, o, none⟩)) := by simp [fieldAddrV, Tryd.underlying160, sz158]
theorem fa161_0 (b o : Nat) : fieldAddrV Tryd.prog 161 (.pointer (some ⟨b, o, none⟩)) 0 = some (.pointer (some ⟨b, o, none⟩)) := by simp [fieldAddrV, Tryd.underlying161, sz158]
theorem fa181_0 (b o : Nat) : fieldAddrV Tryd.prog 181 (.pointer (some ⟨b, o, none⟩)) 0 = some (.pointer (some ⟨b, o, none⟩)) := by simp [fieldAddrV, Tryd.underlying181, sz179]
theorem fa181_1 (b o : Nat) : fieldAddrV Tryd.prog 181 (.pointer (some ⟨b, o, none⟩)) 1 = some (.pointer (some ⟨b, o + 1, none⟩)) := by simp [fieldAddrV, Tryd.underlying181, sz3]
theorem fa181_2 (b o : Nat) : fieldAddrV Tryd.prog 181 (.pointer (some ⟨b, o, none⟩)) 2 = some (.pointer (some ⟨b, o + 2, none⟩)) := by simp [fieldAddrV, Tryd.underlying181, sz4]
theorem fa207_0 (b o : Nat) : fieldAddrV Tryd.prog 207 (.pointer (some ⟨b, o, none⟩)) 0 = some (.pointer (some ⟨b, o, none⟩)) := by simp [fieldAddrV, Tryd.underlying207, sz44]
theorem fa207_1 (b o : Nat) : fieldAddrV Tryd.prog 207 (.pointer (some ⟨b, o, none⟩)) 1 = some (.pointer (some ⟨b, o + 32, none⟩)) := by simp [fieldAddrV, Tryd.underlying207, sz204]
theorem fa207_2 (b o : Nat) : fieldAddrV Tryd.prog 207 (.pointer (some ⟨b, o, none⟩)) 2 = some (.pointer (some ⟨b, o + 34, none⟩)) := by simp [fieldAddrV, Tryd.underlying207, sz205]
theorem nwz44 {E : Env} {d : Nat} {ty : TypeId} {p : String} {a : Array Edge} {g : Option (Nat × Bool)} : NewY Tryd.prog E ⟨some d, .alloc 44, ty, p, a, g⟩ (.cells (hC zeroH) 44 true) (fun h => .pointer (some ⟨h, 0, none⟩)) := nw zr44 rfl
theorem nwz116 {E : Env} {d : Nat} {ty : TypeId} {p : String} {a : Array Edge} {g : Option (Nat × Bool)} : NewY Tryd.prog E ⟨some d, .alloc 116, ty, p, a, g⟩ (.cells (hC zeroH ++ ([.slice none 0 0])) 116 true) (fun h => .pointer (some ⟨h, 0, none⟩)) := nw zr116 rfl
theorem nwz118 {E : Env} {d : Nat} {ty : TypeId} {p : String} {a : Array Edge} {g : Option (Nat × Bool)} : NewY Tryd.prog E ⟨some d, .alloc 118, ty, p, a, g⟩ (.cells (hC zeroH ++ (hC zeroH ++ (hC zeroH ++ ([.slice none 0 0])))) 118 true) (fun h => .pointer (some ⟨h, 0, none⟩)) := nw zr118 rfl
theorem nwz123 {E : Env} {d : Nat} {ty : TypeId} {p : String} {a : Array Edge} {g : Option (Nat × Bool)} : NewY Tryd.prog E ⟨some d, .alloc 123, ty, p, a, g⟩ (.cells (hC zeroH ++ (hC zeroH ++ (hC zeroH ++ ([.slice none 0 0])))) 123 true) (fun h => .pointer (some ⟨h, 0, none⟩)) := nw zr123 rfl
theorem nwz138 {E : Env} {d : Nat} {ty : TypeId} {p : String} {a : Array Edge} {g : Option (Nat × Bool)} : NewY Tryd.prog E ⟨some d, .alloc 138, ty, p, a, g⟩ (.cells (hC zeroH ++ (hC zeroH)) 138 true) (fun h => .pointer (some ⟨h, 0, none⟩)) := nw zr138 rfl
theorem nwz191 {E : Env} {d : Nat} {ty : TypeId} {p : String} {a : Array Edge} {g : Option (Nat × Bool)} : NewY Tryd.prog E ⟨some d, .alloc 191, ty, p, a, g⟩ (.cells (ints .u32 (List.replicate 8 0)) 191 true) (fun h => .pointer (some ⟨h, 0, none⟩)) := nw zr191 rfl
theorem nwz193 {E : Env} {d : Nat} {ty : TypeId} {p : String} {a : Array Edge} {g : Option (Nat × Bool)} : NewY Tryd.prog E ⟨some d, .alloc 193, ty, p, a, g⟩ (.cells (ints .u8 (List.replicate 128 0)) 193 true) (fun h => .pointer (some ⟨h, 0, none⟩)) := nw zr193 rfl
theorem nwz195 {E : Env} {d : Nat} {ty : TypeId} {p : String} {a : Array Edge} {g : Option (Nat × Bool)} : NewY Tryd.prog E ⟨some d, .alloc 195, ty, p, a, g⟩ (.cells (ints .u32 (List.replicate 64 0)) 195 true) (fun h => .pointer (some ⟨h, 0, none⟩)) := nw zr195 rfl
theorem nwz207 {E : Env} {d : Nat} {ty : TypeId} {p : String} {a : Array Edge} {g : Option (Nat × Bool)} : NewY Tryd.prog E ⟨some d, .alloc 207, ty, p, a, g⟩ (.cells (hC zeroH ++ ([.pointer none, .pointer none, .pointer none])) 207 true) (fun h => .pointer (some ⟨h, 0, none⟩)) := nw zr207 rfl
theorem nwz215 {E : Env} {d : Nat} {ty : TypeId} {p : String} {a : Array Edge} {g : Option (Nat × Bool)} : NewY Tryd.prog E ⟨some d, .alloc 215, ty, p, a, g⟩ (.cells (ints .u8 (List.replicate 85 0)) 215 true) (fun h => .pointer (some ⟨h, 0, none⟩)) := nw zr215 rfl
theorem bv44 {parts : List (Nat × Value)} {cs : List Value} (hf : fillL (fun i => some (i * 1, 1)) (hC zeroH) parts = some cs) : buildV Tryd.prog 44 parts = some (.agg ⟨cs⟩) := bv_arr Tryd.underlying44 sz5 zr44 rfl hf
theorem bvz44 : buildV Tryd.prog 44 [] = some (hV zeroH) := bv_nil Tryd.underlying44 sz5 zr44 rfl
theorem bv116 {parts : List (Nat × Value)} {cs : List Value} (hf : fillL (plc [(0, 32), (32, 1)]) (hC zeroH ++ ([.slice none 0 0])) parts = some cs) : buildV Tryd.prog 116 parts = some (.agg ⟨cs⟩) := bv_struct Tryd.underlying116 zr116 rfl (by simp [sz44, sz114]) hf
theorem bv118 {parts : List (Nat × Value)} {cs : List Value} (hf : fillL (plc [(0, 32), (32, 32), (64, 33)]) (hC zeroH ++ (hC zeroH ++ (hC zeroH ++ ([.slice none 0 0])))) parts = some cs) : buildV Tryd.prog 118 parts = some (.agg ⟨cs⟩) := bv_struct Tryd.underlying118 zr118 rfl (by simp [sz44, sz44, sz116]) hf
theorem bv123 {parts : List (Nat × Value)} {cs : List Value} (hf : fillL (plc [(0, 32), (32, 32), (64, 33)]) (hC zeroH ++ (hC zeroH ++ (hC zeroH ++ ([.slice none 0 0])))) parts = some cs) : buildV Tryd.prog 123 parts = some (.agg ⟨cs⟩) := bv_struct Tryd.underlying123 zr123 rfl (by simp [sz44, sz44, sz121]) hf
theorem bv138 {parts : List (Nat × Value)} {cs : List Value} (hf : fillL (plc [(0, 32), (32, 32)]) (hC zeroH ++ (hC zeroH)) parts = some cs) : buildV Tryd.prog 138 parts = some (.agg ⟨cs⟩) := bv_struct Tryd.underlying138 zr138 rfl (by simp [sz44, sz44]) hf
theorem bv148 {parts : List (Nat × Value)} {cs : List Value} (hf : fillL (plc [(0, 1), (1, 1), (2, 1)]) ([.slice none 0 0, .int .i64 ((0 : Nat) : Int), .int .i64 ((0 : Nat) : Int)]) parts = some cs) : buildV Tryd.prog 148 parts = some (.agg ⟨cs⟩) := bv_struct Tryd.underlying148 zr148 rfl (by simp [sz25, sz3, sz3]) hf
theorem bv158 {parts : List (Nat × Value)} {cs : List Value} (hf : fillL (plc [(0, 1), (1, 1), (2, 1)]) ([.slice none 0 0, .bool false, .int .i64 ((0 : Nat) : Int)]) parts = some cs) : buildV Tryd.prog 158 parts = some (.agg ⟨cs⟩) := bv_struct Tryd.underlying158 zr158 rfl (by simp [sz25, sz4, sz32]) hf
theorem bv160 {parts : List (Nat × Value)} {cs : List Value} (hf : fillL (plc [(0, 3)]) ([.slice none 0 0, .bool false, .int .i64 ((0 : Nat) : Int)]) parts = some cs) : buildV Tryd.prog 160 parts = some (.agg ⟨cs⟩) := bv_struct Tryd.underlying160 zr160 rfl (by simp [sz158]) hf
theorem bv161 {parts : List (Nat × Value)} {cs : List Value} (hf : fillL (plc [(0, 3)]) ([.slice none 0 0, .bool false, .int .i64 ((0 : Nat) : Int)]) parts = some cs) : buildV Tryd.prog 161 parts = some (.agg ⟨cs⟩) := bv_struct Tryd.underlying161 zr161 rfl (by simp [sz158]) hf
theorem bv181 {parts : List (Nat × Value)} {cs : List Value} (hf : fillL (plc [(0, 1), (1, 1), (2, 1)]) ([.pointer none, .int .i64 ((0 : Nat) : Int), .bool false]) parts = some cs) : buildV Tryd.prog 181 parts = some (.agg ⟨cs⟩) := bv_struct Tryd.underlying181 zr181 rfl (by simp [sz179, sz3, sz4]) hf
theorem bv204 {parts : List (Nat × Value)} {cs : List Value} (hf : fillL (fun i => some (i * 1, 1)) ([.pointer none, .pointer none]) parts = some cs) : buildV Tryd.prog 204 parts = some (.agg ⟨cs⟩) := bv_arr Tryd.underlying204 sz179 zr204 rfl hf
theorem bv207 {parts : List (Nat × Value)} {cs : List Value} (hf : fillL (plc [(0, 32), (32, 2), (34, 1)]) (hC zeroH ++ ([.pointer none, .pointer none, .pointer none])) parts = some cs) : buildV Tryd.prog 207 parts = some (.agg ⟨cs⟩) := bv_struct Tryd.underlying207 zr207 rfl (by simp [sz44, sz204, sz205]) hf
theorem ek44 : eqKs Tryd.prog 44 = some (List.replicate 32 (.int)) := by kernel_rfl
theorem eq44 {a b : Hsh} : binV Tryd.prog .eql 44 (hV a) (hV b) = some (.bool (decide (a = b))) := eqH ek44 ag44
theorem ne44 {a b : Hsh} : binV Tryd.prog .neq 44 (hV a) (hV b) = some (.bool (decide (¬ a = b))) := neH ek44 ag44
theorem ap25_9 {z : Value} (hz : zeroT Tryd.prog 5 = some z) (hl : z.cells.toList.length = 1) : AppT Tryd.prog 25 9 5 1 1 z := ⟨Tryd.underlying25, by simp [notInt, Tryd.underlying9], sz5, bs5, hz, by decide, by decide, hl, by decide⟩
theorem ap25_25 {z : Value} (hz : zeroT Tryd.prog 5 = some z) (hl : z.cells.toList.length = 1) : AppT Tryd.prog 25 25 5 1 1 z := ⟨Tryd.underlying25, by simp [notInt, Tryd.underlying25], sz5, bs5, hz, by decide, by decide, hl, by decide⟩
theorem ap52_52 {z : Value} (hz : zeroT Tryd.prog 123 = some z) (hl : z.cells.toList.length = 97) : AppT Tryd.prog 52 52 123 97 120 z := ⟨Tryd.underlying52, by simp [notInt, Tryd.underlying52], sz123, bs123, hz, by decide, by decide, hl, by decide⟩
theorem ap54_54 {z : Value} (hz : zeroT Tryd.prog 118 = some z) (hl : z.cells.toList.length = 97) : AppT Tryd.prog 54 54 118 97 120 z := ⟨Tryd.underlying54, by simp [notInt, Tryd.underlying54], sz118, bs118, hz, by decide, by decide, hl, by decide⟩
theorem ap114_114 {z : Value} (hz : zeroT Tryd.prog 44 = some z) (hl : z.cells.toList.length = 32) : AppT Tryd.prog 114 114 44 32 32 z := ⟨Tryd.underlying114, by simp [notInt, Tryd.underlying114], sz44, bs44, hz, by decide, by decide, hl, by decide⟩
end Go.Proofs.YtjimjolfnimimaaDoor
