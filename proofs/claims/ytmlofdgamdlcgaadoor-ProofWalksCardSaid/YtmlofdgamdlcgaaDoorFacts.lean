/- Facts of the program. -/
import Derived.Test.YtmlofdgamdlcgaaDoorAmB
import Derived.Test.YtmlofdgamdlcgaaDoorProg
import Derived.KernelRfl
import Derived.Test.YtmlofdgamdlcgaaDoorSy
set_option linter.unusedSimpArgs false
set_option linter.unusedVariables false
/- Facts of this seat's program: each type's size, bytes, zero and kind; which functions may be entered; what the abstract machine asks of the program. -/
namespace Go.Proofs.YtmlofdgamdlcgaaDoor
open Go Go.Am
set_option maxRecDepth 100000
theorem sz0 : szT Tryd.prog 0 = some 1 := by kernel_rfl
theorem bs0 : bytesT Tryd.prog 0 = some 0 := by kernel_rfl
theorem ag0 : aggT Tryd.prog 0 = some false := by kernel_rfl
theorem kd0 : kindT Tryd.prog 0 = 0 := by kernel_rfl
theorem sz1 : szT Tryd.prog 1 = some 1 := by kernel_rfl
theorem bs1 : bytesT Tryd.prog 1 = some 8 := by kernel_rfl
theorem zr1 : zeroT Tryd.prog 1 = some .nilFunc := by kernel_rfl
theorem ag1 : aggT Tryd.prog 1 = some false := by kernel_rfl
theorem kd1 : kindT Tryd.prog 1 = 6 := by kernel_rfl
theorem sz2 : szT Tryd.prog 2 = some 1 := by kernel_rfl
theorem bs2 : bytesT Tryd.prog 2 = some 8 := by kernel_rfl
theorem zr2 : zeroT Tryd.prog 2 = some (.int .i64 0) := by kernel_rfl
theorem ag2 : aggT Tryd.prog 2 = some false := by kernel_rfl
theorem kd2 : kindT Tryd.prog 2 = 0 := by kernel_rfl
theorem sz3 : szT Tryd.prog 3 = some 1 := by kernel_rfl
theorem bs3 : bytesT Tryd.prog 3 = some 8 := by kernel_rfl
theorem zr3 : zeroT Tryd.prog 3 = some (.int .i64 0) := by kernel_rfl
theorem ag3 : aggT Tryd.prog 3 = some false := by kernel_rfl
theorem kd3 : kindT Tryd.prog 3 = 0 := by kernel_rfl
theorem sz4 : szT Tryd.prog 4 = some 1 := by kernel_rfl
theorem bs4 : bytesT Tryd.prog 4 = some 1 := by kernel_rfl
theorem zr4 : zeroT Tryd.prog 4 = some (.bool false) := by kernel_rfl
theorem ag4 : aggT Tryd.prog 4 = some false := by kernel_rfl
theorem kd4 : kindT Tryd.prog 4 = 1 := by kernel_rfl
theorem sz5 : szT Tryd.prog 5 = some 1 := by kernel_rfl
theorem bs5 : bytesT Tryd.prog 5 = some 1 := by kernel_rfl
theorem zr5 : zeroT Tryd.prog 5 = some (.int .u8 0) := by kernel_rfl
theorem ag5 : aggT Tryd.prog 5 = some false := by kernel_rfl
theorem kd5 : kindT Tryd.prog 5 = 0 := by kernel_rfl
theorem sz6 : szT Tryd.prog 6 = some 1 := by kernel_rfl
theorem bs6 : bytesT Tryd.prog 6 = some 1 := by kernel_rfl
theorem zr6 : zeroT Tryd.prog 6 = some (.int .u8 0) := by kernel_rfl
theorem ag6 : aggT Tryd.prog 6 = some false := by kernel_rfl
theorem kd6 : kindT Tryd.prog 6 = 0 := by kernel_rfl
theorem sz7 : szT Tryd.prog 7 = some 4 := by kernel_rfl
theorem bs7 : bytesT Tryd.prog 7 = some 24 := by kernel_rfl
theorem zr7 : zeroT Tryd.prog 7 = some (.agg ⟨[(.int .i64 0), (.int .i64 0)] ++ [(.bool false)] ++ [(.int .u8 0)]⟩) := by kernel_rfl
theorem ag7 : aggT Tryd.prog 7 = some true := by kernel_rfl
theorem kd7 : kindT Tryd.prog 7 = 0 := by kernel_rfl
theorem sz8 : szT Tryd.prog 8 = some 4 := by kernel_rfl
theorem bs8 : bytesT Tryd.prog 8 = some 24 := by kernel_rfl
theorem zr8 : zeroT Tryd.prog 8 = some (.agg ⟨[(.int .i64 0), (.int .i64 0)] ++ [(.bool false)] ++ [(.int .u8 0)]⟩) := by kernel_rfl
theorem ag8 : aggT Tryd.prog 8 = some true := by kernel_rfl
theorem kd8 : kindT Tryd.prog 8 = 0 := by kernel_rfl
theorem sz9 : szT Tryd.prog 9 = some 1 := by kernel_rfl
theorem bs9 : bytesT Tryd.prog 9 = some 16 := by kernel_rfl
theorem zr9 : zeroT Tryd.prog 9 = some (.string .empty) := by kernel_rfl
theorem ag9 : aggT Tryd.prog 9 = some false := by kernel_rfl
theorem kd9 : kindT Tryd.prog 9 = 0 := by kernel_rfl
theorem sz10 : szT Tryd.prog 10 = some 1 := by kernel_rfl
theorem bs10 : bytesT Tryd.prog 10 = some 16 := by kernel_rfl
theorem zr10 : zeroT Tryd.prog 10 = some (.string .empty) := by kernel_rfl
theorem ag10 : aggT Tryd.prog 10 = some false := by kernel_rfl
theorem kd10 : kindT Tryd.prog 10 = 0 := by kernel_rfl
theorem sz11 : szT Tryd.prog 11 = some 1 := by kernel_rfl
theorem bs11 : bytesT Tryd.prog 11 = some 16 := by kernel_rfl
theorem zr11 : zeroT Tryd.prog 11 = some (.string .empty) := by kernel_rfl
theorem ag11 : aggT Tryd.prog 11 = some false := by kernel_rfl
theorem kd11 : kindT Tryd.prog 11 = 0 := by kernel_rfl
theorem sz12 : szT Tryd.prog 12 = some 1 := by kernel_rfl
theorem bs12 : bytesT Tryd.prog 12 = some 8 := by kernel_rfl
theorem zr12 : zeroT Tryd.prog 12 = some (.int .u64 0) := by kernel_rfl
theorem ag12 : aggT Tryd.prog 12 = some false := by kernel_rfl
theorem kd12 : kindT Tryd.prog 12 = 0 := by kernel_rfl
theorem sz13 : szT Tryd.prog 13 = some 2 := by kernel_rfl
theorem bs13 : bytesT Tryd.prog 13 = some 24 := by kernel_rfl
theorem zr13 : zeroT Tryd.prog 13 = some (.agg ⟨[(.string .empty)] ++ [(.int .u64 0)]⟩) := by kernel_rfl
theorem ag13 : aggT Tryd.prog 13 = some true := by kernel_rfl
theorem kd13 : kindT Tryd.prog 13 = 0 := by kernel_rfl
theorem sz14 : szT Tryd.prog 14 = some 2 := by kernel_rfl
theorem bs14 : bytesT Tryd.prog 14 = some 24 := by kernel_rfl
theorem zr14 : zeroT Tryd.prog 14 = some (.agg ⟨[(.string .empty)] ++ [(.int .u64 0)]⟩) := by kernel_rfl
theorem ag14 : aggT Tryd.prog 14 = some true := by kernel_rfl
theorem kd14 : kindT Tryd.prog 14 = 0 := by kernel_rfl
theorem sz15 : szT Tryd.prog 15 = some 1 := by kernel_rfl
theorem bs15 : bytesT Tryd.prog 15 = some 8 := by kernel_rfl
theorem zr15 : zeroT Tryd.prog 15 = some (.pointer none) := by kernel_rfl
theorem ag15 : aggT Tryd.prog 15 = some false := by kernel_rfl
theorem kd15 : kindT Tryd.prog 15 = 2 := by kernel_rfl
theorem sz16 : szT Tryd.prog 16 = some 1 := by kernel_rfl
theorem bs16 : bytesT Tryd.prog 16 = some 8 := by kernel_rfl
theorem zr16 : zeroT Tryd.prog 16 = some (.pointer none) := by kernel_rfl
theorem ag16 : aggT Tryd.prog 16 = some false := by kernel_rfl
theorem kd16 : kindT Tryd.prog 16 = 2 := by kernel_rfl
theorem sz17 : szT Tryd.prog 17 = some 1 := by kernel_rfl
theorem bs17 : bytesT Tryd.prog 17 = some 8 := by kernel_rfl
theorem zr17 : zeroT Tryd.prog 17 = some (.pointer none) := by kernel_rfl
theorem ag17 : aggT Tryd.prog 17 = some false := by kernel_rfl
theorem kd17 : kindT Tryd.prog 17 = 2 := by kernel_rfl
theorem sz18 : szT Tryd.prog 18 = some 1 := by kernel_rfl
theorem bs18 : bytesT Tryd.prog 18 = some 8 := by kernel_rfl
theorem zr18 : zeroT Tryd.prog 18 = some (.agg ⟨[(.pointer none)]⟩) := by kernel_rfl
theorem ag18 : aggT Tryd.prog 18 = some true := by kernel_rfl
theorem kd18 : kindT Tryd.prog 18 = 0 := by kernel_rfl
theorem sz19 : szT Tryd.prog 19 = some 1 := by kernel_rfl
theorem bs19 : bytesT Tryd.prog 19 = some 8 := by kernel_rfl
theorem zr19 : zeroT Tryd.prog 19 = some (.agg ⟨[(.pointer none)]⟩) := by kernel_rfl
theorem ag19 : aggT Tryd.prog 19 = some true := by kernel_rfl
theorem kd19 : kindT Tryd.prog 19 = 0 := by kernel_rfl
theorem sz20 : szT Tryd.prog 20 = some 1 := by kernel_rfl
theorem bs20 : bytesT Tryd.prog 20 = some 16 := by kernel_rfl
theorem zr20 : zeroT Tryd.prog 20 = some .nilIface := by kernel_rfl
theorem ag20 : aggT Tryd.prog 20 = some false := by kernel_rfl
theorem kd20 : kindT Tryd.prog 20 = 7 := by kernel_rfl
theorem sz21 : szT Tryd.prog 21 = some 1 := by kernel_rfl
theorem bs21 : bytesT Tryd.prog 21 = some 4 := by kernel_rfl
theorem zr21 : zeroT Tryd.prog 21 = some (.int .i32 0) := by kernel_rfl
theorem ag21 : aggT Tryd.prog 21 = some false := by kernel_rfl
theorem kd21 : kindT Tryd.prog 21 = 0 := by kernel_rfl
theorem sz22 : szT Tryd.prog 22 = some 32 := by kernel_rfl
theorem bs22 : bytesT Tryd.prog 22 = some 32 := by kernel_rfl
theorem zr22 : zeroT Tryd.prog 22 = some (.agg ⟨List.replicate 32 (.int .u8 0)⟩) := by kernel_rfl
theorem ag22 : aggT Tryd.prog 22 = some true := by kernel_rfl
theorem kd22 : kindT Tryd.prog 22 = 0 := by kernel_rfl
theorem sz23 : szT Tryd.prog 23 = some 32 := by kernel_rfl
theorem bs23 : bytesT Tryd.prog 23 = some 32 := by kernel_rfl
theorem zr23 : zeroT Tryd.prog 23 = some (.agg ⟨List.replicate 32 (.int .u8 0)⟩) := by kernel_rfl
theorem ag23 : aggT Tryd.prog 23 = some true := by kernel_rfl
theorem kd23 : kindT Tryd.prog 23 = 0 := by kernel_rfl
theorem sz24 : szT Tryd.prog 24 = some 1 := by kernel_rfl
theorem bs24 : bytesT Tryd.prog 24 = some 24 := by kernel_rfl
theorem zr24 : zeroT Tryd.prog 24 = some (.slice none 0 0) := by kernel_rfl
theorem ag24 : aggT Tryd.prog 24 = some false := by kernel_rfl
theorem kd24 : kindT Tryd.prog 24 = 3 := by kernel_rfl
theorem sz25 : szT Tryd.prog 25 = some 33 := by kernel_rfl
theorem bs25 : bytesT Tryd.prog 25 = some 56 := by kernel_rfl
theorem zr25 : zeroT Tryd.prog 25 = some (.agg ⟨List.replicate 32 (.int .u8 0) ++ [(.slice none 0 0)]⟩) := by kernel_rfl
theorem ag25 : aggT Tryd.prog 25 = some true := by kernel_rfl
theorem kd25 : kindT Tryd.prog 25 = 0 := by kernel_rfl
theorem sz26 : szT Tryd.prog 26 = some 33 := by kernel_rfl
theorem bs26 : bytesT Tryd.prog 26 = some 56 := by kernel_rfl
theorem zr26 : zeroT Tryd.prog 26 = some (.agg ⟨List.replicate 32 (.int .u8 0) ++ [(.slice none 0 0)]⟩) := by kernel_rfl
theorem ag26 : aggT Tryd.prog 26 = some true := by kernel_rfl
theorem kd26 : kindT Tryd.prog 26 = 0 := by kernel_rfl
theorem sz27 : szT Tryd.prog 27 = some 33 := by kernel_rfl
theorem bs27 : bytesT Tryd.prog 27 = some 56 := by kernel_rfl
theorem zr27 : zeroT Tryd.prog 27 = some (.agg ⟨List.replicate 32 (.int .u8 0) ++ [(.slice none 0 0)]⟩) := by kernel_rfl
theorem ag27 : aggT Tryd.prog 27 = some true := by kernel_rfl
theorem kd27 : kindT Tryd.prog 27 = 0 := by kernel_rfl
theorem sz28 : szT Tryd.prog 28 = some 1 := by kernel_rfl
theorem bs28 : bytesT Tryd.prog 28 = some 8 := by kernel_rfl
theorem zr28 : zeroT Tryd.prog 28 = some .nilFunc := by kernel_rfl
theorem ag28 : aggT Tryd.prog 28 = some false := by kernel_rfl
theorem kd28 : kindT Tryd.prog 28 = 6 := by kernel_rfl
theorem sz29 : szT Tryd.prog 29 = some 1 := by kernel_rfl
theorem bs29 : bytesT Tryd.prog 29 = some 8 := by kernel_rfl
theorem zr29 : zeroT Tryd.prog 29 = some (.int .i64 0) := by kernel_rfl
theorem ag29 : aggT Tryd.prog 29 = some false := by kernel_rfl
theorem kd29 : kindT Tryd.prog 29 = 0 := by kernel_rfl
theorem sz30 : szT Tryd.prog 30 = some 1 := by kernel_rfl
theorem bs30 : bytesT Tryd.prog 30 = some 0 := by kernel_rfl
theorem ag30 : aggT Tryd.prog 30 = some false := by kernel_rfl
theorem kd30 : kindT Tryd.prog 30 = 0 := by kernel_rfl
theorem sz31 : szT Tryd.prog 31 = some 1 := by kernel_rfl
theorem bs31 : bytesT Tryd.prog 31 = some 8 := by kernel_rfl
theorem zr31 : zeroT Tryd.prog 31 = some .nilFunc := by kernel_rfl
theorem ag31 : aggT Tryd.prog 31 = some false := by kernel_rfl
theorem kd31 : kindT Tryd.prog 31 = 6 := by kernel_rfl
theorem sz32 : szT Tryd.prog 32 = some 1 := by kernel_rfl
theorem bs32 : bytesT Tryd.prog 32 = some 0 := by kernel_rfl
theorem ag32 : aggT Tryd.prog 32 = some false := by kernel_rfl
theorem kd32 : kindT Tryd.prog 32 = 0 := by kernel_rfl
theorem sz33 : szT Tryd.prog 33 = some 1 := by kernel_rfl
theorem bs33 : bytesT Tryd.prog 33 = some 8 := by kernel_rfl
theorem zr33 : zeroT Tryd.prog 33 = some .nilFunc := by kernel_rfl
theorem ag33 : aggT Tryd.prog 33 = some false := by kernel_rfl
theorem kd33 : kindT Tryd.prog 33 = 6 := by kernel_rfl
theorem sz34 : szT Tryd.prog 34 = some 1 := by kernel_rfl
theorem bs34 : bytesT Tryd.prog 34 = some 8 := by kernel_rfl
theorem zr34 : zeroT Tryd.prog 34 = some .nilFunc := by kernel_rfl
theorem ag34 : aggT Tryd.prog 34 = some false := by kernel_rfl
theorem kd34 : kindT Tryd.prog 34 = 6 := by kernel_rfl
theorem sz35 : szT Tryd.prog 35 = some 1 := by kernel_rfl
theorem bs35 : bytesT Tryd.prog 35 = some 8 := by kernel_rfl
theorem zr35 : zeroT Tryd.prog 35 = some .nilFunc := by kernel_rfl
theorem ag35 : aggT Tryd.prog 35 = some false := by kernel_rfl
theorem kd35 : kindT Tryd.prog 35 = 6 := by kernel_rfl
theorem sz36 : szT Tryd.prog 36 = some 1 := by kernel_rfl
theorem bs36 : bytesT Tryd.prog 36 = some 8 := by kernel_rfl
theorem zr36 : zeroT Tryd.prog 36 = some .nilFunc := by kernel_rfl
theorem ag36 : aggT Tryd.prog 36 = some false := by kernel_rfl
theorem kd36 : kindT Tryd.prog 36 = 6 := by kernel_rfl
theorem sz37 : szT Tryd.prog 37 = some 1 := by kernel_rfl
theorem bs37 : bytesT Tryd.prog 37 = some 8 := by kernel_rfl
theorem zr37 : zeroT Tryd.prog 37 = some .nilFunc := by kernel_rfl
theorem ag37 : aggT Tryd.prog 37 = some false := by kernel_rfl
theorem kd37 : kindT Tryd.prog 37 = 6 := by kernel_rfl
theorem sz38 : szT Tryd.prog 38 = some 1 := by kernel_rfl
theorem bs38 : bytesT Tryd.prog 38 = some 8 := by kernel_rfl
theorem zr38 : zeroT Tryd.prog 38 = some .nilFunc := by kernel_rfl
theorem ag38 : aggT Tryd.prog 38 = some false := by kernel_rfl
theorem kd38 : kindT Tryd.prog 38 = 6 := by kernel_rfl
theorem sz39 : szT Tryd.prog 39 = some 1 := by kernel_rfl
theorem bs39 : bytesT Tryd.prog 39 = some 8 := by kernel_rfl
theorem zr39 : zeroT Tryd.prog 39 = some .nilFunc := by kernel_rfl
theorem ag39 : aggT Tryd.prog 39 = some false := by kernel_rfl
theorem kd39 : kindT Tryd.prog 39 = 6 := by kernel_rfl
theorem sz40 : szT Tryd.prog 40 = some 1 := by kernel_rfl
theorem bs40 : bytesT Tryd.prog 40 = some 8 := by kernel_rfl
theorem zr40 : zeroT Tryd.prog 40 = some .nilFunc := by kernel_rfl
theorem ag40 : aggT Tryd.prog 40 = some false := by kernel_rfl
theorem kd40 : kindT Tryd.prog 40 = 6 := by kernel_rfl
theorem sz41 : szT Tryd.prog 41 = some 1 := by kernel_rfl
theorem bs41 : bytesT Tryd.prog 41 = some 8 := by kernel_rfl
theorem zr41 : zeroT Tryd.prog 41 = some .nilFunc := by kernel_rfl
theorem ag41 : aggT Tryd.prog 41 = some false := by kernel_rfl
theorem kd41 : kindT Tryd.prog 41 = 6 := by kernel_rfl
theorem sz42 : szT Tryd.prog 42 = some 1 := by kernel_rfl
theorem bs42 : bytesT Tryd.prog 42 = some 8 := by kernel_rfl
theorem zr42 : zeroT Tryd.prog 42 = some .nilFunc := by kernel_rfl
theorem ag42 : aggT Tryd.prog 42 = some false := by kernel_rfl
theorem kd42 : kindT Tryd.prog 42 = 6 := by kernel_rfl
theorem sz43 : szT Tryd.prog 43 = some 1 := by kernel_rfl
theorem bs43 : bytesT Tryd.prog 43 = some 8 := by kernel_rfl
theorem zr43 : zeroT Tryd.prog 43 = some .nilFunc := by kernel_rfl
theorem ag43 : aggT Tryd.prog 43 = some false := by kernel_rfl
theorem kd43 : kindT Tryd.prog 43 = 6 := by kernel_rfl
theorem sz44 : szT Tryd.prog 44 = some 1 := by kernel_rfl
theorem bs44 : bytesT Tryd.prog 44 = some 24 := by kernel_rfl
theorem zr44 : zeroT Tryd.prog 44 = some (.slice none 0 0) := by kernel_rfl
theorem ag44 : aggT Tryd.prog 44 = some false := by kernel_rfl
theorem kd44 : kindT Tryd.prog 44 = 3 := by kernel_rfl
theorem sz45 : szT Tryd.prog 45 = some 1 := by kernel_rfl
theorem bs45 : bytesT Tryd.prog 45 = some 8 := by kernel_rfl
theorem zr45 : zeroT Tryd.prog 45 = some (.pointer none) := by kernel_rfl
theorem ag45 : aggT Tryd.prog 45 = some false := by kernel_rfl
theorem kd45 : kindT Tryd.prog 45 = 2 := by kernel_rfl
theorem sz46 : szT Tryd.prog 46 = some 1 := by kernel_rfl
theorem bs46 : bytesT Tryd.prog 46 = some 0 := by kernel_rfl
theorem ag46 : aggT Tryd.prog 46 = some false := by kernel_rfl
theorem kd46 : kindT Tryd.prog 46 = 0 := by kernel_rfl
theorem sz47 : szT Tryd.prog 47 = some 1 := by kernel_rfl
theorem bs47 : bytesT Tryd.prog 47 = some 8 := by kernel_rfl
theorem zr47 : zeroT Tryd.prog 47 = some .nilFunc := by kernel_rfl
theorem ag47 : aggT Tryd.prog 47 = some false := by kernel_rfl
theorem kd47 : kindT Tryd.prog 47 = 6 := by kernel_rfl
theorem sz48 : szT Tryd.prog 48 = some 1 := by kernel_rfl
theorem bs48 : bytesT Tryd.prog 48 = some 8 := by kernel_rfl
theorem zr48 : zeroT Tryd.prog 48 = some .nilFunc := by kernel_rfl
theorem ag48 : aggT Tryd.prog 48 = some false := by kernel_rfl
theorem kd48 : kindT Tryd.prog 48 = 6 := by kernel_rfl
theorem sz49 : szT Tryd.prog 49 = some 64 := by kernel_rfl
theorem bs49 : bytesT Tryd.prog 49 = some 64 := by kernel_rfl
theorem zr49 : zeroT Tryd.prog 49 = some (.agg ⟨List.replicate 64 (.int .u8 0)⟩) := by kernel_rfl
theorem ag49 : aggT Tryd.prog 49 = some true := by kernel_rfl
theorem kd49 : kindT Tryd.prog 49 = 0 := by kernel_rfl
theorem sz50 : szT Tryd.prog 50 = some 64 := by kernel_rfl
theorem bs50 : bytesT Tryd.prog 50 = some 64 := by kernel_rfl
theorem zr50 : zeroT Tryd.prog 50 = some (.agg ⟨List.replicate 64 (.int .u8 0)⟩) := by kernel_rfl
theorem ag50 : aggT Tryd.prog 50 = some true := by kernel_rfl
theorem kd50 : kindT Tryd.prog 50 = 0 := by kernel_rfl
theorem sz51 : szT Tryd.prog 51 = some 1 := by kernel_rfl
theorem bs51 : bytesT Tryd.prog 51 = some 8 := by kernel_rfl
theorem zr51 : zeroT Tryd.prog 51 = some .nilFunc := by kernel_rfl
theorem ag51 : aggT Tryd.prog 51 = some false := by kernel_rfl
theorem kd51 : kindT Tryd.prog 51 = 6 := by kernel_rfl
theorem sz52 : szT Tryd.prog 52 = some 1 := by kernel_rfl
theorem bs52 : bytesT Tryd.prog 52 = some 8 := by kernel_rfl
theorem zr52 : zeroT Tryd.prog 52 = some .nilFunc := by kernel_rfl
theorem ag52 : aggT Tryd.prog 52 = some false := by kernel_rfl
theorem kd52 : kindT Tryd.prog 52 = 6 := by kernel_rfl
theorem sz53 : szT Tryd.prog 53 = some 1 := by kernel_rfl
theorem bs53 : bytesT Tryd.prog 53 = some 8 := by kernel_rfl
theorem zr53 : zeroT Tryd.prog 53 = some .nilFunc := by kernel_rfl
theorem ag53 : aggT Tryd.prog 53 = some false := by kernel_rfl
theorem kd53 : kindT Tryd.prog 53 = 6 := by kernel_rfl
theorem sz54 : szT Tryd.prog 54 = some 1 := by kernel_rfl
theorem bs54 : bytesT Tryd.prog 54 = some 8 := by kernel_rfl
theorem zr54 : zeroT Tryd.prog 54 = some .nilFunc := by kernel_rfl
theorem ag54 : aggT Tryd.prog 54 = some false := by kernel_rfl
theorem kd54 : kindT Tryd.prog 54 = 6 := by kernel_rfl
theorem sz55 : szT Tryd.prog 55 = some 1 := by kernel_rfl
theorem bs55 : bytesT Tryd.prog 55 = some 24 := by kernel_rfl
theorem zr55 : zeroT Tryd.prog 55 = some (.slice none 0 0) := by kernel_rfl
theorem ag55 : aggT Tryd.prog 55 = some false := by kernel_rfl
theorem kd55 : kindT Tryd.prog 55 = 3 := by kernel_rfl
theorem sz56 : szT Tryd.prog 56 = some 1 := by kernel_rfl
theorem bs56 : bytesT Tryd.prog 56 = some 24 := by kernel_rfl
theorem zr56 : zeroT Tryd.prog 56 = some (.slice none 0 0) := by kernel_rfl
theorem ag56 : aggT Tryd.prog 56 = some false := by kernel_rfl
theorem kd56 : kindT Tryd.prog 56 = 3 := by kernel_rfl
theorem sz57 : szT Tryd.prog 57 = some 1 := by kernel_rfl
theorem bs57 : bytesT Tryd.prog 57 = some 8 := by kernel_rfl
theorem zr57 : zeroT Tryd.prog 57 = some .nilFunc := by kernel_rfl
theorem ag57 : aggT Tryd.prog 57 = some false := by kernel_rfl
theorem kd57 : kindT Tryd.prog 57 = 6 := by kernel_rfl
theorem sz58 : szT Tryd.prog 58 = some 1 := by kernel_rfl
theorem bs58 : bytesT Tryd.prog 58 = some 8 := by kernel_rfl
theorem zr58 : zeroT Tryd.prog 58 = some .nilFunc := by kernel_rfl
theorem ag58 : aggT Tryd.prog 58 = some false := by kernel_rfl
theorem kd58 : kindT Tryd.prog 58 = 6 := by kernel_rfl
theorem sz59 : szT Tryd.prog 59 = some 1 := by kernel_rfl
theorem bs59 : bytesT Tryd.prog 59 = some 8 := by kernel_rfl
theorem zr59 : zeroT Tryd.prog 59 = some .nilFunc := by kernel_rfl
theorem ag59 : aggT Tryd.prog 59 = some false := by kernel_rfl
theorem kd59 : kindT Tryd.prog 59 = 6 := by kernel_rfl
theorem sz60 : szT Tryd.prog 60 = some 1 := by kernel_rfl
theorem bs60 : bytesT Tryd.prog 60 = some 8 := by kernel_rfl
theorem zr60 : zeroT Tryd.prog 60 = some .nilFunc := by kernel_rfl
theorem ag60 : aggT Tryd.prog 60 = some false := by kernel_rfl
theorem kd60 : kindT Tryd.prog 60 = 6 := by kernel_rfl
theorem sz61 : szT Tryd.prog 61 = some 1 := by kernel_rfl
theorem bs61 : bytesT Tryd.prog 61 = some 8 := by kernel_rfl
theorem zr61 : zeroT Tryd.prog 61 = some .nilFunc := by kernel_rfl
theorem ag61 : aggT Tryd.prog 61 = some false := by kernel_rfl
theorem kd61 : kindT Tryd.prog 61 = 6 := by kernel_rfl
theorem sz62 : szT Tryd.prog 62 = some 97 := by kernel_rfl
theorem bs62 : bytesT Tryd.prog 62 = some 120 := by kernel_rfl
theorem zr62 : zeroT Tryd.prog 62 = some (.agg ⟨List.replicate 96 (.int .u8 0) ++ [(.slice none 0 0)]⟩) := by kernel_rfl
theorem ag62 : aggT Tryd.prog 62 = some true := by kernel_rfl
theorem kd62 : kindT Tryd.prog 62 = 0 := by kernel_rfl
theorem sz63 : szT Tryd.prog 63 = some 97 := by kernel_rfl
theorem bs63 : bytesT Tryd.prog 63 = some 120 := by kernel_rfl
theorem zr63 : zeroT Tryd.prog 63 = some (.agg ⟨List.replicate 96 (.int .u8 0) ++ [(.slice none 0 0)]⟩) := by kernel_rfl
theorem ag63 : aggT Tryd.prog 63 = some true := by kernel_rfl
theorem kd63 : kindT Tryd.prog 63 = 0 := by kernel_rfl
theorem sz64 : szT Tryd.prog 64 = some 1 := by kernel_rfl
theorem bs64 : bytesT Tryd.prog 64 = some 8 := by kernel_rfl
theorem zr64 : zeroT Tryd.prog 64 = some .nilFunc := by kernel_rfl
theorem ag64 : aggT Tryd.prog 64 = some false := by kernel_rfl
theorem kd64 : kindT Tryd.prog 64 = 6 := by kernel_rfl
theorem sz65 : szT Tryd.prog 65 = some 1 := by kernel_rfl
theorem bs65 : bytesT Tryd.prog 65 = some 8 := by kernel_rfl
theorem zr65 : zeroT Tryd.prog 65 = some .nilFunc := by kernel_rfl
theorem ag65 : aggT Tryd.prog 65 = some false := by kernel_rfl
theorem kd65 : kindT Tryd.prog 65 = 6 := by kernel_rfl
theorem sz66 : szT Tryd.prog 66 = some 1 := by kernel_rfl
theorem bs66 : bytesT Tryd.prog 66 = some 8 := by kernel_rfl
theorem zr66 : zeroT Tryd.prog 66 = some .nilFunc := by kernel_rfl
theorem ag66 : aggT Tryd.prog 66 = some false := by kernel_rfl
theorem kd66 : kindT Tryd.prog 66 = 6 := by kernel_rfl
theorem sz67 : szT Tryd.prog 67 = some 1 := by kernel_rfl
theorem bs67 : bytesT Tryd.prog 67 = some 8 := by kernel_rfl
theorem zr67 : zeroT Tryd.prog 67 = some .nilFunc := by kernel_rfl
theorem ag67 : aggT Tryd.prog 67 = some false := by kernel_rfl
theorem kd67 : kindT Tryd.prog 67 = 6 := by kernel_rfl
theorem sz68 : szT Tryd.prog 68 = some 1 := by kernel_rfl
theorem bs68 : bytesT Tryd.prog 68 = some 8 := by kernel_rfl
theorem zr68 : zeroT Tryd.prog 68 = some .nilFunc := by kernel_rfl
theorem ag68 : aggT Tryd.prog 68 = some false := by kernel_rfl
theorem kd68 : kindT Tryd.prog 68 = 6 := by kernel_rfl
theorem sz69 : szT Tryd.prog 69 = some 1 := by kernel_rfl
theorem bs69 : bytesT Tryd.prog 69 = some 8 := by kernel_rfl
theorem zr69 : zeroT Tryd.prog 69 = some .nilFunc := by kernel_rfl
theorem ag69 : aggT Tryd.prog 69 = some false := by kernel_rfl
theorem kd69 : kindT Tryd.prog 69 = 6 := by kernel_rfl
theorem sz70 : szT Tryd.prog 70 = some 64 := by kernel_rfl
theorem bs70 : bytesT Tryd.prog 70 = some 64 := by kernel_rfl
theorem zr70 : zeroT Tryd.prog 70 = some (.agg ⟨List.replicate 64 (.int .u8 0)⟩) := by kernel_rfl
theorem ag70 : aggT Tryd.prog 70 = some true := by kernel_rfl
theorem kd70 : kindT Tryd.prog 70 = 0 := by kernel_rfl
theorem sz71 : szT Tryd.prog 71 = some 1 := by kernel_rfl
theorem bs71 : bytesT Tryd.prog 71 = some 24 := by kernel_rfl
theorem zr71 : zeroT Tryd.prog 71 = some (.slice none 0 0) := by kernel_rfl
theorem ag71 : aggT Tryd.prog 71 = some false := by kernel_rfl
theorem kd71 : kindT Tryd.prog 71 = 3 := by kernel_rfl
theorem sz72 : szT Tryd.prog 72 = some 1 := by kernel_rfl
theorem bs72 : bytesT Tryd.prog 72 = some 8 := by kernel_rfl
theorem zr72 : zeroT Tryd.prog 72 = some (.map none) := by kernel_rfl
theorem ag72 : aggT Tryd.prog 72 = some false := by kernel_rfl
theorem kd72 : kindT Tryd.prog 72 = 4 := by kernel_rfl
theorem sz73 : szT Tryd.prog 73 = some 1 := by kernel_rfl
theorem bs73 : bytesT Tryd.prog 73 = some 8 := by kernel_rfl
theorem zr73 : zeroT Tryd.prog 73 = some (.pointer none) := by kernel_rfl
theorem ag73 : aggT Tryd.prog 73 = some false := by kernel_rfl
theorem kd73 : kindT Tryd.prog 73 = 2 := by kernel_rfl
theorem sz74 : szT Tryd.prog 74 = some 3 := by kernel_rfl
theorem bs74 : bytesT Tryd.prog 74 = some 24 := by kernel_rfl
theorem zr74 : zeroT Tryd.prog 74 = some (.agg ⟨[(.pointer none)] ++ [(.int .i64 0)] ++ [(.bool false)]⟩) := by kernel_rfl
theorem ag74 : aggT Tryd.prog 74 = some true := by kernel_rfl
theorem kd74 : kindT Tryd.prog 74 = 0 := by kernel_rfl
theorem sz75 : szT Tryd.prog 75 = some 3 := by kernel_rfl
theorem bs75 : bytesT Tryd.prog 75 = some 24 := by kernel_rfl
theorem zr75 : zeroT Tryd.prog 75 = some (.agg ⟨[(.pointer none)] ++ [(.int .i64 0)] ++ [(.bool false)]⟩) := by kernel_rfl
theorem ag75 : aggT Tryd.prog 75 = some true := by kernel_rfl
theorem kd75 : kindT Tryd.prog 75 = 0 := by kernel_rfl
theorem sz76 : szT Tryd.prog 76 = some 1 := by kernel_rfl
theorem bs76 : bytesT Tryd.prog 76 = some 8 := by kernel_rfl
theorem zr76 : zeroT Tryd.prog 76 = some .nilFunc := by kernel_rfl
theorem ag76 : aggT Tryd.prog 76 = some false := by kernel_rfl
theorem kd76 : kindT Tryd.prog 76 = 6 := by kernel_rfl
theorem sz77 : szT Tryd.prog 77 = some 1 := by kernel_rfl
theorem bs77 : bytesT Tryd.prog 77 = some 8 := by kernel_rfl
theorem zr77 : zeroT Tryd.prog 77 = some .nilFunc := by kernel_rfl
theorem ag77 : aggT Tryd.prog 77 = some false := by kernel_rfl
theorem kd77 : kindT Tryd.prog 77 = 6 := by kernel_rfl
theorem sz78 : szT Tryd.prog 78 = some 2 := by kernel_rfl
theorem bs78 : bytesT Tryd.prog 78 = some 16 := by kernel_rfl
theorem zr78 : zeroT Tryd.prog 78 = some (.agg ⟨[(.pointer none), (.pointer none)]⟩) := by kernel_rfl
theorem ag78 : aggT Tryd.prog 78 = some true := by kernel_rfl
theorem kd78 : kindT Tryd.prog 78 = 0 := by kernel_rfl
theorem sz79 : szT Tryd.prog 79 = some 1 := by kernel_rfl
theorem bs79 : bytesT Tryd.prog 79 = some 8 := by kernel_rfl
theorem zr79 : zeroT Tryd.prog 79 = some (.pointer none) := by kernel_rfl
theorem ag79 : aggT Tryd.prog 79 = some false := by kernel_rfl
theorem kd79 : kindT Tryd.prog 79 = 2 := by kernel_rfl
theorem sz80 : szT Tryd.prog 80 = some 35 := by kernel_rfl
theorem bs80 : bytesT Tryd.prog 80 = some 56 := by kernel_rfl
theorem zr80 : zeroT Tryd.prog 80 = some (.agg ⟨List.replicate 32 (.int .u8 0) ++ [(.pointer none), (.pointer none), (.pointer none)]⟩) := by kernel_rfl
theorem ag80 : aggT Tryd.prog 80 = some true := by kernel_rfl
theorem kd80 : kindT Tryd.prog 80 = 0 := by kernel_rfl
theorem sz81 : szT Tryd.prog 81 = some 35 := by kernel_rfl
theorem bs81 : bytesT Tryd.prog 81 = some 56 := by kernel_rfl
theorem zr81 : zeroT Tryd.prog 81 = some (.agg ⟨List.replicate 32 (.int .u8 0) ++ [(.pointer none), (.pointer none), (.pointer none)]⟩) := by kernel_rfl
theorem ag81 : aggT Tryd.prog 81 = some true := by kernel_rfl
theorem kd81 : kindT Tryd.prog 81 = 0 := by kernel_rfl
theorem sz82 : szT Tryd.prog 82 = some 1 := by kernel_rfl
theorem bs82 : bytesT Tryd.prog 82 = some 8 := by kernel_rfl
theorem zr82 : zeroT Tryd.prog 82 = some .nilFunc := by kernel_rfl
theorem ag82 : aggT Tryd.prog 82 = some false := by kernel_rfl
theorem kd82 : kindT Tryd.prog 82 = 6 := by kernel_rfl
theorem sz83 : szT Tryd.prog 83 = some 97 := by kernel_rfl
theorem bs83 : bytesT Tryd.prog 83 = some 120 := by kernel_rfl
theorem zr83 : zeroT Tryd.prog 83 = some (.agg ⟨List.replicate 96 (.int .u8 0) ++ [(.slice none 0 0)]⟩) := by kernel_rfl
theorem ag83 : aggT Tryd.prog 83 = some true := by kernel_rfl
theorem kd83 : kindT Tryd.prog 83 = 0 := by kernel_rfl
theorem sz84 : szT Tryd.prog 84 = some 97 := by kernel_rfl
theorem bs84 : bytesT Tryd.prog 84 = some 120 := by kernel_rfl
theorem zr84 : zeroT Tryd.prog 84 = some (.agg ⟨List.replicate 96 (.int .u8 0) ++ [(.slice none 0 0)]⟩) := by kernel_rfl
theorem ag84 : aggT Tryd.prog 84 = some true := by kernel_rfl
theorem kd84 : kindT Tryd.prog 84 = 0 := by kernel_rfl
theorem sz85 : szT Tryd.prog 85 = some 1 := by kernel_rfl
theorem bs85 : bytesT Tryd.prog 85 = some 8 := by kernel_rfl
theorem zr85 : zeroT Tryd.prog 85 = some .nilFunc := by kernel_rfl
theorem ag85 : aggT Tryd.prog 85 = some false := by kernel_rfl
theorem kd85 : kindT Tryd.prog 85 = 6 := by kernel_rfl
theorem sz86 : szT Tryd.prog 86 = some 1 := by kernel_rfl
theorem bs86 : bytesT Tryd.prog 86 = some 24 := by kernel_rfl
theorem zr86 : zeroT Tryd.prog 86 = some (.slice none 0 0) := by kernel_rfl
theorem ag86 : aggT Tryd.prog 86 = some false := by kernel_rfl
theorem kd86 : kindT Tryd.prog 86 = 3 := by kernel_rfl
theorem sz87 : szT Tryd.prog 87 = some 1 := by kernel_rfl
theorem bs87 : bytesT Tryd.prog 87 = some 8 := by kernel_rfl
theorem zr87 : zeroT Tryd.prog 87 = some .nilFunc := by kernel_rfl
theorem ag87 : aggT Tryd.prog 87 = some false := by kernel_rfl
theorem kd87 : kindT Tryd.prog 87 = 6 := by kernel_rfl
theorem sz88 : szT Tryd.prog 88 = some 1 := by kernel_rfl
theorem bs88 : bytesT Tryd.prog 88 = some 24 := by kernel_rfl
theorem zr88 : zeroT Tryd.prog 88 = some (.slice none 0 0) := by kernel_rfl
theorem ag88 : aggT Tryd.prog 88 = some false := by kernel_rfl
theorem kd88 : kindT Tryd.prog 88 = 3 := by kernel_rfl
theorem sz89 : szT Tryd.prog 89 = some 1 := by kernel_rfl
theorem bs89 : bytesT Tryd.prog 89 = some 8 := by kernel_rfl
theorem zr89 : zeroT Tryd.prog 89 = some (.int .u64 0) := by kernel_rfl
theorem ag89 : aggT Tryd.prog 89 = some false := by kernel_rfl
theorem kd89 : kindT Tryd.prog 89 = 0 := by kernel_rfl
theorem sz90 : szT Tryd.prog 90 = some 1 := by kernel_rfl
theorem bs90 : bytesT Tryd.prog 90 = some 8 := by kernel_rfl
theorem zr90 : zeroT Tryd.prog 90 = some .nilFunc := by kernel_rfl
theorem ag90 : aggT Tryd.prog 90 = some false := by kernel_rfl
theorem kd90 : kindT Tryd.prog 90 = 6 := by kernel_rfl
theorem sz91 : szT Tryd.prog 91 = some 1 := by kernel_rfl
theorem bs91 : bytesT Tryd.prog 91 = some 8 := by kernel_rfl
theorem zr91 : zeroT Tryd.prog 91 = some .nilFunc := by kernel_rfl
theorem ag91 : aggT Tryd.prog 91 = some false := by kernel_rfl
theorem kd91 : kindT Tryd.prog 91 = 6 := by kernel_rfl
theorem sz92 : szT Tryd.prog 92 = some 1 := by kernel_rfl
theorem bs92 : bytesT Tryd.prog 92 = some 8 := by kernel_rfl
theorem zr92 : zeroT Tryd.prog 92 = some .nilFunc := by kernel_rfl
theorem ag92 : aggT Tryd.prog 92 = some false := by kernel_rfl
theorem kd92 : kindT Tryd.prog 92 = 6 := by kernel_rfl
theorem sz93 : szT Tryd.prog 93 = some 85 := by kernel_rfl
theorem bs93 : bytesT Tryd.prog 93 = some 85 := by kernel_rfl
theorem zr93 : zeroT Tryd.prog 93 = some (.agg ⟨List.replicate 85 (.int .u8 0)⟩) := by kernel_rfl
theorem ag93 : aggT Tryd.prog 93 = some true := by kernel_rfl
theorem kd93 : kindT Tryd.prog 93 = 0 := by kernel_rfl
theorem sz94 : szT Tryd.prog 94 = some 1 := by kernel_rfl
theorem bs94 : bytesT Tryd.prog 94 = some 8 := by kernel_rfl
theorem zr94 : zeroT Tryd.prog 94 = some .nilFunc := by kernel_rfl
theorem ag94 : aggT Tryd.prog 94 = some false := by kernel_rfl
theorem kd94 : kindT Tryd.prog 94 = 6 := by kernel_rfl
theorem sz95 : szT Tryd.prog 95 = some 1 := by kernel_rfl
theorem bs95 : bytesT Tryd.prog 95 = some 4 := by kernel_rfl
theorem zr95 : zeroT Tryd.prog 95 = some (.int .u32 0) := by kernel_rfl
theorem ag95 : aggT Tryd.prog 95 = some false := by kernel_rfl
theorem kd95 : kindT Tryd.prog 95 = 0 := by kernel_rfl
theorem sz96 : szT Tryd.prog 96 = some 8 := by kernel_rfl
theorem bs96 : bytesT Tryd.prog 96 = some 32 := by kernel_rfl
theorem zr96 : zeroT Tryd.prog 96 = some (.agg ⟨List.replicate 8 (.int .u32 0)⟩) := by kernel_rfl
theorem ag96 : aggT Tryd.prog 96 = some true := by kernel_rfl
theorem kd96 : kindT Tryd.prog 96 = 0 := by kernel_rfl
theorem sz97 : szT Tryd.prog 97 = some 8 := by kernel_rfl
theorem bs97 : bytesT Tryd.prog 97 = some 32 := by kernel_rfl
theorem zr97 : zeroT Tryd.prog 97 = some (.agg ⟨List.replicate 8 (.int .u32 0)⟩) := by kernel_rfl
theorem ag97 : aggT Tryd.prog 97 = some true := by kernel_rfl
theorem kd97 : kindT Tryd.prog 97 = 0 := by kernel_rfl
theorem sz98 : szT Tryd.prog 98 = some 1 := by kernel_rfl
theorem bs98 : bytesT Tryd.prog 98 = some 8 := by kernel_rfl
theorem zr98 : zeroT Tryd.prog 98 = some .nilFunc := by kernel_rfl
theorem ag98 : aggT Tryd.prog 98 = some false := by kernel_rfl
theorem kd98 : kindT Tryd.prog 98 = 6 := by kernel_rfl
theorem sz99 : szT Tryd.prog 99 = some 128 := by kernel_rfl
theorem bs99 : bytesT Tryd.prog 99 = some 128 := by kernel_rfl
theorem zr99 : zeroT Tryd.prog 99 = some (.agg ⟨List.replicate 128 (.int .u8 0)⟩) := by kernel_rfl
theorem ag99 : aggT Tryd.prog 99 = some true := by kernel_rfl
theorem kd99 : kindT Tryd.prog 99 = 0 := by kernel_rfl
theorem sz100 : szT Tryd.prog 100 = some 1 := by kernel_rfl
theorem bs100 : bytesT Tryd.prog 100 = some 8 := by kernel_rfl
theorem zr100 : zeroT Tryd.prog 100 = some .nilFunc := by kernel_rfl
theorem ag100 : aggT Tryd.prog 100 = some false := by kernel_rfl
theorem kd100 : kindT Tryd.prog 100 = 6 := by kernel_rfl
theorem sz101 : szT Tryd.prog 101 = some 1 := by kernel_rfl
theorem bs101 : bytesT Tryd.prog 101 = some 8 := by kernel_rfl
theorem zr101 : zeroT Tryd.prog 101 = some (.int .u64 0) := by kernel_rfl
theorem ag101 : aggT Tryd.prog 101 = some false := by kernel_rfl
theorem kd101 : kindT Tryd.prog 101 = 0 := by kernel_rfl
theorem sz102 : szT Tryd.prog 102 = some 64 := by kernel_rfl
theorem bs102 : bytesT Tryd.prog 102 = some 256 := by kernel_rfl
theorem zr102 : zeroT Tryd.prog 102 = some (.agg ⟨List.replicate 64 (.int .u32 0)⟩) := by kernel_rfl
theorem ag102 : aggT Tryd.prog 102 = some true := by kernel_rfl
theorem kd102 : kindT Tryd.prog 102 = 0 := by kernel_rfl
theorem sz103 : szT Tryd.prog 103 = some 1 := by kernel_rfl
theorem bs103 : bytesT Tryd.prog 103 = some 0 := by kernel_rfl
theorem ag103 : aggT Tryd.prog 103 = some false := by kernel_rfl
theorem kd103 : kindT Tryd.prog 103 = 0 := by kernel_rfl
theorem sz104 : szT Tryd.prog 104 = some 1 := by kernel_rfl
theorem bs104 : bytesT Tryd.prog 104 = some 8 := by kernel_rfl
theorem zr104 : zeroT Tryd.prog 104 = some .nilFunc := by kernel_rfl
theorem ag104 : aggT Tryd.prog 104 = some false := by kernel_rfl
theorem kd104 : kindT Tryd.prog 104 = 6 := by kernel_rfl
theorem sz105 : szT Tryd.prog 105 = some 1 := by kernel_rfl
theorem bs105 : bytesT Tryd.prog 105 = some 8 := by kernel_rfl
theorem zr105 : zeroT Tryd.prog 105 = some .nilFunc := by kernel_rfl
theorem ag105 : aggT Tryd.prog 105 = some false := by kernel_rfl
theorem kd105 : kindT Tryd.prog 105 = 6 := by kernel_rfl
theorem sz106 : szT Tryd.prog 106 = some 1 := by kernel_rfl
theorem bs106 : bytesT Tryd.prog 106 = some 8 := by kernel_rfl
theorem zr106 : zeroT Tryd.prog 106 = some (.pointer none) := by kernel_rfl
theorem ag106 : aggT Tryd.prog 106 = some false := by kernel_rfl
theorem kd106 : kindT Tryd.prog 106 = 2 := by kernel_rfl
theorem sz107 : szT Tryd.prog 107 = some 1 := by kernel_rfl
theorem bs107 : bytesT Tryd.prog 107 = some 8 := by kernel_rfl
theorem zr107 : zeroT Tryd.prog 107 = some .nilFunc := by kernel_rfl
theorem ag107 : aggT Tryd.prog 107 = some false := by kernel_rfl
theorem kd107 : kindT Tryd.prog 107 = 6 := by kernel_rfl
theorem sz108 : szT Tryd.prog 108 = some 1 := by kernel_rfl
theorem bs108 : bytesT Tryd.prog 108 = some 8 := by kernel_rfl
theorem zr108 : zeroT Tryd.prog 108 = some .nilFunc := by kernel_rfl
theorem ag108 : aggT Tryd.prog 108 = some false := by kernel_rfl
theorem kd108 : kindT Tryd.prog 108 = 6 := by kernel_rfl
theorem sz109 : szT Tryd.prog 109 = some 1 := by kernel_rfl
theorem bs109 : bytesT Tryd.prog 109 = some 8 := by kernel_rfl
theorem zr109 : zeroT Tryd.prog 109 = some .nilFunc := by kernel_rfl
theorem ag109 : aggT Tryd.prog 109 = some false := by kernel_rfl
theorem kd109 : kindT Tryd.prog 109 = 6 := by kernel_rfl
theorem sz110 : szT Tryd.prog 110 = some 1 := by kernel_rfl
theorem bs110 : bytesT Tryd.prog 110 = some 8 := by kernel_rfl
theorem zr110 : zeroT Tryd.prog 110 = some (.pointer none) := by kernel_rfl
theorem ag110 : aggT Tryd.prog 110 = some false := by kernel_rfl
theorem kd110 : kindT Tryd.prog 110 = 2 := by kernel_rfl
theorem sz111 : szT Tryd.prog 111 = some 1 := by kernel_rfl
theorem bs111 : bytesT Tryd.prog 111 = some 8 := by kernel_rfl
theorem zr111 : zeroT Tryd.prog 111 = some .nilFunc := by kernel_rfl
theorem ag111 : aggT Tryd.prog 111 = some false := by kernel_rfl
theorem kd111 : kindT Tryd.prog 111 = 6 := by kernel_rfl
theorem sz112 : szT Tryd.prog 112 = some 1 := by kernel_rfl
theorem bs112 : bytesT Tryd.prog 112 = some 8 := by kernel_rfl
theorem zr112 : zeroT Tryd.prog 112 = some .nilFunc := by kernel_rfl
theorem ag112 : aggT Tryd.prog 112 = some false := by kernel_rfl
theorem kd112 : kindT Tryd.prog 112 = 6 := by kernel_rfl
theorem sz113 : szT Tryd.prog 113 = some 4 := by kernel_rfl
theorem bs113 : bytesT Tryd.prog 113 = some 40 := by kernel_rfl
theorem zr113 : zeroT Tryd.prog 113 = some (.agg ⟨[(.pointer none), (.pointer none), (.pointer none)] ++ [(.string .empty)]⟩) := by kernel_rfl
theorem ag113 : aggT Tryd.prog 113 = some true := by kernel_rfl
theorem kd113 : kindT Tryd.prog 113 = 0 := by kernel_rfl
theorem sz114 : szT Tryd.prog 114 = some 4 := by kernel_rfl
theorem bs114 : bytesT Tryd.prog 114 = some 40 := by kernel_rfl
theorem zr114 : zeroT Tryd.prog 114 = some (.agg ⟨[(.pointer none), (.pointer none), (.pointer none)] ++ [(.string .empty)]⟩) := by kernel_rfl
theorem ag114 : aggT Tryd.prog 114 = some true := by kernel_rfl
theorem kd114 : kindT Tryd.prog 114 = 0 := by kernel_rfl
theorem sz115 : szT Tryd.prog 115 = some 0 := by kernel_rfl
theorem bs115 : bytesT Tryd.prog 115 = some 0 := by kernel_rfl
theorem zr115 : zeroT Tryd.prog 115 = some (.agg ⟨[]⟩) := by kernel_rfl
theorem ag115 : aggT Tryd.prog 115 = some true := by kernel_rfl
theorem kd115 : kindT Tryd.prog 115 = 0 := by kernel_rfl
theorem sz116 : szT Tryd.prog 116 = some 0 := by kernel_rfl
theorem bs116 : bytesT Tryd.prog 116 = some 0 := by kernel_rfl
theorem zr116 : zeroT Tryd.prog 116 = some (.agg ⟨[]⟩) := by kernel_rfl
theorem ag116 : aggT Tryd.prog 116 = some true := by kernel_rfl
theorem kd116 : kindT Tryd.prog 116 = 0 := by kernel_rfl
theorem sz117 : szT Tryd.prog 117 = some 0 := by kernel_rfl
theorem bs117 : bytesT Tryd.prog 117 = some 0 := by kernel_rfl
theorem zr117 : zeroT Tryd.prog 117 = some (.agg ⟨[]⟩) := by kernel_rfl
theorem ag117 : aggT Tryd.prog 117 = some true := by kernel_rfl
theorem kd117 : kindT Tryd.prog 117 = 0 := by kernel_rfl
theorem sz118 : szT Tryd.prog 118 = some 1 := by kernel_rfl
theorem bs118 : bytesT Tryd.prog 118 = some 8 := by kernel_rfl
theorem zr118 : zeroT Tryd.prog 118 = some .nilFunc := by kernel_rfl
theorem ag118 : aggT Tryd.prog 118 = some false := by kernel_rfl
theorem kd118 : kindT Tryd.prog 118 = 6 := by kernel_rfl
theorem sz119 : szT Tryd.prog 119 = some 1 := by kernel_rfl
theorem bs119 : bytesT Tryd.prog 119 = some 1 := by kernel_rfl
theorem zr119 : zeroT Tryd.prog 119 = some (.int .u8 0) := by kernel_rfl
theorem ag119 : aggT Tryd.prog 119 = some false := by kernel_rfl
theorem kd119 : kindT Tryd.prog 119 = 0 := by kernel_rfl
theorem sz120 : szT Tryd.prog 120 = some 1 := by kernel_rfl
theorem bs120 : bytesT Tryd.prog 120 = some 1 := by kernel_rfl
theorem zr120 : zeroT Tryd.prog 120 = some (.int .u8 0) := by kernel_rfl
theorem ag120 : aggT Tryd.prog 120 = some false := by kernel_rfl
theorem kd120 : kindT Tryd.prog 120 = 0 := by kernel_rfl
theorem sz121 : szT Tryd.prog 121 = some 1 := by kernel_rfl
theorem bs121 : bytesT Tryd.prog 121 = some 8 := by kernel_rfl
theorem zr121 : zeroT Tryd.prog 121 = some .nilFunc := by kernel_rfl
theorem ag121 : aggT Tryd.prog 121 = some false := by kernel_rfl
theorem kd121 : kindT Tryd.prog 121 = 6 := by kernel_rfl
theorem sz122 : szT Tryd.prog 122 = some 1 := by kernel_rfl
theorem bs122 : bytesT Tryd.prog 122 = some 8 := by kernel_rfl
theorem zr122 : zeroT Tryd.prog 122 = some (.pointer none) := by kernel_rfl
theorem ag122 : aggT Tryd.prog 122 = some false := by kernel_rfl
theorem kd122 : kindT Tryd.prog 122 = 2 := by kernel_rfl
theorem sz123 : szT Tryd.prog 123 = some 1 := by kernel_rfl
theorem bs123 : bytesT Tryd.prog 123 = some 4 := by kernel_rfl
theorem zr123 : zeroT Tryd.prog 123 = some (.int .i32 0) := by kernel_rfl
theorem ag123 : aggT Tryd.prog 123 = some false := by kernel_rfl
theorem kd123 : kindT Tryd.prog 123 = 0 := by kernel_rfl
theorem sz124 : szT Tryd.prog 124 = some 1 := by kernel_rfl
theorem bs124 : bytesT Tryd.prog 124 = some 4 := by kernel_rfl
theorem zr124 : zeroT Tryd.prog 124 = some (.int .i32 0) := by kernel_rfl
theorem ag124 : aggT Tryd.prog 124 = some false := by kernel_rfl
theorem kd124 : kindT Tryd.prog 124 = 0 := by kernel_rfl
theorem sz125 : szT Tryd.prog 125 = some 11 := by kernel_rfl
theorem bs125 : bytesT Tryd.prog 125 = some 48 := by kernel_rfl
theorem zr125 : zeroT Tryd.prog 125 = some (.agg ⟨[(.int .u64 0), (.int .u64 0)] ++ [(.int .u32 0)] ++ [(.int .u8 0), (.int .u8 0), (.int .u8 0), (.int .u8 0)] ++ [.nilFunc] ++ [(.pointer none)] ++ [(.int .i32 0), (.int .i32 0)]⟩) := by kernel_rfl
theorem ag125 : aggT Tryd.prog 125 = some true := by kernel_rfl
theorem kd125 : kindT Tryd.prog 125 = 0 := by kernel_rfl
theorem sz126 : szT Tryd.prog 126 = some 11 := by kernel_rfl
theorem bs126 : bytesT Tryd.prog 126 = some 48 := by kernel_rfl
theorem zr126 : zeroT Tryd.prog 126 = some (.agg ⟨[(.int .u64 0), (.int .u64 0)] ++ [(.int .u32 0)] ++ [(.int .u8 0), (.int .u8 0), (.int .u8 0), (.int .u8 0)] ++ [.nilFunc] ++ [(.pointer none)] ++ [(.int .i32 0), (.int .i32 0)]⟩) := by kernel_rfl
theorem ag126 : aggT Tryd.prog 126 = some true := by kernel_rfl
theorem kd126 : kindT Tryd.prog 126 = 0 := by kernel_rfl
theorem sz127 : szT Tryd.prog 127 = some 1 := by kernel_rfl
theorem bs127 : bytesT Tryd.prog 127 = some 8 := by kernel_rfl
theorem zr127 : zeroT Tryd.prog 127 = some (.pointer none) := by kernel_rfl
theorem ag127 : aggT Tryd.prog 127 = some false := by kernel_rfl
theorem kd127 : kindT Tryd.prog 127 = 0 := by kernel_rfl
theorem en2 : enters Tryd.prog 2 = true := by kernel_rfl
theorem en3 : enters Tryd.prog 3 = true := by kernel_rfl
theorem en4 : enters Tryd.prog 4 = true := by kernel_rfl
theorem en5 : enters Tryd.prog 5 = true := by kernel_rfl
theorem en6 : enters Tryd.prog 6 = true := by kernel_rfl
theorem en7 : enters Tryd.prog 7 = true := by kernel_rfl
theorem en8 : enters Tryd.prog 8 = true := by kernel_rfl
theorem en9 : enters Tryd.prog 9 = true := by kernel_rfl
theorem en10 : enters Tryd.prog 10 = true := by kernel_rfl
theorem en11 : enters Tryd.prog 11 = true := by kernel_rfl
theorem en12 : enters Tryd.prog 12 = true := by kernel_rfl
theorem en13 : enters Tryd.prog 13 = true := by kernel_rfl
theorem en14 : enters Tryd.prog 14 = true := by kernel_rfl
theorem en15 : enters Tryd.prog 15 = true := by kernel_rfl
theorem en16 : enters Tryd.prog 16 = true := by kernel_rfl
theorem en17 : enters Tryd.prog 17 = true := by kernel_rfl
theorem en18 : enters Tryd.prog 18 = true := by kernel_rfl
theorem en19 : enters Tryd.prog 19 = true := by kernel_rfl
theorem en20 : enters Tryd.prog 20 = true := by kernel_rfl
theorem en21 : enters Tryd.prog 21 = true := by kernel_rfl
theorem en22 : enters Tryd.prog 22 = true := by kernel_rfl
theorem en23 : enters Tryd.prog 23 = true := by kernel_rfl
theorem en24 : enters Tryd.prog 24 = true := by kernel_rfl
theorem en25 : enters Tryd.prog 25 = true := by kernel_rfl
theorem en26 : enters Tryd.prog 26 = true := by kernel_rfl
theorem en27 : enters Tryd.prog 27 = true := by kernel_rfl
theorem en28 : enters Tryd.prog 28 = true := by kernel_rfl
theorem en29 : enters Tryd.prog 29 = true := by kernel_rfl
theorem en30 : enters Tryd.prog 30 = true := by kernel_rfl
theorem en31 : enters Tryd.prog 31 = true := by kernel_rfl
theorem en32 : enters Tryd.prog 32 = true := by kernel_rfl
theorem en33 : enters Tryd.prog 33 = true := by kernel_rfl
theorem en34 : enters Tryd.prog 34 = true := by kernel_rfl
theorem en35 : enters Tryd.prog 35 = true := by kernel_rfl
theorem en36 : enters Tryd.prog 36 = true := by kernel_rfl
theorem en37 : enters Tryd.prog 37 = true := by kernel_rfl
theorem en38 : enters Tryd.prog 38 = true := by kernel_rfl
theorem en39 : enters Tryd.prog 39 = true := by kernel_rfl
theorem en40 : enters Tryd.prog 40 = true := by kernel_rfl
theorem en41 : enters Tryd.prog 41 = true := by kernel_rfl
theorem en42 : enters Tryd.prog 42 = true := by kernel_rfl
theorem en43 : enters Tryd.prog 43 = true := by kernel_rfl
theorem en44 : enters Tryd.prog 44 = true := by kernel_rfl
theorem en45 : enters Tryd.prog 45 = true := by kernel_rfl
theorem en46 : enters Tryd.prog 46 = true := by kernel_rfl
theorem en47 : enters Tryd.prog 47 = true := by kernel_rfl
theorem en48 : enters Tryd.prog 48 = true := by kernel_rfl
theorem en49 : enters Tryd.prog 49 = true := by kernel_rfl
theorem en50 : enters Tryd.prog 50 = true := by kernel_rfl
theorem en51 : enters Tryd.prog 51 = true := by kernel_rfl
theorem en52 : enters Tryd.prog 52 = true := by kernel_rfl
theorem en53 : enters Tryd.prog 53 = true := by kernel_rfl
theorem en54 : enters Tryd.prog 54 = true := by kernel_rfl
theorem en55 : enters Tryd.prog 55 = true := by kernel_rfl
theorem en56 : enters Tryd.prog 56 = true := by kernel_rfl
theorem en57 : enters Tryd.prog 57 = true := by kernel_rfl
theorem en58 : enters Tryd.prog 58 = true := by kernel_rfl
theorem en59 : enters Tryd.prog 59 = true := by kernel_rfl
theorem en60 : enters Tryd.prog 60 = true := by kernel_rfl
theorem en61 : enters Tryd.prog 61 = true := by kernel_rfl
theorem en82 : enters Tryd.prog 82 = true := by kernel_rfl
theorem good : GoodP Tryd.prog := GoodP.of_checks (by kernel_rfl) (by kernel_rfl)
theorem mixed : Tryd.prog.follows .mixedOrders = true := by kernel_rfl
end Go.Proofs.YtmlofdgamdlcgaaDoor

/- Facts of this program, for the walks. -/
namespace Go.Proofs.YtmlofdgamdlcgaaDoor
open Go Go.Am
set_option maxRecDepth 100000
theorem fa26_0 (b o : Nat) : fieldAddrV Tryd.prog 26 (.pointer (some ⟨b, o, none⟩)) 0 = some (.pointer (some ⟨b, o, none⟩)) := by simp [fieldAddrV, Tryd.underlying26, sz23]
theorem fa26_1 (b o : Nat) : fieldAddrV Tryd.prog 26 (.pointer (some ⟨b, o, none⟩)) 1 = some (.pointer (some ⟨b, o + 32, none⟩)) := by simp [fieldAddrV, Tryd.underlying26, sz24]
theorem fa27_0 (b o : Nat) : fieldAddrV Tryd.prog 27 (.pointer (some ⟨b, o, none⟩)) 0 = some (.pointer (some ⟨b, o, none⟩)) := by simp [fieldAddrV, Tryd.underlying27, sz23]
theorem fa27_1 (b o : Nat) : fieldAddrV Tryd.prog 27 (.pointer (some ⟨b, o, none⟩)) 1 = some (.pointer (some ⟨b, o + 32, none⟩)) := by simp [fieldAddrV, Tryd.underlying27, sz24]
theorem fa50_0 (b o : Nat) : fieldAddrV Tryd.prog 50 (.pointer (some ⟨b, o, none⟩)) 0 = some (.pointer (some ⟨b, o, none⟩)) := by simp [fieldAddrV, Tryd.underlying50, sz23]
theorem fa50_1 (b o : Nat) : fieldAddrV Tryd.prog 50 (.pointer (some ⟨b, o, none⟩)) 1 = some (.pointer (some ⟨b, o + 32, none⟩)) := by simp [fieldAddrV, Tryd.underlying50, sz23]
theorem fa63_0 (b o : Nat) : fieldAddrV Tryd.prog 63 (.pointer (some ⟨b, o, none⟩)) 0 = some (.pointer (some ⟨b, o, none⟩)) := by simp [fieldAddrV, Tryd.underlying63, sz23]
theorem fa63_1 (b o : Nat) : fieldAddrV Tryd.prog 63 (.pointer (some ⟨b, o, none⟩)) 1 = some (.pointer (some ⟨b, o + 32, none⟩)) := by simp [fieldAddrV, Tryd.underlying63, sz23]
theorem fa63_2 (b o : Nat) : fieldAddrV Tryd.prog 63 (.pointer (some ⟨b, o, none⟩)) 2 = some (.pointer (some ⟨b, o + 64, none⟩)) := by simp [fieldAddrV, Tryd.underlying63, sz27]
theorem fa70_0 (b o : Nat) : fieldAddrV Tryd.prog 70 (.pointer (some ⟨b, o, none⟩)) 0 = some (.pointer (some ⟨b, o, none⟩)) := by simp [fieldAddrV, Tryd.underlying70, sz23]
theorem fa70_1 (b o : Nat) : fieldAddrV Tryd.prog 70 (.pointer (some ⟨b, o, none⟩)) 1 = some (.pointer (some ⟨b, o + 32, none⟩)) := by simp [fieldAddrV, Tryd.underlying70, sz23]
theorem fa75_0 (b o : Nat) : fieldAddrV Tryd.prog 75 (.pointer (some ⟨b, o, none⟩)) 0 = some (.pointer (some ⟨b, o, none⟩)) := by simp [fieldAddrV, Tryd.underlying75, sz73]
theorem fa75_1 (b o : Nat) : fieldAddrV Tryd.prog 75 (.pointer (some ⟨b, o, none⟩)) 1 = some (.pointer (some ⟨b, o + 1, none⟩)) := by simp [fieldAddrV, Tryd.underlying75, sz3]
theorem fa75_2 (b o : Nat) : fieldAddrV Tryd.prog 75 (.pointer (some ⟨b, o, none⟩)) 2 = some (.pointer (some ⟨b, o + 2, none⟩)) := by simp [fieldAddrV, Tryd.underlying75, sz4]
theorem fa81_0 (b o : Nat) : fieldAddrV Tryd.prog 81 (.pointer (some ⟨b, o, none⟩)) 0 = some (.pointer (some ⟨b, o, none⟩)) := by simp [fieldAddrV, Tryd.underlying81, sz23]
theorem fa81_1 (b o : Nat) : fieldAddrV Tryd.prog 81 (.pointer (some ⟨b, o, none⟩)) 1 = some (.pointer (some ⟨b, o + 32, none⟩)) := by simp [fieldAddrV, Tryd.underlying81, sz78]
theorem fa81_2 (b o : Nat) : fieldAddrV Tryd.prog 81 (.pointer (some ⟨b, o, none⟩)) 2 = some (.pointer (some ⟨b, o + 34, none⟩)) := by simp [fieldAddrV, Tryd.underlying81, sz79]
theorem fa84_0 (b o : Nat) : fieldAddrV Tryd.prog 84 (.pointer (some ⟨b, o, none⟩)) 0 = some (.pointer (some ⟨b, o, none⟩)) := by simp [fieldAddrV, Tryd.underlying84, sz23]
theorem fa84_1 (b o : Nat) : fieldAddrV Tryd.prog 84 (.pointer (some ⟨b, o, none⟩)) 1 = some (.pointer (some ⟨b, o + 32, none⟩)) := by simp [fieldAddrV, Tryd.underlying84, sz23]
theorem fa84_2 (b o : Nat) : fieldAddrV Tryd.prog 84 (.pointer (some ⟨b, o, none⟩)) 2 = some (.pointer (some ⟨b, o + 64, none⟩)) := by simp [fieldAddrV, Tryd.underlying84, sz26]
theorem nwz23 {E : Env} {d : Nat} {ty : TypeId} {p : String} {a : Array Edge} {g : Option (Nat × Bool)} : NewY Tryd.prog E ⟨some d, .alloc 23, ty, p, a, g⟩ (.cells (hC zeroH) 23 true) (fun h => .pointer (some ⟨h, 0, none⟩)) := nw zr23 rfl
theorem nwz27 {E : Env} {d : Nat} {ty : TypeId} {p : String} {a : Array Edge} {g : Option (Nat × Bool)} : NewY Tryd.prog E ⟨some d, .alloc 27, ty, p, a, g⟩ (.cells (hC zeroH ++ ([.slice none 0 0])) 27 true) (fun h => .pointer (some ⟨h, 0, none⟩)) := nw zr27 rfl
theorem nwz63 {E : Env} {d : Nat} {ty : TypeId} {p : String} {a : Array Edge} {g : Option (Nat × Bool)} : NewY Tryd.prog E ⟨some d, .alloc 63, ty, p, a, g⟩ (.cells (hC zeroH ++ (hC zeroH ++ (hC zeroH ++ ([.slice none 0 0])))) 63 true) (fun h => .pointer (some ⟨h, 0, none⟩)) := nw zr63 rfl
theorem nwz70 {E : Env} {d : Nat} {ty : TypeId} {p : String} {a : Array Edge} {g : Option (Nat × Bool)} : NewY Tryd.prog E ⟨some d, .alloc 70, ty, p, a, g⟩ (.cells (hC zeroH ++ (hC zeroH)) 70 true) (fun h => .pointer (some ⟨h, 0, none⟩)) := nw zr70 rfl
theorem nwz81 {E : Env} {d : Nat} {ty : TypeId} {p : String} {a : Array Edge} {g : Option (Nat × Bool)} : NewY Tryd.prog E ⟨some d, .alloc 81, ty, p, a, g⟩ (.cells (hC zeroH ++ ([.pointer none, .pointer none, .pointer none])) 81 true) (fun h => .pointer (some ⟨h, 0, none⟩)) := nw zr81 rfl
theorem nwz93 {E : Env} {d : Nat} {ty : TypeId} {p : String} {a : Array Edge} {g : Option (Nat × Bool)} : NewY Tryd.prog E ⟨some d, .alloc 93, ty, p, a, g⟩ (.cells (ints .u8 (List.replicate 85 0)) 93 true) (fun h => .pointer (some ⟨h, 0, none⟩)) := nw zr93 rfl
theorem nwz96 {E : Env} {d : Nat} {ty : TypeId} {p : String} {a : Array Edge} {g : Option (Nat × Bool)} : NewY Tryd.prog E ⟨some d, .alloc 96, ty, p, a, g⟩ (.cells (ints .u32 (List.replicate 8 0)) 96 true) (fun h => .pointer (some ⟨h, 0, none⟩)) := nw zr96 rfl
theorem nwz97 {E : Env} {d : Nat} {ty : TypeId} {p : String} {a : Array Edge} {g : Option (Nat × Bool)} : NewY Tryd.prog E ⟨some d, .alloc 97, ty, p, a, g⟩ (.cells (ints .u32 (List.replicate 8 0)) 97 true) (fun h => .pointer (some ⟨h, 0, none⟩)) := nw zr97 rfl
theorem nwz99 {E : Env} {d : Nat} {ty : TypeId} {p : String} {a : Array Edge} {g : Option (Nat × Bool)} : NewY Tryd.prog E ⟨some d, .alloc 99, ty, p, a, g⟩ (.cells (ints .u8 (List.replicate 128 0)) 99 true) (fun h => .pointer (some ⟨h, 0, none⟩)) := nw zr99 rfl
theorem nwz102 {E : Env} {d : Nat} {ty : TypeId} {p : String} {a : Array Edge} {g : Option (Nat × Bool)} : NewY Tryd.prog E ⟨some d, .alloc 102, ty, p, a, g⟩ (.cells (ints .u32 (List.replicate 64 0)) 102 true) (fun h => .pointer (some ⟨h, 0, none⟩)) := nw zr102 rfl
theorem bv23 {parts : List (Nat × Value)} {cs : List Value} (hf : fillL (fun i => some (i * 1, 1)) (hC zeroH) parts = some cs) : buildV Tryd.prog 23 parts = some (.agg ⟨cs⟩) := bv_arr Tryd.underlying23 sz5 zr23 rfl hf
theorem bvz23 : buildV Tryd.prog 23 [] = some (hV zeroH) := bv_nil Tryd.underlying23 sz5 zr23 rfl
theorem bv27 {parts : List (Nat × Value)} {cs : List Value} (hf : fillL (plc [(0, 32), (32, 1)]) (hC zeroH ++ ([.slice none 0 0])) parts = some cs) : buildV Tryd.prog 27 parts = some (.agg ⟨cs⟩) := bv_struct Tryd.underlying27 zr27 rfl (by simp [sz23, sz24]) hf
theorem bv63 {parts : List (Nat × Value)} {cs : List Value} (hf : fillL (plc [(0, 32), (32, 32), (64, 33)]) (hC zeroH ++ (hC zeroH ++ (hC zeroH ++ ([.slice none 0 0])))) parts = some cs) : buildV Tryd.prog 63 parts = some (.agg ⟨cs⟩) := bv_struct Tryd.underlying63 zr63 rfl (by simp [sz23, sz23, sz27]) hf
theorem bv70 {parts : List (Nat × Value)} {cs : List Value} (hf : fillL (plc [(0, 32), (32, 32)]) (hC zeroH ++ (hC zeroH)) parts = some cs) : buildV Tryd.prog 70 parts = some (.agg ⟨cs⟩) := bv_struct Tryd.underlying70 zr70 rfl (by simp [sz23, sz23]) hf
theorem bv75 {parts : List (Nat × Value)} {cs : List Value} (hf : fillL (plc [(0, 1), (1, 1), (2, 1)]) ([.pointer none, .int .i64 ((0 : Nat) : Int), .bool false]) parts = some cs) : buildV Tryd.prog 75 parts = some (.agg ⟨cs⟩) := bv_struct Tryd.underlying75 zr75 rfl (by simp [sz73, sz3, sz4]) hf
theorem bv78 {parts : List (Nat × Value)} {cs : List Value} (hf : fillL (fun i => some (i * 1, 1)) ([.pointer none, .pointer none]) parts = some cs) : buildV Tryd.prog 78 parts = some (.agg ⟨cs⟩) := bv_arr Tryd.underlying78 sz73 zr78 rfl hf
theorem bv81 {parts : List (Nat × Value)} {cs : List Value} (hf : fillL (plc [(0, 32), (32, 2), (34, 1)]) (hC zeroH ++ ([.pointer none, .pointer none, .pointer none])) parts = some cs) : buildV Tryd.prog 81 parts = some (.agg ⟨cs⟩) := bv_struct Tryd.underlying81 zr81 rfl (by simp [sz23, sz78, sz79]) hf
theorem bv96 {parts : List (Nat × Value)} {cs : List Value} (hf : fillL (fun i => some (i * 1, 1)) (ints .u32 (List.replicate 8 0)) parts = some cs) : buildV Tryd.prog 96 parts = some (.agg ⟨cs⟩) := bv_arr Tryd.underlying96 sz95 zr96 rfl hf
theorem bv102 {parts : List (Nat × Value)} {cs : List Value} (hf : fillL (fun i => some (i * 1, 1)) (ints .u32 (List.replicate 64 0)) parts = some cs) : buildV Tryd.prog 102 parts = some (.agg ⟨cs⟩) := bv_arr Tryd.underlying102 sz95 zr102 rfl hf
theorem ek23 : eqKs Tryd.prog 23 = some (List.replicate 32 (.int)) := by kernel_rfl
theorem eq23 {a b : Hsh} : binV Tryd.prog .eql 23 (hV a) (hV b) = some (.bool (decide (a = b))) := eqH ek23 ag23
theorem ne23 {a b : Hsh} : binV Tryd.prog .neq 23 (hV a) (hV b) = some (.bool (decide (¬ a = b))) := neH ek23 ag23
theorem ap24_24 {z : Value} (hz : zeroT Tryd.prog 23 = some z) (hl : z.cells.toList.length = 32) : AppT Tryd.prog 24 24 23 32 32 z := ⟨Tryd.underlying24, by simp [notInt, Tryd.underlying24], sz23, bs23, hz, by decide, by decide, hl⟩
theorem ap56_56 {z : Value} (hz : zeroT Tryd.prog 63 = some z) (hl : z.cells.toList.length = 97) : AppT Tryd.prog 56 56 63 97 120 z := ⟨Tryd.underlying56, by simp [notInt, Tryd.underlying56], sz63, bs63, hz, by decide, by decide, hl⟩
theorem ap86_9 {z : Value} (hz : zeroT Tryd.prog 5 = some z) (hl : z.cells.toList.length = 1) : AppT Tryd.prog 86 9 5 1 1 z := ⟨Tryd.underlying86, by simp [notInt, Tryd.underlying9], sz5, bs5, hz, by decide, by decide, hl⟩
theorem ap86_86 {z : Value} (hz : zeroT Tryd.prog 5 = some z) (hl : z.cells.toList.length = 1) : AppT Tryd.prog 86 86 5 1 1 z := ⟨Tryd.underlying86, by simp [notInt, Tryd.underlying86], sz5, bs5, hz, by decide, by decide, hl⟩
end Go.Proofs.YtmlofdgamdlcgaaDoor
