/- What the walks of this seat lean on. -/
import Derived.Test.YtpbaloceljfaoaaAbC
import Derived.Test.YtpbaloceljfaoaaWd
import Derived.Test.YtpbaloceljfaoaaProg
set_option linter.unusedVariables false
set_option linter.unusedSimpArgs false
namespace Go.Proofs.Ytpbaloceljfaoaa.ZRat
open Go.RowKit Go.Proofs.Ytpbaloceljfaoaa.Wd
open Go Go.Proofs.Ytpbaloceljfaoaa.Ab Go.Proofs
set_option linter.unusedSimpArgs false
set_option linter.unusedVariables false
def unN (k : IntKind) : AV → Option Int
  | .int k' n => if k' = k then some n else none
  | _ => none
def unB : AV → Option Bool
  | .bool b => some b
  | _ => none
def unS : AV → Option ByteArray
  | .str b => some b
  | _ => none
theorem kd1 : kindT Try.prog 1 = some (1, false) := by kernel_rfl
theorem td2 : tdesc Try.prog 2 = .int .i64 := by kernel_rfl
theorem ok2 : okT Try.prog 2 = true := by kernel_rfl
theorem zt2 : zeroT Try.prog 2 = [.int .i64 0] := by kernel_rfl
theorem kd2 : kindT Try.prog 2 = some (1, false) := by kernel_rfl
theorem td3 : tdesc Try.prog 3 = .int .i64 := by kernel_rfl
theorem ok3 : okT Try.prog 3 = true := by kernel_rfl
theorem zt3 : zeroT Try.prog 3 = [.int .i64 0] := by kernel_rfl
theorem kd3 : kindT Try.prog 3 = some (1, false) := by kernel_rfl
theorem td4 : tdesc Try.prog 4 = .bool := by kernel_rfl
theorem ok4 : okT Try.prog 4 = true := by kernel_rfl
theorem zt4 : zeroT Try.prog 4 = [.bool false] := by kernel_rfl
theorem kd4 : kindT Try.prog 4 = some (1, false) := by kernel_rfl
theorem td5 : tdesc Try.prog 5 = .int .u8 := by kernel_rfl
theorem ok5 : okT Try.prog 5 = true := by kernel_rfl
theorem zt5 : zeroT Try.prog 5 = [.int .u8 0] := by kernel_rfl
theorem kd5 : kindT Try.prog 5 = some (1, false) := by kernel_rfl
theorem td6 : tdesc Try.prog 6 = .int .u8 := by kernel_rfl
theorem ok6 : okT Try.prog 6 = true := by kernel_rfl
theorem zt6 : zeroT Try.prog 6 = [.int .u8 0] := by kernel_rfl
theorem kd6 : kindT Try.prog 6 = some (1, false) := by kernel_rfl
theorem td7 : tdesc Try.prog 7 = .struct 4 [.int .i64 0, .int .i64 0, .bool false, .int .u8 0] [(0, 1, false), (1, 1, false), (2, 1, false), (3, 1, false)] := by kernel_rfl
theorem ok7 : okT Try.prog 7 = true := by kernel_rfl
theorem zt7 : zeroT Try.prog 7 = [.int .i64 0, .int .i64 0, .bool false, .int .u8 0] := by kernel_rfl
theorem kd7 : kindT Try.prog 7 = some (4, true) := by kernel_rfl
theorem td8 : tdesc Try.prog 8 = .struct 4 [.int .i64 0, .int .i64 0, .bool false, .int .u8 0] [(0, 1, false), (1, 1, false), (2, 1, false), (3, 1, false)] := by kernel_rfl
theorem ok8 : okT Try.prog 8 = true := by kernel_rfl
theorem zt8 : zeroT Try.prog 8 = [.int .i64 0, .int .i64 0, .bool false, .int .u8 0] := by kernel_rfl
theorem kd8 : kindT Try.prog 8 = some (4, true) := by kernel_rfl
theorem td9 : tdesc Try.prog 9 = .str := by kernel_rfl
theorem ok9 : okT Try.prog 9 = true := by kernel_rfl
theorem zt9 : zeroT Try.prog 9 = [.str ⟨#[]⟩] := by kernel_rfl
theorem kd9 : kindT Try.prog 9 = some (1, false) := by kernel_rfl
theorem td10 : tdesc Try.prog 10 = .str := by kernel_rfl
theorem ok10 : okT Try.prog 10 = true := by kernel_rfl
theorem zt10 : zeroT Try.prog 10 = [.str ⟨#[]⟩] := by kernel_rfl
theorem kd10 : kindT Try.prog 10 = some (1, false) := by kernel_rfl
theorem td11 : tdesc Try.prog 11 = .str := by kernel_rfl
theorem ok11 : okT Try.prog 11 = true := by kernel_rfl
theorem zt11 : zeroT Try.prog 11 = [.str ⟨#[]⟩] := by kernel_rfl
theorem kd11 : kindT Try.prog 11 = some (1, false) := by kernel_rfl
theorem td12 : tdesc Try.prog 12 = .int .u64 := by kernel_rfl
theorem ok12 : okT Try.prog 12 = true := by kernel_rfl
theorem zt12 : zeroT Try.prog 12 = [.int .u64 0] := by kernel_rfl
theorem kd12 : kindT Try.prog 12 = some (1, false) := by kernel_rfl
theorem td13 : tdesc Try.prog 13 = .struct 2 [.str ⟨#[]⟩, .int .u64 0] [(0, 1, false), (1, 1, false)] := by kernel_rfl
theorem ok13 : okT Try.prog 13 = true := by kernel_rfl
theorem zt13 : zeroT Try.prog 13 = [.str ⟨#[]⟩, .int .u64 0] := by kernel_rfl
theorem kd13 : kindT Try.prog 13 = some (2, true) := by kernel_rfl
theorem td14 : tdesc Try.prog 14 = .struct 2 [.str ⟨#[]⟩, .int .u64 0] [(0, 1, false), (1, 1, false)] := by kernel_rfl
theorem ok14 : okT Try.prog 14 = true := by kernel_rfl
theorem zt14 : zeroT Try.prog 14 = [.str ⟨#[]⟩, .int .u64 0] := by kernel_rfl
theorem kd14 : kindT Try.prog 14 = some (2, true) := by kernel_rfl
theorem kd15 : kindT Try.prog 15 = some (1, false) := by kernel_rfl
theorem kd16 : kindT Try.prog 16 = some (1, false) := by kernel_rfl
theorem kd17 : kindT Try.prog 17 = some (1, false) := by kernel_rfl
theorem td18 : tdesc Try.prog 18 = .struct 1 [.any] [(0, 1, false)] := by kernel_rfl
theorem ok18 : okT Try.prog 18 = true := by kernel_rfl
theorem zt18 : zeroT Try.prog 18 = [.any] := by kernel_rfl
theorem kd18 : kindT Try.prog 18 = some (1, true) := by kernel_rfl
theorem td19 : tdesc Try.prog 19 = .struct 1 [.any] [(0, 1, false)] := by kernel_rfl
theorem ok19 : okT Try.prog 19 = true := by kernel_rfl
theorem zt19 : zeroT Try.prog 19 = [.any] := by kernel_rfl
theorem kd19 : kindT Try.prog 19 = some (1, true) := by kernel_rfl
theorem kd20 : kindT Try.prog 20 = some (1, false) := by kernel_rfl
theorem td21 : tdesc Try.prog 21 = .int .i32 := by kernel_rfl
theorem ok21 : okT Try.prog 21 = true := by kernel_rfl
theorem zt21 : zeroT Try.prog 21 = [.int .i32 0] := by kernel_rfl
theorem kd21 : kindT Try.prog 21 = some (1, false) := by kernel_rfl
theorem td22 : tdesc Try.prog 22 = .slice 34 3 24 [.int .i64 0, .int .i64 0, .int .i64 0] := by kernel_rfl
theorem ok22 : okT Try.prog 22 = true := by kernel_rfl
theorem zt22 : zeroT Try.prog 22 = [.nil] := by kernel_rfl
theorem kd22 : kindT Try.prog 22 = some (1, false) := by kernel_rfl
theorem kd23 : kindT Try.prog 23 = some (1, false) := by kernel_rfl
theorem td24 : tdesc Try.prog 24 = .slice 38 3 24 [.int .i64 0, .int .i64 0, .int .i64 0] := by kernel_rfl
theorem ok24 : okT Try.prog 24 = true := by kernel_rfl
theorem zt24 : zeroT Try.prog 24 = [.nil] := by kernel_rfl
theorem kd24 : kindT Try.prog 24 = some (1, false) := by kernel_rfl
theorem td25 : tdesc Try.prog 25 = .int .i64 := by kernel_rfl
theorem ok25 : okT Try.prog 25 = true := by kernel_rfl
theorem zt25 : zeroT Try.prog 25 = [.int .i64 0] := by kernel_rfl
theorem kd25 : kindT Try.prog 25 = some (1, false) := by kernel_rfl
theorem kd27 : kindT Try.prog 27 = some (1, false) := by kernel_rfl
theorem kd28 : kindT Try.prog 28 = some (1, false) := by kernel_rfl
theorem kd29 : kindT Try.prog 29 = some (1, false) := by kernel_rfl
theorem kd30 : kindT Try.prog 30 = some (1, false) := by kernel_rfl
theorem td31 : tdesc Try.prog 31 = .map 3 4 (.bool false) := by kernel_rfl
theorem kd31 : kindT Try.prog 31 = some (1, false) := by kernel_rfl
theorem td32 : tdesc Try.prog 32 = .map 36 4 (.bool false) := by kernel_rfl
theorem kd32 : kindT Try.prog 32 = some (1, false) := by kernel_rfl
theorem td33 : tdesc Try.prog 33 = .struct 3 [.int .i64 0, .int .i64 0, .int .i64 0] [(0, 1, false), (1, 1, false), (2, 1, false)] := by kernel_rfl
theorem ok33 : okT Try.prog 33 = true := by kernel_rfl
theorem zt33 : zeroT Try.prog 33 = [.int .i64 0, .int .i64 0, .int .i64 0] := by kernel_rfl
theorem kd33 : kindT Try.prog 33 = some (3, true) := by kernel_rfl
theorem td34 : tdesc Try.prog 34 = .struct 3 [.int .i64 0, .int .i64 0, .int .i64 0] [(0, 1, false), (1, 1, false), (2, 1, false)] := by kernel_rfl
theorem ok34 : okT Try.prog 34 = true := by kernel_rfl
theorem zt34 : zeroT Try.prog 34 = [.int .i64 0, .int .i64 0, .int .i64 0] := by kernel_rfl
theorem kd34 : kindT Try.prog 34 = some (3, true) := by kernel_rfl
theorem td35 : tdesc Try.prog 35 = .struct 2 [.int .i64 0, .int .i64 0] [(0, 1, false), (1, 1, false)] := by kernel_rfl
theorem ok35 : okT Try.prog 35 = true := by kernel_rfl
theorem zt35 : zeroT Try.prog 35 = [.int .i64 0, .int .i64 0] := by kernel_rfl
theorem kd35 : kindT Try.prog 35 = some (2, true) := by kernel_rfl
theorem td36 : tdesc Try.prog 36 = .struct 2 [.int .i64 0, .int .i64 0] [(0, 1, false), (1, 1, false)] := by kernel_rfl
theorem ok36 : okT Try.prog 36 = true := by kernel_rfl
theorem zt36 : zeroT Try.prog 36 = [.int .i64 0, .int .i64 0] := by kernel_rfl
theorem kd36 : kindT Try.prog 36 = some (2, true) := by kernel_rfl
theorem td37 : tdesc Try.prog 37 = .struct 3 [.int .i64 0, .int .i64 0, .int .i64 0] [(0, 1, false), (1, 2, true)] := by kernel_rfl
theorem ok37 : okT Try.prog 37 = true := by kernel_rfl
theorem zt37 : zeroT Try.prog 37 = [.int .i64 0, .int .i64 0, .int .i64 0] := by kernel_rfl
theorem kd37 : kindT Try.prog 37 = some (3, true) := by kernel_rfl
theorem td38 : tdesc Try.prog 38 = .struct 3 [.int .i64 0, .int .i64 0, .int .i64 0] [(0, 1, false), (1, 2, true)] := by kernel_rfl
theorem ok38 : okT Try.prog 38 = true := by kernel_rfl
theorem zt38 : zeroT Try.prog 38 = [.int .i64 0, .int .i64 0, .int .i64 0] := by kernel_rfl
theorem kd38 : kindT Try.prog 38 = some (3, true) := by kernel_rfl
theorem kd39 : kindT Try.prog 39 = some (1, false) := by kernel_rfl
theorem kd40 : kindT Try.prog 40 = some (1, false) := by kernel_rfl
theorem kd41 : kindT Try.prog 41 = some (1, false) := by kernel_rfl
theorem td42 : tdesc Try.prog 42 = .struct 3 [.int .i64 0, .int .i64 0, .nil] [(0, 1, false), (1, 1, false), (2, 1, false)] := by kernel_rfl
theorem ok42 : okT Try.prog 42 = true := by kernel_rfl
theorem zt42 : zeroT Try.prog 42 = [.int .i64 0, .int .i64 0, .nil] := by kernel_rfl
theorem kd42 : kindT Try.prog 42 = some (3, true) := by kernel_rfl
theorem td43 : tdesc Try.prog 43 = .struct 3 [.int .i64 0, .int .i64 0, .nil] [(0, 1, false), (1, 1, false), (2, 1, false)] := by kernel_rfl
theorem ok43 : okT Try.prog 43 = true := by kernel_rfl
theorem zt43 : zeroT Try.prog 43 = [.int .i64 0, .int .i64 0, .nil] := by kernel_rfl
theorem kd43 : kindT Try.prog 43 = some (3, true) := by kernel_rfl
theorem kd44 : kindT Try.prog 44 = some (1, false) := by kernel_rfl
theorem kd45 : kindT Try.prog 45 = some (1, false) := by kernel_rfl
theorem kd46 : kindT Try.prog 46 = some (1, false) := by kernel_rfl
theorem kd47 : kindT Try.prog 47 = some (1, false) := by kernel_rfl
theorem kd49 : kindT Try.prog 49 = some (1, false) := by kernel_rfl
theorem kd50 : kindT Try.prog 50 = some (1, false) := by kernel_rfl
theorem kd51 : kindT Try.prog 51 = some (1, false) := by kernel_rfl
theorem td52 : tdesc Try.prog 52 = .int .u64 := by kernel_rfl
theorem ok52 : okT Try.prog 52 = true := by kernel_rfl
theorem zt52 : zeroT Try.prog 52 = [.int .u64 0] := by kernel_rfl
theorem kd52 : kindT Try.prog 52 = some (1, false) := by kernel_rfl
theorem kd53 : kindT Try.prog 53 = some (1, false) := by kernel_rfl
theorem td54 : tdesc Try.prog 54 = .struct 3 [.str ⟨#[]⟩, .int .i64 0, .bool false] [(0, 1, false), (1, 1, false), (2, 1, false)] := by kernel_rfl
theorem ok54 : okT Try.prog 54 = true := by kernel_rfl
theorem zt54 : zeroT Try.prog 54 = [.str ⟨#[]⟩, .int .i64 0, .bool false] := by kernel_rfl
theorem kd54 : kindT Try.prog 54 = some (3, true) := by kernel_rfl
theorem td55 : tdesc Try.prog 55 = .struct 3 [.str ⟨#[]⟩, .int .i64 0, .bool false] [(0, 1, false), (1, 1, false), (2, 1, false)] := by kernel_rfl
theorem ok55 : okT Try.prog 55 = true := by kernel_rfl
theorem zt55 : zeroT Try.prog 55 = [.str ⟨#[]⟩, .int .i64 0, .bool false] := by kernel_rfl
theorem kd55 : kindT Try.prog 55 = some (3, true) := by kernel_rfl
theorem kd56 : kindT Try.prog 56 = some (1, false) := by kernel_rfl
theorem kd57 : kindT Try.prog 57 = some (1, false) := by kernel_rfl
theorem kd58 : kindT Try.prog 58 = some (1, false) := by kernel_rfl
theorem td59 : tdesc Try.prog 59 = .int .i64 := by kernel_rfl
theorem ok59 : okT Try.prog 59 = true := by kernel_rfl
theorem zt59 : zeroT Try.prog 59 = [.int .i64 0] := by kernel_rfl
theorem kd59 : kindT Try.prog 59 = some (1, false) := by kernel_rfl
theorem kd61 : kindT Try.prog 61 = some (1, false) := by kernel_rfl
theorem kd62 : kindT Try.prog 62 = some (1, false) := by kernel_rfl
theorem kd63 : kindT Try.prog 63 = some (1, false) := by kernel_rfl
theorem kd65 : kindT Try.prog 65 = some (1, false) := by kernel_rfl
theorem kd66 : kindT Try.prog 66 = some (1, false) := by kernel_rfl
theorem td67 : tdesc Try.prog 67 = .int .u32 := by kernel_rfl
theorem ok67 : okT Try.prog 67 = true := by kernel_rfl
theorem zt67 : zeroT Try.prog 67 = [.int .u32 0] := by kernel_rfl
theorem kd67 : kindT Try.prog 67 = some (1, false) := by kernel_rfl
theorem kd68 : kindT Try.prog 68 = some (1, false) := by kernel_rfl
theorem td69 : tdesc Try.prog 69 = .int .u64 := by kernel_rfl
theorem ok69 : okT Try.prog 69 = true := by kernel_rfl
theorem zt69 : zeroT Try.prog 69 = [.int .u64 0] := by kernel_rfl
theorem kd69 : kindT Try.prog 69 = some (1, false) := by kernel_rfl
theorem td70 : tdesc Try.prog 70 = .slice 9 1 16 [.str ⟨#[]⟩] := by kernel_rfl
theorem ok70 : okT Try.prog 70 = true := by kernel_rfl
theorem zt70 : zeroT Try.prog 70 = [.nil] := by kernel_rfl
theorem kd70 : kindT Try.prog 70 = some (1, false) := by kernel_rfl
theorem kd72 : kindT Try.prog 72 = some (1, false) := by kernel_rfl
theorem kd73 : kindT Try.prog 73 = some (1, false) := by kernel_rfl
theorem td74 : tdesc Try.prog 74 = .int .u64 := by kernel_rfl
theorem ok74 : okT Try.prog 74 = true := by kernel_rfl
theorem zt74 : zeroT Try.prog 74 = [.int .u64 0] := by kernel_rfl
theorem kd74 : kindT Try.prog 74 = some (1, false) := by kernel_rfl
theorem kd75 : kindT Try.prog 75 = some (1, false) := by kernel_rfl
theorem kd76 : kindT Try.prog 76 = some (1, false) := by kernel_rfl
theorem kd77 : kindT Try.prog 77 = some (1, false) := by kernel_rfl
theorem kd78 : kindT Try.prog 78 = some (1, false) := by kernel_rfl
theorem kd79 : kindT Try.prog 79 = some (1, false) := by kernel_rfl
theorem kd80 : kindT Try.prog 80 = some (1, false) := by kernel_rfl
theorem kd81 : kindT Try.prog 81 = some (1, false) := by kernel_rfl
theorem kd82 : kindT Try.prog 82 = some (1, false) := by kernel_rfl
theorem kd83 : kindT Try.prog 83 = some (1, false) := by kernel_rfl
theorem kd84 : kindT Try.prog 84 = some (1, false) := by kernel_rfl
theorem kd86 : kindT Try.prog 86 = some (1, false) := by kernel_rfl
theorem kd87 : kindT Try.prog 87 = some (1, false) := by kernel_rfl
theorem td88 : tdesc Try.prog 88 = .struct 4 [.any, .any, .any, .str ⟨#[]⟩] [(0, 1, false), (1, 1, false), (2, 1, false), (3, 1, false)] := by kernel_rfl
theorem ok88 : okT Try.prog 88 = true := by kernel_rfl
theorem zt88 : zeroT Try.prog 88 = [.any, .any, .any, .str ⟨#[]⟩] := by kernel_rfl
theorem kd88 : kindT Try.prog 88 = some (4, true) := by kernel_rfl
theorem td89 : tdesc Try.prog 89 = .struct 4 [.any, .any, .any, .str ⟨#[]⟩] [(0, 1, false), (1, 1, false), (2, 1, false), (3, 1, false)] := by kernel_rfl
theorem ok89 : okT Try.prog 89 = true := by kernel_rfl
theorem zt89 : zeroT Try.prog 89 = [.any, .any, .any, .str ⟨#[]⟩] := by kernel_rfl
theorem kd89 : kindT Try.prog 89 = some (4, true) := by kernel_rfl
theorem kd93 : kindT Try.prog 93 = some (1, false) := by kernel_rfl
theorem td94 : tdesc Try.prog 94 = .int .u8 := by kernel_rfl
theorem ok94 : okT Try.prog 94 = true := by kernel_rfl
theorem zt94 : zeroT Try.prog 94 = [.int .u8 0] := by kernel_rfl
theorem kd94 : kindT Try.prog 94 = some (1, false) := by kernel_rfl
theorem td95 : tdesc Try.prog 95 = .int .u8 := by kernel_rfl
theorem ok95 : okT Try.prog 95 = true := by kernel_rfl
theorem zt95 : zeroT Try.prog 95 = [.int .u8 0] := by kernel_rfl
theorem kd95 : kindT Try.prog 95 = some (1, false) := by kernel_rfl
theorem kd96 : kindT Try.prog 96 = some (1, false) := by kernel_rfl
theorem kd97 : kindT Try.prog 97 = some (1, false) := by kernel_rfl
theorem td98 : tdesc Try.prog 98 = .int .i32 := by kernel_rfl
theorem ok98 : okT Try.prog 98 = true := by kernel_rfl
theorem zt98 : zeroT Try.prog 98 = [.int .i32 0] := by kernel_rfl
theorem kd98 : kindT Try.prog 98 = some (1, false) := by kernel_rfl
theorem td99 : tdesc Try.prog 99 = .int .i32 := by kernel_rfl
theorem ok99 : okT Try.prog 99 = true := by kernel_rfl
theorem zt99 : zeroT Try.prog 99 = [.int .i32 0] := by kernel_rfl
theorem kd99 : kindT Try.prog 99 = some (1, false) := by kernel_rfl
theorem td100 : tdesc Try.prog 100 = .struct 11 [.int .u64 0, .int .u64 0, .int .u32 0, .int .u8 0, .int .u8 0, .int .u8 0, .int .u8 0, .any, .any, .int .i32 0, .int .i32 0] [(0, 1, false), (1, 1, false), (2, 1, false), (3, 1, false), (4, 1, false), (5, 1, false), (6, 1, false), (7, 1, false), (8, 1, false), (9, 1, false), (10, 1, false)] := by kernel_rfl
theorem ok100 : okT Try.prog 100 = true := by kernel_rfl
theorem zt100 : zeroT Try.prog 100 = [.int .u64 0, .int .u64 0, .int .u32 0, .int .u8 0, .int .u8 0, .int .u8 0, .int .u8 0, .any, .any, .int .i32 0, .int .i32 0] := by kernel_rfl
theorem kd100 : kindT Try.prog 100 = some (11, true) := by kernel_rfl
theorem td101 : tdesc Try.prog 101 = .struct 11 [.int .u64 0, .int .u64 0, .int .u32 0, .int .u8 0, .int .u8 0, .int .u8 0, .int .u8 0, .any, .any, .int .i32 0, .int .i32 0] [(0, 1, false), (1, 1, false), (2, 1, false), (3, 1, false), (4, 1, false), (5, 1, false), (6, 1, false), (7, 1, false), (8, 1, false), (9, 1, false), (10, 1, false)] := by kernel_rfl
theorem ok101 : okT Try.prog 101 = true := by kernel_rfl
theorem zt101 : zeroT Try.prog 101 = [.int .u64 0, .int .u64 0, .int .u32 0, .int .u8 0, .int .u8 0, .int .u8 0, .int .u8 0, .any, .any, .int .i32 0, .int .i32 0] := by kernel_rfl
theorem kd101 : kindT Try.prog 101 = some (11, true) := by kernel_rfl
theorem kd102 : kindT Try.prog 102 = some (1, false) := by kernel_rfl
theorem eg34 : Try.prog.eqGuardType Try.prog.depth 34 = false := by kernel_rfl
theorem eq34 (a0 : Int) (a1 : Int) (a2 : Int) (b0 : Int) (b1 : Int) (b2 : Int) : eqA Try.prog 8 34 (.agg [.int .i64 a0, .int .i64 a1, .int .i64 a2]) (.agg [.int .i64 b0, .int .i64 b1, .int .i64 b2]) = some ((a0 == b0) && (a1 == b1) && (a2 == b2)) := by
  have h : eqA Try.prog 8 34 (.agg [.int .i64 a0, .int .i64 a1, .int .i64 a2]) (.agg [.int .i64 b0, .int .i64 b1, .int .i64 b2]) = some (((a0 == b0) && ((a1 == b1) && ((a2 == b2) && true)))) := by kernel_rfl
  rw [h]; simp [Bool.and_assoc]
theorem eg36 : Try.prog.eqGuardType Try.prog.depth 36 = false := by kernel_rfl
theorem eq36 (a0 : Int) (a1 : Int) (b0 : Int) (b1 : Int) : eqA Try.prog 8 36 (.agg [.int .i64 a0, .int .i64 a1]) (.agg [.int .i64 b0, .int .i64 b1]) = some ((a0 == b0) && (a1 == b1)) := by
  have h : eqA Try.prog 8 36 (.agg [.int .i64 a0, .int .i64 a1]) (.agg [.int .i64 b0, .int .i64 b1]) = some (((a0 == b0) && ((a1 == b1) && true))) := by kernel_rfl
  rw [h]; simp [Bool.and_assoc]
theorem eg38 : Try.prog.eqGuardType Try.prog.depth 38 = false := by kernel_rfl
theorem eq38 (a0 : Int) (a1 : Int) (a2 : Int) (b0 : Int) (b1 : Int) (b2 : Int) : eqA Try.prog 8 38 (.agg [.int .i64 a0, .int .i64 a1, .int .i64 a2]) (.agg [.int .i64 b0, .int .i64 b1, .int .i64 b2]) = some ((a0 == b0) && (a1 == b1) && (a2 == b2)) := by
  have h : eqA Try.prog 8 38 (.agg [.int .i64 a0, .int .i64 a1, .int .i64 a2]) (.agg [.int .i64 b0, .int .i64 b1, .int .i64 b2]) = some (((a0 == b0) && (((a1 == b1) && ((a2 == b2) && true)) && true))) := by kernel_rfl
  rw [h]; simp [Bool.and_assoc]
theorem key3 (a0 : Int) : keyA Try.prog 8 3 (.int .i64 a0) = true := by kernel_rfl
theorem key36 (a0 a1 : Int) : keyA Try.prog 8 36 (.agg [.int .i64 a0, .int .i64 a1]) = true := by kernel_rfl
attribute [simp] kd1 td2 ok2 zt2 kd2 td3 ok3 zt3 kd3 td4 ok4 zt4 kd4 td5 ok5 zt5 kd5 td6 ok6 zt6 kd6 td7 ok7 zt7 kd7 td8 ok8 zt8 kd8 td9 ok9 zt9 kd9 td10 ok10 zt10 kd10 td11 ok11 zt11 kd11 td12 ok12 zt12 kd12 td13 ok13 zt13 kd13 td14 ok14 zt14 kd14 kd15 kd16 kd17 td18 ok18 zt18 kd18 td19 ok19 zt19 kd19 kd20 td21 ok21 zt21 kd21 td22 ok22 zt22 kd22 kd23 td24 ok24 zt24 kd24 td25 ok25 zt25 kd25 kd27 kd28 kd29 kd30 td31 kd31 td32 kd32 td33 ok33 zt33 kd33 td34 ok34 zt34 kd34 td35 ok35 zt35 kd35 td36 ok36 zt36 kd36 td37 ok37 zt37 kd37 td38 ok38 zt38 kd38 kd39 kd40 kd41 td42 ok42 zt42 kd42 td43 ok43 zt43 kd43 kd44 kd45 kd46 kd47 kd49 kd50 kd51 td52 ok52 zt52 kd52 kd53 td54 ok54 zt54 kd54 td55 ok55 zt55 kd55 kd56 kd57 kd58 td59 ok59 zt59 kd59 kd61 kd62 kd63 kd65 kd66 td67 ok67 zt67 kd67 kd68 td69 ok69 zt69 kd69 td70 ok70 zt70 kd70 kd72 kd73 td74 ok74 zt74 kd74 kd75 kd76 kd77 kd78 kd79 kd80 kd81 kd82 kd83 kd84 kd86 kd87 td88 ok88 zt88 kd88 td89 ok89 zt89 kd89 kd93 td94 ok94 zt94 kd94 td95 ok95 zt95 kd95 kd96 kd97 td98 ok98 zt98 kd98 td99 ok99 zt99 kd99 td100 ok100 zt100 kd100 td101 ok101 zt101 kd101 kd102 eg34 eq34 eg36 eq36 eg38 eq38 key3 key36
theorem w64_eq (n : Int) : IntKind.i64.wrap n = wrap64 n := by
  unfold wrap64; simp [IntKind.wrap, IntKind.signed, IntKind.bits]; omega
theorem w32_eq (n : Int) : IntKind.u32.wrap n = n % 4294967296 := by
  simp [IntKind.wrap, IntKind.signed, IntKind.bits]
theorem w64u (n : Int) : IntKind.u64.wrap (n % 4294967296) = n % 4294967296 := by
  simp [IntKind.wrap, IntKind.signed, IntKind.bits]; omega
theorem w64m (n : Int) : wrap64 (n % 4294967296) = n % 4294967296 := by unfold wrap64; omega
attribute [simp] w64u w64m
theorem get_rd (l : List Int) (f : Int → AV) (i : Int) (h0 : 0 ≤ i) (h1 : i < l.length) : (l.map f)[i.toNat]? = some (f (rd l i)) := by
  obtain ⟨n, rfl⟩ := Int.eq_ofNat_of_zero_le h0
  have : n < l.length := by omega
  simp [rd, this]
theorem isBytes_map : ∀ (l : List Int), isBytes (l.map (.int .u8)) = some l
  | [] => rfl
  | a :: l => by simp [isBytes, isBytes_map l]
attribute [simp] isBytes_map
def keepT (l : List (Nat × List Nat)) (i : Nat) : List Nat := ((l.find? (·.1 == i)).map (·.2)).getD []
def depT (l : List (Nat × List (List Nat × List Nat × Bool))) (i : Nat) : List (List Nat × List Nat × Bool) := ((l.find? (·.1 == i)).map (·.2)).getD []
theorem sh_shl (k : IntKind) (a b : Int) : shiftA .shl k a b = if b < 0 then none else some (.int k (shl k a b)) := rfl
theorem sh_shr (k : IntKind) (a b : Int) : shiftA .shr k a b = if b < 0 then none else some (.int k (shr k a b)) := by
  unfold shiftA shr; split
  · rfl
  · rw [Int.fdiv_eq_ediv_of_nonneg]; exact Int.le_of_lt (Int.pow_pos (by decide))
theorem shl32 (a : Int) : shl .u64 a 32 = IntKind.u64.wrap (a * 4294967296) := rfl
theorem shr32 (a : Int) : shr .u64 a 32 = a / 4294967296 := rfl
theorem shr63 (a : Int) : shr .u64 a 63 = a / 9223372036854775808 := rfl
theorem shr16 (a : Int) : shr .u32 a 16 = a / 65536 := rfl
theorem shr8 (a : Int) : shr .u32 a 8 = a / 256 := rfl
attribute [simp] shr16 shr8 sh_shl sh_shr shl32 shr32 shr63
theorem depT_nil (i : Nat) : depT [] i = [] := rfl
theorem depT_cons (a i : Nat) (x : List (List Nat × List Nat × Bool)) (l : List (Nat × List (List Nat × List Nat × Bool))) : depT ((a, x) :: l) i = if a = i then x else depT l i := by
  unfold depT
  by_cases h : a = i
  · simp [h]
  · simp [h]
theorem baSize (a : Array UInt8) : (ByteArray.mk a).size = a.size := rfl
attribute [simp] depT_nil depT_cons baSize Op.operands bneT bneF w64_eq w32_eq ltT ltF leT leF nltT nltF nleT nleF app1 app4 app8 mk4 mk8 maxS fr rowI List.replicate unI unC unC_map beqT beqF fdivP take_map IntKind.bits List.filter_cons List.filter_nil List.take_of_length_le List.map_append List.getElem?_append_left List.getElem?_append_right List.set_append_left List.set_append_right wk wk1 wk2 unN unB unS keepT
theorem get_rd0 (l : List Int) (f : Int → AV) (h1 : (0 : Int) < l.length) : (l.map f)[0]? = some (f (rd l 0)) := get_rd l f 0 (Int.le_refl _) h1
theorem unC_td (k : IntKind) (l : List Int) (n o : Nat) : unC k (((l.map (.int k)).drop o).take n) = some ((l.drop o).take n) := by
  rw [← List.map_drop, ← List.map_take, unC_map]
theorem unC_apps (k : IntKind) : ∀ (a b : List AV), unC k (a ++ b) = (unC k a).bind fun l => (unC k b).map (l ++ ·)
  | [], b => by simp [unC]
  | c :: a, b => by
    cases c <;> simp only [List.cons_append, unC] <;> try rfl
    split
    · rw [unC_apps k a b]; cases unC k a <;> cases unC k b <;> simp
    · rfl
theorem unC_take (k : IntKind) (l : List Int) (n : Nat) : unC k ((l.map (.int k)).take n) = some (l.take n) := by rw [← List.map_take, unC_map]
theorem unC_drop (k : IntKind) (l : List Int) (n : Nat) : unC k ((l.map (.int k)).drop n) = some (l.drop n) := by rw [← List.map_drop, unC_map]
theorem take_app2 {α : Type} (a b c : List α) : (a ++ (b ++ c)).take (a.length + b.length) = a ++ b := by
  rw [← List.append_assoc, List.take_append_of_le_length (by simp), List.take_of_length_le (by simp)]
theorem take_mapp {α β : Type} (f : α → β) (l : List α) (m : List β) : (l.map f ++ m).take l.length = l.map f := by
  rw [List.take_append_of_le_length (by simp), List.take_of_length_le (by simp)]
attribute [simp] take_mapp take_app2 unC_td unC_apps unC_take unC_drop
theorem bt_get (d : Array UInt8) (i : Int) (h0 : 0 ≤ i) (h1 : i < d.size) : d[i.toNat]? = some (UInt8.ofNat (bt ⟨d⟩ i).toNat) := by
  have h : i.toNat < d.size := by omega
  have e : bt ⟨d⟩ i = ((d[i.toNat]'h).toNat : Int) := by
    unfold bt; rw [dif_pos (show i.toNat < (ByteArray.mk d).size from h)]; rfl
  rw [e]; simp [h]
theorem bt_nat (b : ByteArray) (i : Int) : ((UInt8.ofNat (bt b i).toNat).toNat : Int) = bt b i := by
  obtain ⟨h0, h1⟩ := bt_range b i
  simp; omega
theorem lbt_get (d : List UInt8) (i : Int) (h0 : 0 ≤ i) (h1 : i < d.length) : d[i.toNat]? = some (UInt8.ofNat (bt ⟨d.toArray⟩ i).toNat) := by
  have := bt_get d.toArray i h0 (by simpa using h1)
  simpa using this
theorem w8_eq (n : Int) : IntKind.u8.wrap n = n % 256 := by
  simp [IntKind.wrap, IntKind.signed, IntKind.bits]
theorem w64_24 : wrap64 24 = 24 := by unfold wrap64; rfl
theorem w64_8 : wrap64 8 = 8 := by unfold wrap64; rfl
attribute [simp high] lbt_get bt_get
theorem bt_max (b : ByteArray) (i : Int) : max (bt b i) 0 % 256 = bt b i := by
  obtain ⟨h0, h1⟩ := bt_range b i
  omega
attribute [simp] bt_max w64_24 w64_8 w8_eq bt_nat
theorem get_app (l : List Int) (m : List AV) (f : Int → AV) (i : Int) (h0 : 0 ≤ i) (h1 : i < l.length) : (l.map f ++ m)[i.toNat]? = some (f (rd l i)) := by
  rw [List.getElem?_append_left (by simp; omega)]; exact get_rd l f i h0 h1
theorem get_app2 (a l : List Int) (m : List AV) (f g : Int → AV) (i : Int) (h0 : 0 ≤ i) (h1 : i < l.length) : (a.map g ++ (l.map f ++ m))[a.length + i.toNat]? = some (f (rd l i)) := by
  rw [List.getElem?_append_right (by simp)]; simpa using get_app l m f i h0 h1
theorem set_app2 (a : List Int) (l m : List AV) (g : Int → AV) (i : Nat) (v : AV) (h1 : i < l.length) : (a.map g ++ (l ++ m)).set (a.length + i) v = a.map g ++ (l.set i v ++ m) := by
  rw [List.set_append_right _ _ (by simp)]; simp only [List.length_map, Nat.add_sub_cancel_left]; rw [List.set_append_left _ _ h1]
attribute [simp high] get_app get_app2 set_app2 get_rd0 get_rd List.getElem?_cons_zero List.getElem?_cons_succ
theorem mixed : Try.prog.follows .mixedOrders = true := by kernel_rfl
theorem unB_eq {x : AV} {b : Bool} (h : unB x = some b) : x = .bool b := by cases x <;> simp only [unB, reduceCtorEq] at h; cases h; rfl
theorem unS_eq {x : AV} {b : ByteArray} (h : unS x = some b) : x = .str b := by cases x <;> simp only [unS, reduceCtorEq] at h; cases h; rfl
theorem unN_eq {k : IntKind} {x : AV} {n : Int} (h : unN k x = some n) : x = .int k n := by
  cases x <;> simp only [unN, reduceCtorEq] at h
  split at h
  · rename_i e; subst e; cases h; rfl
  · cases h
theorem unI_rowI (k : IntKind) (l : List Int) : unI k (rowI k l) = some l := unI_row k l _ rfl
/-- The calls of a walk: a function's number, and what it means. -/
def callS : List (FuncId × (List AV → Option AV)) → FuncId → List AV → Option AV
  | [], _, _ => none
  | (g, s) :: L, f, xs => if g = f then s xs else callS L f xs
def GoodS (p : FuncId × (List AV → Option AV)) : Prop := ∀ xs r, p.2 xs = some r → OkF Try.prog p.1 xs r
theorem alls_nil : ∀ p ∈ ([] : List (FuncId × (List AV → Option AV))), GoodS p := fun f h => by cases h
theorem alls_cons {a : FuncId × (List AV → Option AV)} {l : List (FuncId × (List AV → Option AV))} (h : GoodS a) (t : ∀ f ∈ l, GoodS f) : ∀ f ∈ a :: l, GoodS f := fun f hf => by
  rcases List.mem_cons.1 hf with e | e
  · exact e ▸ h
  · exact t f e
theorem callS_ok {L : List (FuncId × (List AV → Option AV))} (h : ∀ p ∈ L, GoodS p) {f : FuncId} {xs : List AV} {r : AV} (hc : callS L f xs = some r) : OkF Try.prog f xs r := by
  induction L with
  | nil => simp [callS] at hc
  | cons a L ih =>
    obtain ⟨g, s⟩ := a
    simp only [callS] at hc
    split at hc
    · rename_i e; subst e; exact h (g, s) (by simp) _ _ hc
    · exact ih (fun p hp => h p (by simp [hp])) hc
/-- Calls by reference: a function's number, and what it means. -/
def callQ : List (FuncId × (List AV → List Blk → List Bool → Option (AV × List Blk × List Bool))) → FuncId → List AV → List Blk → List Bool → Option (AV × List Blk × List Bool)
  | [], _, _, _, _ => none
  | (g, s) :: L, f, xs, h, z => if g = f then s xs h z else callQ L f xs h z
noncomputable def mkQ (L : List (FuncId × (List AV → Option AV))) (R : List (FuncId × (List AV → List Blk → List Bool → Option (AV × List Blk × List Bool)))) (kt : List (Nat × List Nat)) (dt : List (Nat × List (List Nat × List Nat × Bool))) : Env := ⟨Try.prog, fun f => (R.map (·.1)).contains f, fun f xs => callS L f (xs.map wk), fun f xs h z => callQ R f xs h z, keepT kt, depT dt, fun _ _ => none⟩
section
variable {L : List (FuncId × (List AV → Option AV))} {R : List (FuncId × (List AV → List Blk → List Bool → Option (AV × List Blk × List Bool)))} {kt : List (Nat × List Nat)} {dt : List (Nat × List (List Nat × List Nat × Bool))} {f : FuncId} {xs : List AV} {h : List Blk} {z : List Bool} {i : Nat}
theorem mkQ_P : (mkQ L R kt dt).P = Try.prog := rfl
theorem mkQ_ref : (mkQ L R kt dt).ref f = (R.map (·.1)).contains f := rfl
theorem mkQ_call : (mkQ L R kt dt).call f xs = callS L f (xs.map wk) := rfl
theorem mkQ_callR : (mkQ L R kt dt).callR f xs h z = callQ R f xs h z := rfl
theorem mkQ_keep : (mkQ L R kt dt).keep i = keepT kt i := rfl
theorem mkQ_dep : (mkQ L R kt dt).dep i = depT dt i := rfl
end
def GoodQ (p : FuncId × (List AV → List Blk → List Bool → Option (AV × List Blk × List Bool))) : Prop := ∀ xs h z r h' z', p.2 xs h z = some (r, h', z') → OkR Try.prog p.1 xs h z r h' z'
theorem allq_nil : ∀ p ∈ ([] : List (FuncId × (List AV → List Blk → List Bool → Option (AV × List Blk × List Bool)))), GoodQ p := fun f h => by cases h
theorem allq_cons {a : FuncId × (List AV → List Blk → List Bool → Option (AV × List Blk × List Bool))} {l : List (FuncId × (List AV → List Blk → List Bool → Option (AV × List Blk × List Bool)))} (h : GoodQ a) (t : ∀ f ∈ l, GoodQ f) : ∀ f ∈ a :: l, GoodQ f := fun f hf => by
  rcases List.mem_cons.1 hf with e | e
  · exact e ▸ h
  · exact t f e
theorem callQ_ok {L : List (FuncId × (List AV → List Blk → List Bool → Option (AV × List Blk × List Bool)))} (h : ∀ p ∈ L, GoodQ p) {f : FuncId} {xs : List AV} {b : List Blk} {z : List Bool} {r : AV} {b' : List Blk} {z' : List Bool} (hc : callQ L f xs b z = some (r, b', z')) : OkR Try.prog f xs b z r b' z' := by
  induction L with
  | nil => simp [callQ] at hc
  | cons a L ih =>
    obtain ⟨g, s⟩ := a
    simp only [callQ] at hc
    split at hc
    · rename_i e; subst e; exact h (g, s) (by simp) _ _ _ _ _ _ hc
    · exact ih (fun p hp => h p (by simp [hp])) hc
theorem mkQ_ok {L : List (FuncId × (List AV → Option AV))} {R : List (FuncId × (List AV → List Blk → List Bool → Option (AV × List Blk × List Bool)))} {kt : List (Nat × List Nat)} {dt : List (Nat × List (List Nat × List Nat × Bool))} (h : ∀ p ∈ L, GoodS p) (hr : ∀ p ∈ R, GoodQ p) : EnvOk (mkQ L R kt dt) Try.prog :=
  ⟨rfl, fun f xs r hc => OkF.wkA (callS_ok h hc), fun f xs h z v h' z' hc => callQ_ok hr hc, fun _ _ _ h => by simp [mkQ] at h⟩
attribute [simp] mkQ_P mkQ_ref mkQ_call mkQ_callR mkQ_keep mkQ_dep callS callQ
/-- A decoder of what an encoder writes. -/
noncomputable def dec {α : Type} (enc : α → AV) (x : AV) : Option α := by
  classical exact if h : ∃ a, x = enc a then some (Classical.choose h) else none
theorem dec_out {α : Type} {enc : α → AV} {x : AV} {a : α} (h : dec enc x = some a) : x = enc a := by
  unfold dec at h
  split at h
  · rename_i hx; cases h; exact Classical.choose_spec hx
  · cases h
theorem dec_enc {α : Type} {enc : α → AV} (hi : ∀ a b, enc a = enc b → a = b) (a : α) : dec enc (enc a) = some a := by
  have hx : ∃ b, enc a = enc b := ⟨a, rfl⟩
  unfold dec; rw [dif_pos hx, hi _ _ (Classical.choose_spec hx).symm]
theorem wr0 : wrap64 0 = 0 := by decide +kernel
theorem w64in (n : Int) (h : -9223372036854775808 ≤ n) (h1 : n < 9223372036854775808) : wrap64 n = n := by unfold wrap64; omega
attribute [simp] wr0
end Go.Proofs.Ytpbaloceljfaoaa.ZRat
