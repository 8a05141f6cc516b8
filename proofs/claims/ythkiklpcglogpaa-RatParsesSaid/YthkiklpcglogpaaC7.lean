/- Walks by the abstract run: natural numbers. -/
import Derived.Test.YthkiklpcglogpaaC1
import Derived.Test.YthkiklpcglogpaaC6
import Derived.Test.YthkiklpcglogpaaProg
set_option linter.unusedVariables false
set_option linter.unusedSimpArgs false
/- What the walks of numbers lean on. -/
namespace Go.Proofs.Ythkiklpcglogpaa.ZRat
open Go.RowKit Go.Proofs.Ythkiklpcglogpaa.Wd
open Go Go.Proofs.Ythkiklpcglogpaa.Ab Go.Proofs
set_option linter.unusedSimpArgs false
set_option linter.unusedVariables false
def unN (k : IntKind) : AV → Option Int
  | .int k' n => if k' = k then some n else none
  | _ => none
def unB : AV → Option Bool
  | .bool b => some b
  | _ => none
def unS : AV → Option ByteArray
  | .str b => some b
  | _ => none
theorem kd1 : kindT Try.prog 1 = some (1, false) := by kernel_rfl
theorem td2 : tdesc Try.prog 2 = .int .i64 := by kernel_rfl
theorem ok2 : okT Try.prog 2 = true := by kernel_rfl
theorem zt2 : zeroT Try.prog 2 = [.int .i64 0] := by kernel_rfl
theorem kd2 : kindT Try.prog 2 = some (1, false) := by kernel_rfl
theorem td3 : tdesc Try.prog 3 = .int .i64 := by kernel_rfl
theorem ok3 : okT Try.prog 3 = true := by kernel_rfl
theorem zt3 : zeroT Try.prog 3 = [.int .i64 0] := by kernel_rfl
theorem kd3 : kindT Try.prog 3 = some (1, false) := by kernel_rfl
theorem td4 : tdesc Try.prog 4 = .bool := by kernel_rfl
theorem ok4 : okT Try.prog 4 = true := by kernel_rfl
theorem zt4 : zeroT Try.prog 4 = [.bool false] := by kernel_rfl
theorem kd4 : kindT Try.prog 4 = some (1, false) := by kernel_rfl
theorem td5 : tdesc Try.prog 5 = .int .u8 := by kernel_rfl
theorem ok5 : okT Try.prog 5 = true := by kernel_rfl
theorem zt5 : zeroT Try.prog 5 = [.int .u8 0] := by kernel_rfl
theorem kd5 : kindT Try.prog 5 = some (1, false) := by kernel_rfl
theorem td6 : tdesc Try.prog 6 = .int .u8 := by kernel_rfl
theorem ok6 : okT Try.prog 6 = true := by kernel_rfl
theorem zt6 : zeroT Try.prog 6 = [.int .u8 0] := by kernel_rfl
theorem kd6 : kindT Try.prog 6 = some (1, false) := by kernel_rfl
theorem td7 : tdesc Try.prog 7 = .struct 4 [.int .i64 0, .int .i64 0, .bool false, .int .u8 0] [(0, 1, false), (1, 1, false), (2, 1, false), (3, 1, false)] := by kernel_rfl
theorem ok7 : okT Try.prog 7 = true := by kernel_rfl
theorem zt7 : zeroT Try.prog 7 = [.int .i64 0, .int .i64 0, .bool false, .int .u8 0] := by kernel_rfl
theorem kd7 : kindT Try.prog 7 = some (4, true) := by kernel_rfl
theorem td8 : tdesc Try.prog 8 = .struct 4 [.int .i64 0, .int .i64 0, .bool false, .int .u8 0] [(0, 1, false), (1, 1, false), (2, 1, false), (3, 1, false)] := by kernel_rfl
theorem ok8 : okT Try.prog 8 = true := by kernel_rfl
theorem zt8 : zeroT Try.prog 8 = [.int .i64 0, .int .i64 0, .bool false, .int .u8 0] := by kernel_rfl
theorem kd8 : kindT Try.prog 8 = some (4, true) := by kernel_rfl
theorem td9 : tdesc Try.prog 9 = .str := by kernel_rfl
theorem ok9 : okT Try.prog 9 = true := by kernel_rfl
theorem zt9 : zeroT Try.prog 9 = [.str ⟨#[]⟩] := by kernel_rfl
theorem kd9 : kindT Try.prog 9 = some (1, false) := by kernel_rfl
theorem td10 : tdesc Try.prog 10 = .str := by kernel_rfl
theorem ok10 : okT Try.prog 10 = true := by kernel_rfl
theorem zt10 : zeroT Try.prog 10 = [.str ⟨#[]⟩] := by kernel_rfl
theorem kd10 : kindT Try.prog 10 = some (1, false) := by kernel_rfl
theorem td11 : tdesc Try.prog 11 = .str := by kernel_rfl
theorem ok11 : okT Try.prog 11 = true := by kernel_rfl
theorem zt11 : zeroT Try.prog 11 = [.str ⟨#[]⟩] := by kernel_rfl
theorem kd11 : kindT Try.prog 11 = some (1, false) := by kernel_rfl
theorem td12 : tdesc Try.prog 12 = .int .u64 := by kernel_rfl
theorem ok12 : okT Try.prog 12 = true := by kernel_rfl
theorem zt12 : zeroT Try.prog 12 = [.int .u64 0] := by kernel_rfl
theorem kd12 : kindT Try.prog 12 = some (1, false) := by kernel_rfl
theorem td13 : tdesc Try.prog 13 = .struct 2 [.str ⟨#[]⟩, .int .u64 0] [(0, 1, false), (1, 1, false)] := by kernel_rfl
theorem ok13 : okT Try.prog 13 = true := by kernel_rfl
theorem zt13 : zeroT Try.prog 13 = [.str ⟨#[]⟩, .int .u64 0] := by kernel_rfl
theorem kd13 : kindT Try.prog 13 = some (2, true) := by kernel_rfl
theorem td14 : tdesc Try.prog 14 = .struct 2 [.str ⟨#[]⟩, .int .u64 0] [(0, 1, false), (1, 1, false)] := by kernel_rfl
theorem ok14 : okT Try.prog 14 = true := by kernel_rfl
theorem zt14 : zeroT Try.prog 14 = [.str ⟨#[]⟩, .int .u64 0] := by kernel_rfl
theorem kd14 : kindT Try.prog 14 = some (2, true) := by kernel_rfl
theorem kd15 : kindT Try.prog 15 = some (1, false) := by kernel_rfl
theorem kd16 : kindT Try.prog 16 = some (1, false) := by kernel_rfl
theorem kd17 : kindT Try.prog 17 = some (1, false) := by kernel_rfl
theorem td18 : tdesc Try.prog 18 = .struct 1 [.any] [(0, 1, false)] := by kernel_rfl
theorem ok18 : okT Try.prog 18 = true := by kernel_rfl
theorem zt18 : zeroT Try.prog 18 = [.any] := by kernel_rfl
theorem kd18 : kindT Try.prog 18 = some (1, true) := by kernel_rfl
theorem td19 : tdesc Try.prog 19 = .struct 1 [.any] [(0, 1, false)] := by kernel_rfl
theorem ok19 : okT Try.prog 19 = true := by kernel_rfl
theorem zt19 : zeroT Try.prog 19 = [.any] := by kernel_rfl
theorem kd19 : kindT Try.prog 19 = some (1, true) := by kernel_rfl
theorem kd20 : kindT Try.prog 20 = some (1, false) := by kernel_rfl
theorem td21 : tdesc Try.prog 21 = .int .i32 := by kernel_rfl
theorem ok21 : okT Try.prog 21 = true := by kernel_rfl
theorem zt21 : zeroT Try.prog 21 = [.int .i32 0] := by kernel_rfl
theorem kd21 : kindT Try.prog 21 = some (1, false) := by kernel_rfl
theorem td22 : tdesc Try.prog 22 = .slice 54 1 4 [.int .u32 0] := by kernel_rfl
theorem ok22 : okT Try.prog 22 = true := by kernel_rfl
theorem zt22 : zeroT Try.prog 22 = [.nil] := by kernel_rfl
theorem kd22 : kindT Try.prog 22 = some (1, false) := by kernel_rfl
theorem td23 : tdesc Try.prog 23 = .slice 54 1 4 [.int .u32 0] := by kernel_rfl
theorem ok23 : okT Try.prog 23 = true := by kernel_rfl
theorem zt23 : zeroT Try.prog 23 = [.nil] := by kernel_rfl
theorem kd23 : kindT Try.prog 23 = some (1, false) := by kernel_rfl
theorem td24 : tdesc Try.prog 24 = .struct 2 [.bool false, .nil] [(0, 1, false), (1, 1, false)] := by kernel_rfl
theorem ok24 : okT Try.prog 24 = true := by kernel_rfl
theorem zt24 : zeroT Try.prog 24 = [.bool false, .nil] := by kernel_rfl
theorem kd24 : kindT Try.prog 24 = some (2, true) := by kernel_rfl
theorem td25 : tdesc Try.prog 25 = .struct 2 [.bool false, .nil] [(0, 1, false), (1, 1, false)] := by kernel_rfl
theorem ok25 : okT Try.prog 25 = true := by kernel_rfl
theorem zt25 : zeroT Try.prog 25 = [.bool false, .nil] := by kernel_rfl
theorem kd25 : kindT Try.prog 25 = some (2, true) := by kernel_rfl
theorem td26 : tdesc Try.prog 26 = .struct 3 [.bool false, .nil, .nil] [(0, 2, true), (2, 1, false)] := by kernel_rfl
theorem ok26 : okT Try.prog 26 = true := by kernel_rfl
theorem zt26 : zeroT Try.prog 26 = [.bool false, .nil, .nil] := by kernel_rfl
theorem kd26 : kindT Try.prog 26 = some (3, true) := by kernel_rfl
theorem td27 : tdesc Try.prog 27 = .struct 3 [.bool false, .nil, .nil] [(0, 2, true), (2, 1, false)] := by kernel_rfl
theorem ok27 : okT Try.prog 27 = true := by kernel_rfl
theorem zt27 : zeroT Try.prog 27 = [.bool false, .nil, .nil] := by kernel_rfl
theorem kd27 : kindT Try.prog 27 = some (3, true) := by kernel_rfl
theorem kd28 : kindT Try.prog 28 = some (1, false) := by kernel_rfl
theorem kd29 : kindT Try.prog 29 = some (1, false) := by kernel_rfl
theorem td30 : tdesc Try.prog 30 = .int .i64 := by kernel_rfl
theorem ok30 : okT Try.prog 30 = true := by kernel_rfl
theorem zt30 : zeroT Try.prog 30 = [.int .i64 0] := by kernel_rfl
theorem kd30 : kindT Try.prog 30 = some (1, false) := by kernel_rfl
theorem kd32 : kindT Try.prog 32 = some (1, false) := by kernel_rfl
theorem kd33 : kindT Try.prog 33 = some (1, false) := by kernel_rfl
theorem td34 : tdesc Try.prog 34 = .slice 3 1 8 [.int .i64 0] := by kernel_rfl
theorem ok34 : okT Try.prog 34 = true := by kernel_rfl
theorem zt34 : zeroT Try.prog 34 = [.nil] := by kernel_rfl
theorem kd34 : kindT Try.prog 34 = some (1, false) := by kernel_rfl
theorem td35 : tdesc Try.prog 35 = .slice 3 1 8 [.int .i64 0] := by kernel_rfl
theorem ok35 : okT Try.prog 35 = true := by kernel_rfl
theorem zt35 : zeroT Try.prog 35 = [.nil] := by kernel_rfl
theorem kd35 : kindT Try.prog 35 = some (1, false) := by kernel_rfl
theorem td36 : tdesc Try.prog 36 = .struct 2 [.int .i64 0, .nil] [(0, 1, false), (1, 1, false)] := by kernel_rfl
theorem ok36 : okT Try.prog 36 = true := by kernel_rfl
theorem zt36 : zeroT Try.prog 36 = [.int .i64 0, .nil] := by kernel_rfl
theorem kd36 : kindT Try.prog 36 = some (2, true) := by kernel_rfl
theorem td37 : tdesc Try.prog 37 = .struct 2 [.int .i64 0, .nil] [(0, 1, false), (1, 1, false)] := by kernel_rfl
theorem ok37 : okT Try.prog 37 = true := by kernel_rfl
theorem zt37 : zeroT Try.prog 37 = [.int .i64 0, .nil] := by kernel_rfl
theorem kd37 : kindT Try.prog 37 = some (2, true) := by kernel_rfl
theorem td38 : tdesc Try.prog 38 = .struct 4 [.int .i64 0, .nil, .int .i64 0, .nil] [(0, 2, true), (2, 2, true)] := by kernel_rfl
theorem ok38 : okT Try.prog 38 = true := by kernel_rfl
theorem zt38 : zeroT Try.prog 38 = [.int .i64 0, .nil, .int .i64 0, .nil] := by kernel_rfl
theorem kd38 : kindT Try.prog 38 = some (4, true) := by kernel_rfl
theorem td39 : tdesc Try.prog 39 = .struct 4 [.int .i64 0, .nil, .int .i64 0, .nil] [(0, 2, true), (2, 2, true)] := by kernel_rfl
theorem ok39 : okT Try.prog 39 = true := by kernel_rfl
theorem zt39 : zeroT Try.prog 39 = [.int .i64 0, .nil, .int .i64 0, .nil] := by kernel_rfl
theorem kd39 : kindT Try.prog 39 = some (4, true) := by kernel_rfl
theorem kd40 : kindT Try.prog 40 = some (1, false) := by kernel_rfl
theorem kd41 : kindT Try.prog 41 = some (1, false) := by kernel_rfl
theorem kd42 : kindT Try.prog 42 = some (1, false) := by kernel_rfl
theorem kd43 : kindT Try.prog 43 = some (1, false) := by kernel_rfl
theorem kd45 : kindT Try.prog 45 = some (1, false) := by kernel_rfl
theorem kd47 : kindT Try.prog 47 = some (1, false) := by kernel_rfl
theorem kd48 : kindT Try.prog 48 = some (1, false) := by kernel_rfl
theorem kd49 : kindT Try.prog 49 = some (1, false) := by kernel_rfl
theorem kd51 : kindT Try.prog 51 = some (1, false) := by kernel_rfl
theorem kd53 : kindT Try.prog 53 = some (1, false) := by kernel_rfl
theorem td54 : tdesc Try.prog 54 = .int .u32 := by kernel_rfl
theorem ok54 : okT Try.prog 54 = true := by kernel_rfl
theorem zt54 : zeroT Try.prog 54 = [.int .u32 0] := by kernel_rfl
theorem kd54 : kindT Try.prog 54 = some (1, false) := by kernel_rfl
theorem kd56 : kindT Try.prog 56 = some (1, false) := by kernel_rfl
theorem kd57 : kindT Try.prog 57 = some (1, false) := by kernel_rfl
theorem kd58 : kindT Try.prog 58 = some (1, false) := by kernel_rfl
theorem kd59 : kindT Try.prog 59 = some (1, false) := by kernel_rfl
theorem kd60 : kindT Try.prog 60 = some (1, false) := by kernel_rfl
theorem kd61 : kindT Try.prog 61 = some (1, false) := by kernel_rfl
theorem kd62 : kindT Try.prog 62 = some (1, false) := by kernel_rfl
theorem kd63 : kindT Try.prog 63 = some (1, false) := by kernel_rfl
theorem kd64 : kindT Try.prog 64 = some (1, false) := by kernel_rfl
theorem kd65 : kindT Try.prog 65 = some (1, false) := by kernel_rfl
theorem kd66 : kindT Try.prog 66 = some (1, false) := by kernel_rfl
theorem kd67 : kindT Try.prog 67 = some (1, false) := by kernel_rfl
theorem kd68 : kindT Try.prog 68 = some (1, false) := by kernel_rfl
theorem kd69 : kindT Try.prog 69 = some (1, false) := by kernel_rfl
theorem kd70 : kindT Try.prog 70 = some (1, false) := by kernel_rfl
theorem kd71 : kindT Try.prog 71 = some (1, false) := by kernel_rfl
theorem kd72 : kindT Try.prog 72 = some (1, false) := by kernel_rfl
theorem kd74 : kindT Try.prog 74 = some (1, false) := by kernel_rfl
theorem kd75 : kindT Try.prog 75 = some (1, false) := by kernel_rfl
theorem td76 : tdesc Try.prog 76 = .slice 5 1 1 [.int .u8 0] := by kernel_rfl
theorem ok76 : okT Try.prog 76 = true := by kernel_rfl
theorem zt76 : zeroT Try.prog 76 = [.nil] := by kernel_rfl
theorem kd76 : kindT Try.prog 76 = some (1, false) := by kernel_rfl
theorem td77 : tdesc Try.prog 77 = .int .u64 := by kernel_rfl
theorem ok77 : okT Try.prog 77 = true := by kernel_rfl
theorem zt77 : zeroT Try.prog 77 = [.int .u64 0] := by kernel_rfl
theorem kd77 : kindT Try.prog 77 = some (1, false) := by kernel_rfl
theorem td78 : tdesc Try.prog 78 = .int .u64 := by kernel_rfl
theorem ok78 : okT Try.prog 78 = true := by kernel_rfl
theorem zt78 : zeroT Try.prog 78 = [.int .u64 0] := by kernel_rfl
theorem kd78 : kindT Try.prog 78 = some (1, false) := by kernel_rfl
theorem kd79 : kindT Try.prog 79 = some (1, false) := by kernel_rfl
theorem kd80 : kindT Try.prog 80 = some (1, false) := by kernel_rfl
theorem kd81 : kindT Try.prog 81 = some (1, false) := by kernel_rfl
theorem kd83 : kindT Try.prog 83 = some (1, false) := by kernel_rfl
theorem kd85 : kindT Try.prog 85 = some (1, false) := by kernel_rfl
theorem kd86 : kindT Try.prog 86 = some (1, false) := by kernel_rfl
theorem kd87 : kindT Try.prog 87 = some (1, false) := by kernel_rfl
theorem kd88 : kindT Try.prog 88 = some (1, false) := by kernel_rfl
theorem kd89 : kindT Try.prog 89 = some (1, false) := by kernel_rfl
theorem kd90 : kindT Try.prog 90 = some (1, false) := by kernel_rfl
theorem kd91 : kindT Try.prog 91 = some (1, false) := by kernel_rfl
theorem kd93 : kindT Try.prog 93 = some (1, false) := by kernel_rfl
theorem kd94 : kindT Try.prog 94 = some (1, false) := by kernel_rfl
theorem kd96 : kindT Try.prog 96 = some (1, false) := by kernel_rfl
theorem kd97 : kindT Try.prog 97 = some (1, false) := by kernel_rfl
theorem kd98 : kindT Try.prog 98 = some (1, false) := by kernel_rfl
theorem kd99 : kindT Try.prog 99 = some (1, false) := by kernel_rfl
theorem kd100 : kindT Try.prog 100 = some (1, false) := by kernel_rfl
theorem kd101 : kindT Try.prog 101 = some (1, false) := by kernel_rfl
theorem kd102 : kindT Try.prog 102 = some (1, false) := by kernel_rfl
theorem kd103 : kindT Try.prog 103 = some (1, false) := by kernel_rfl
theorem kd104 : kindT Try.prog 104 = some (1, false) := by kernel_rfl
theorem kd105 : kindT Try.prog 105 = some (1, false) := by kernel_rfl
theorem kd107 : kindT Try.prog 107 = some (1, false) := by kernel_rfl
theorem kd109 : kindT Try.prog 109 = some (1, false) := by kernel_rfl
theorem kd110 : kindT Try.prog 110 = some (1, false) := by kernel_rfl
theorem kd111 : kindT Try.prog 111 = some (1, false) := by kernel_rfl
theorem kd112 : kindT Try.prog 112 = some (1, false) := by kernel_rfl
theorem kd113 : kindT Try.prog 113 = some (1, false) := by kernel_rfl
theorem kd114 : kindT Try.prog 114 = some (1, false) := by kernel_rfl
theorem kd115 : kindT Try.prog 115 = some (1, false) := by kernel_rfl
theorem td116 : tdesc Try.prog 116 = .struct 4 [.any, .any, .any, .str ⟨#[]⟩] [(0, 1, false), (1, 1, false), (2, 1, false), (3, 1, false)] := by kernel_rfl
theorem ok116 : okT Try.prog 116 = true := by kernel_rfl
theorem zt116 : zeroT Try.prog 116 = [.any, .any, .any, .str ⟨#[]⟩] := by kernel_rfl
theorem kd116 : kindT Try.prog 116 = some (4, true) := by kernel_rfl
theorem td117 : tdesc Try.prog 117 = .struct 4 [.any, .any, .any, .str ⟨#[]⟩] [(0, 1, false), (1, 1, false), (2, 1, false), (3, 1, false)] := by kernel_rfl
theorem ok117 : okT Try.prog 117 = true := by kernel_rfl
theorem zt117 : zeroT Try.prog 117 = [.any, .any, .any, .str ⟨#[]⟩] := by kernel_rfl
theorem kd117 : kindT Try.prog 117 = some (4, true) := by kernel_rfl
theorem kd121 : kindT Try.prog 121 = some (1, false) := by kernel_rfl
theorem td122 : tdesc Try.prog 122 = .int .u8 := by kernel_rfl
theorem ok122 : okT Try.prog 122 = true := by kernel_rfl
theorem zt122 : zeroT Try.prog 122 = [.int .u8 0] := by kernel_rfl
theorem kd122 : kindT Try.prog 122 = some (1, false) := by kernel_rfl
theorem td123 : tdesc Try.prog 123 = .int .u8 := by kernel_rfl
theorem ok123 : okT Try.prog 123 = true := by kernel_rfl
theorem zt123 : zeroT Try.prog 123 = [.int .u8 0] := by kernel_rfl
theorem kd123 : kindT Try.prog 123 = some (1, false) := by kernel_rfl
theorem kd124 : kindT Try.prog 124 = some (1, false) := by kernel_rfl
theorem kd125 : kindT Try.prog 125 = some (1, false) := by kernel_rfl
theorem td126 : tdesc Try.prog 126 = .int .i32 := by kernel_rfl
theorem ok126 : okT Try.prog 126 = true := by kernel_rfl
theorem zt126 : zeroT Try.prog 126 = [.int .i32 0] := by kernel_rfl
theorem kd126 : kindT Try.prog 126 = some (1, false) := by kernel_rfl
theorem td127 : tdesc Try.prog 127 = .int .i32 := by kernel_rfl
theorem ok127 : okT Try.prog 127 = true := by kernel_rfl
theorem zt127 : zeroT Try.prog 127 = [.int .i32 0] := by kernel_rfl
theorem kd127 : kindT Try.prog 127 = some (1, false) := by kernel_rfl
theorem td128 : tdesc Try.prog 128 = .struct 11 [.int .u64 0, .int .u64 0, .int .u32 0, .int .u8 0, .int .u8 0, .int .u8 0, .int .u8 0, .any, .any, .int .i32 0, .int .i32 0] [(0, 1, false), (1, 1, false), (2, 1, false), (3, 1, false), (4, 1, false), (5, 1, false), (6, 1, false), (7, 1, false), (8, 1, false), (9, 1, false), (10, 1, false)] := by kernel_rfl
theorem ok128 : okT Try.prog 128 = true := by kernel_rfl
theorem zt128 : zeroT Try.prog 128 = [.int .u64 0, .int .u64 0, .int .u32 0, .int .u8 0, .int .u8 0, .int .u8 0, .int .u8 0, .any, .any, .int .i32 0, .int .i32 0] := by kernel_rfl
theorem kd128 : kindT Try.prog 128 = some (11, true) := by kernel_rfl
theorem td129 : tdesc Try.prog 129 = .struct 11 [.int .u64 0, .int .u64 0, .int .u32 0, .int .u8 0, .int .u8 0, .int .u8 0, .int .u8 0, .any, .any, .int .i32 0, .int .i32 0] [(0, 1, false), (1, 1, false), (2, 1, false), (3, 1, false), (4, 1, false), (5, 1, false), (6, 1, false), (7, 1, false), (8, 1, false), (9, 1, false), (10, 1, false)] := by kernel_rfl
theorem ok129 : okT Try.prog 129 = true := by kernel_rfl
theorem zt129 : zeroT Try.prog 129 = [.int .u64 0, .int .u64 0, .int .u32 0, .int .u8 0, .int .u8 0, .int .u8 0, .int .u8 0, .any, .any, .int .i32 0, .int .i32 0] := by kernel_rfl
theorem kd129 : kindT Try.prog 129 = some (11, true) := by kernel_rfl
theorem kd130 : kindT Try.prog 130 = some (1, false) := by kernel_rfl
attribute [simp] kd1 td2 ok2 zt2 kd2 td3 ok3 zt3 kd3 td4 ok4 zt4 kd4 td5 ok5 zt5 kd5 td6 ok6 zt6 kd6 td7 ok7 zt7 kd7 td8 ok8 zt8 kd8 td9 ok9 zt9 kd9 td10 ok10 zt10 kd10 td11 ok11 zt11 kd11 td12 ok12 zt12 kd12 td13 ok13 zt13 kd13 td14 ok14 zt14 kd14 kd15 kd16 kd17 td18 ok18 zt18 kd18 td19 ok19 zt19 kd19 kd20 td21 ok21 zt21 kd21 td22 ok22 zt22 kd22 td23 ok23 zt23 kd23 td24 ok24 zt24 kd24 td25 ok25 zt25 kd25 td26 ok26 zt26 kd26 td27 ok27 zt27 kd27 kd28 kd29 td30 ok30 zt30 kd30 kd32 kd33 td34 ok34 zt34 kd34 td35 ok35 zt35 kd35 td36 ok36 zt36 kd36 td37 ok37 zt37 kd37 td38 ok38 zt38 kd38 td39 ok39 zt39 kd39 kd40 kd41 kd42 kd43 kd45 kd47 kd48 kd49 kd51 kd53 td54 ok54 zt54 kd54 kd56 kd57 kd58 kd59 kd60 kd61 kd62 kd63 kd64 kd65 kd66 kd67 kd68 kd69 kd70 kd71 kd72 kd74 kd75 td76 ok76 zt76 kd76 td77 ok77 zt77 kd77 td78 ok78 zt78 kd78 kd79 kd80 kd81 kd83 kd85 kd86 kd87 kd88 kd89 kd90 kd91 kd93 kd94 kd96 kd97 kd98 kd99 kd100 kd101 kd102 kd103 kd104 kd105 kd107 kd109 kd110 kd111 kd112 kd113 kd114 kd115 td116 ok116 zt116 kd116 td117 ok117 zt117 kd117 kd121 td122 ok122 zt122 kd122 td123 ok123 zt123 kd123 kd124 kd125 td126 ok126 zt126 kd126 td127 ok127 zt127 kd127 td128 ok128 zt128 kd128 td129 ok129 zt129 kd129 kd130
theorem w64_eq (n : Int) : IntKind.i64.wrap n = wrap64 n := by
  unfold wrap64; simp [IntKind.wrap, IntKind.signed, IntKind.bits]; omega
theorem w32_eq (n : Int) : IntKind.u32.wrap n = n % 4294967296 := by
  simp [IntKind.wrap, IntKind.signed, IntKind.bits]
theorem w64u (n : Int) : IntKind.u64.wrap (n % 4294967296) = n % 4294967296 := by
  simp [IntKind.wrap, IntKind.signed, IntKind.bits]; omega
theorem w64m (n : Int) : wrap64 (n % 4294967296) = n % 4294967296 := by unfold wrap64; omega
attribute [simp] w64u w64m
theorem get_rd (l : List Int) (f : Int → AV) (i : Int) (h0 : 0 ≤ i) (h1 : i < l.length) : (l.map f)[i.toNat]? = some (f (rd l i)) := by
  obtain ⟨n, rfl⟩ := Int.eq_ofNat_of_zero_le h0
  have : n < l.length := by omega
  simp [rd, this]
noncomputable def SV61 : List AV → Option AV
  | [x0] => (unI .u32 x0).bind fun a0 => (pick fun k => nat_trim.f k a0).map fun r => (rowI .u32 r)
  | _ => none
noncomputable def SV56 : List AV → Option AV
  | [x0, x1] => (unI .u32 x0).bind fun a0 => (unI .u32 x1).bind fun a1 => (pick fun k => nat_cmp.f k a0 a1).map fun r => (.int .i64 r)
  | _ => none
noncomputable def SV86 : List AV → Option AV
  | [x0, x1, x2] => (unI .u32 x0).bind fun a0 => (unN .u64 x1).bind fun a1 => (unN .u64 x2).bind fun a2 => (pick fun k => nat_guess.f k a0 a1 a2).map fun r => (.int .u64 r)
  | _ => none
noncomputable def SV90 : List AV → Option AV
  | [x0] => (unN .u32 x0).bind fun a0 => (bits_Len32.f a0).map fun r => (.int .i64 r)
  | _ => none
noncomputable def SV84 : List AV → Option AV
  | [x0] => (unN .u32 x0).bind fun a0 => (bits_LeadingZeros32.f a0).map fun r => (.int .i64 r)
  | _ => none
noncomputable def SV60 : List AV → Option AV
  | [x0] => (unI .u32 x0).bind fun a0 => (api_Nat_uint32.f a0).map fun r => (rowI .u32 r)
  | _ => none
noncomputable def SV54 : List AV → Option AV
  | [x0, x1] => (unI .u32 x0).bind fun a0 => (unI .u32 x1).bind fun a1 => (pick fun k => nat_Add.f k a0 a1).map fun r => (rowI .u32 r)
  | _ => none
noncomputable def SV89 : List AV → Option AV
  | [x0, x1] => (unI .u32 x0).bind fun a0 => (unI .u32 x1).bind fun a1 => (pick fun k => nat_sub.f k a0 a1).map fun r => (rowI .u32 r)
  | _ => none
noncomputable def SV80 : List AV → Option AV
  | [x0, x1] => (unI .u32 x0).bind fun a0 => (unI .u32 x1).bind fun a1 => (pick fun k => nat_Sub.f k a0 a1).map fun r => (.tup [(rowI .u32 r.1), (.bool r.2)])
  | _ => none
noncomputable def SV41 : List AV → Option AV
  | [x0] => (unI .u32 x0).bind fun a0 => (pick fun k => nat_Trim.f k a0).map fun r => (rowI .u32 r)
  | _ => none
noncomputable def SV78 : List AV → Option AV
  | [x0, x1] => (unI .u32 x0).bind fun a0 => (unI .u32 x1).bind fun a1 => (pick fun k => nat_long.f k a0 a1).map fun r => (.tup [(rowI .u32 r.1), (rowI .u32 r.2)])
  | _ => none
noncomputable def SV62 : List AV → Option AV
  | [x0, x1] => (unI .u32 x0).bind fun a0 => (unI .u32 x1).bind fun a1 => (pick fun k => nat_divmod.f k a0 a1).map fun r => (.tup [(rowI .u32 r.1), (rowI .u32 r.2)])
  | _ => none
noncomputable def SV43 : List AV → Option AV
  | [x0, x1] => (unI .u32 x0).bind fun a0 => (unI .u32 x1).bind fun a1 => (pick fun k => nat_DivMod.f k a0 a1).map fun r => (.tup [(rowI .u32 r.1), (rowI .u32 r.2.1), (.int .i64 r.2.2)])
  | _ => none
noncomputable def SV42 : List AV → Option AV
  | [x0, x1] => (unI .u32 x0).bind fun a0 => (unI .u32 x1).bind fun a1 => (pick fun k => nat_Gcd.f k a0 a1).map fun r => (rowI .u32 r)
  | _ => none
noncomputable def SV57 : List AV → Option AV
  | [x0] => (unI .u32 x0).bind fun a0 => (pick fun k => nat_show.f k a0).map fun r => (.str r)
  | _ => none
noncomputable def SV36 : List AV → Option AV
  | [x0] => (unI .u32 x0).bind fun a0 => (pick fun k => nat_Show.f k a0).map fun r => (.str r)
  | _ => none
noncomputable def SV35 : List AV → Option AV
  | [x0, x1] => (unI .u32 x0).bind fun a0 => (unI .u32 x1).bind fun a1 => (pick fun k => nat_Cmp.f k a0 a1).map fun r => (.int .i64 r)
  | _ => none
noncomputable def SV81 : List AV → Option AV
  | [x0] => (unI .u32 x0).bind fun a0 => (pick fun k => nat_size.f k a0).map fun r => (.int .i64 r)
  | _ => none
noncomputable def SV70 : List AV → Option AV
  | [x0] => (unI .u32 x0).bind fun a0 => (pick fun k => nat_Bits.f k a0).map fun r => (.int .i64 r)
  | _ => none
noncomputable def SV33 : List AV → Option AV
  | [x0] => (unI .i64 x0).bind fun a0 => (pick fun k => zelligeref03_Trim.f k a0).map fun r => (rowI .i64 r)
  | _ => none
noncomputable def SV25 : List AV → Option AV
  | [x0] => (unI .u32 x0).bind fun a0 => (pick fun k => zelligeref03_Of.f k a0).map fun r => (rowI .i64 r)
  | _ => none
noncomputable def SV64 : List AV → Option AV
  | [x0, x1] => (unI .i64 x0).bind fun a0 => (unI .i64 x1).bind fun a1 => (pick fun k => zelligeref03_Cmp.f k a0 a1).map fun r => (.int .i64 r)
  | _ => none
noncomputable def SV48 : List AV → Option AV
  | [x0] => (unI .i64 x0).bind fun a0 => (pick fun k => zelligeref03_Nat.f k a0).map fun r => (rowI .u32 r)
  | _ => none
noncomputable def SV28 : List AV → Option AV
  | [x0, x1] => (unI .u32 x0).bind fun a0 => (unI .i64 x1).bind fun a1 => (pick fun k => zelligeref03_Same.f k a0 a1).map fun r => (.bool r)
  | _ => none
noncomputable def SV31 : List AV → Option AV
  | [x0, x1] => (unI .i64 x0).bind fun a0 => (unI .i64 x1).bind fun a1 => (pick fun k => zelligeref03_Add.f k a0 a1).map fun r => (rowI .i64 r)
  | _ => none
noncomputable def SV32 : List AV → Option AV
  | [x0, x1] => (unI .i64 x0).bind fun a0 => (unI .i64 x1).bind fun a1 => (pick fun k => zelligeref03_Mul.f k a0 a1).map fun r => (rowI .i64 r)
  | _ => none
noncomputable def SV65 : List AV → Option AV
  | [x0, x1] => (unI .i64 x0).bind fun a0 => (unI .i64 x1).bind fun a1 => (pick fun k => zelligeref03_Sub.f k a0 a1).map fun r => (rowI .i64 r)
  | _ => none
noncomputable def SV45 : List AV → Option AV
  | [x0, x1] => (unI .i64 x0).bind fun a0 => (unI .i64 x1).bind fun a1 => (pick fun k => zelligeref03_DivMod.f k a0 a1).map fun r => (.tup [(rowI .i64 r.1), (rowI .i64 r.2)])
  | _ => none
noncomputable def SV63 : List AV → Option AV
  | [x0] => (unI .i64 x0).bind fun a0 => (pick fun k => zelligeref03_Half.f k a0).map fun r => (rowI .i64 r)
  | _ => none
noncomputable def SV44 : List AV → Option AV
  | [x0, x1] => (unI .i64 x0).bind fun a0 => (unI .i64 x1).bind fun a1 => (pick fun k => zelligeref03_Gcd.f k a0 a1).map fun r => (rowI .i64 r)
  | _ => none
noncomputable def SV39 : List AV → Option AV
  | [x0, x1] => (unB x0).bind fun a0 => (unI .u32 x1).bind fun a1 => (pick fun k => whole_norm.f k a0 a1).map fun r => (.agg [(.bool r.1), (rowI .u32 r.2)])
  | _ => none
noncomputable def SV40 : List AV → Option AV
  | [.agg [x0, x1]] => (unB x0).bind fun a0 => (unI .u32 x1).bind fun a1 => (pick fun k => whole_Norm.f k a0 a1).map fun r => (.agg [(.bool r.1), (rowI .u32 r.2)])
  | _ => none
noncomputable def SV69 : List AV → Option AV
  | [.agg [x0, x1], .agg [x2, x3]] => (unB x0).bind fun a0 => (unI .u32 x1).bind fun a1 => (unB x2).bind fun a2 => (unI .u32 x3).bind fun a3 => (pick fun k => whole_add.f k a0 a1 a2 a3).map fun r => (.agg [(.bool r.1), (rowI .u32 r.2)])
  | _ => none
noncomputable def SV51 : List AV → Option AV
  | [.agg [x0, x1], .agg [x2, x3]] => (unB x0).bind fun a0 => (unI .u32 x1).bind fun a1 => (unB x2).bind fun a2 => (unI .u32 x3).bind fun a3 => (pick fun k => whole_Add.f k a0 a1 a2 a3).map fun r => (.agg [(.bool r.1), (rowI .u32 r.2)])
  | _ => none
noncomputable def SV68 : List AV → Option AV
  | [.agg [x0, x1]] => (unB x0).bind fun a0 => (unI .u32 x1).bind fun a1 => (pick fun k => whole_neg.f k a0 a1).map fun r => (.agg [(.bool r.1), (rowI .u32 r.2)])
  | _ => none
noncomputable def SV50 : List AV → Option AV
  | [.agg [x0, x1]] => (unB x0).bind fun a0 => (unI .u32 x1).bind fun a1 => (pick fun k => whole_Neg.f k a0 a1).map fun r => (.agg [(.bool r.1), (rowI .u32 r.2)])
  | _ => none
noncomputable def SV55 : List AV → Option AV
  | [.agg [x0, x1]] => (unB x0).bind fun a0 => (unI .u32 x1).bind fun a1 => (pick fun k => whole_sign.f k a0 a1).map fun r => (.int .i64 r)
  | _ => none
noncomputable def SV49 : List AV → Option AV
  | [.agg [x0, x1]] => (unB x0).bind fun a0 => (unI .u32 x1).bind fun a1 => (pick fun k => whole_Sign.f k a0 a1).map fun r => (.int .i64 r)
  | _ => none
noncomputable def SV34 : List AV → Option AV
  | [.agg [x0, x1]] => (unB x0).bind fun a0 => (unI .u32 x1).bind fun a1 => (pick fun k => whole_Show.f k a0 a1).map fun r => (.str r)
  | _ => none
noncomputable def SV53 : List AV → Option AV
  | [.agg [x0, x1], .agg [x2, x3]] => (unB x0).bind fun a0 => (unI .u32 x1).bind fun a1 => (unB x2).bind fun a2 => (unI .u32 x3).bind fun a3 => (pick fun k => whole_Floor.f k a0 a1 a2 a3).map fun r => (.tup [(.agg [(.bool r.1), (rowI .u32 r.2.1)]), (.agg [(.bool r.2.2.1), (rowI .u32 r.2.2.2.1)]), (.int .i64 r.2.2.2.2)])
  | _ => none
noncomputable def SV79 : List AV → Option AV
  | [x0, x1] => (unN .i64 x0).bind fun a0 => (unI .i64 x1).bind fun a1 => (zelligeref04_make1.f a0 a1).map fun r => (.agg [(.int .i64 r.1), (rowI .i64 r.2)])
  | _ => none
noncomputable def SV26 : List AV → Option AV
  | [.agg [x0, x1]] => (unB x0).bind fun a0 => (unI .u32 x1).bind fun a1 => (pick fun k => zelligeref04_Of.f k a0 a1).map fun r => (.agg [(.int .i64 r.1), (rowI .i64 r.2)])
  | _ => none
noncomputable def SV23 : List AV → Option AV
  | [x0] => (unN .i64 x0).bind fun a0 => (pick fun k => zelligeref04_Long.f k a0).map fun r => (.agg [(.int .i64 r.1), (rowI .i64 r.2)])
  | _ => none
noncomputable def SV27 : List AV → Option AV
  | [.agg [x0, x1], .agg [x2, x3]] => (unB x0).bind fun a0 => (unI .u32 x1).bind fun a1 => (unN .i64 x2).bind fun a2 => (unI .i64 x3).bind fun a3 => (pick fun k => zelligeref04_Same.f k a0 a1 a2 a3).map fun r => (.bool r)
  | _ => none
noncomputable def SV66 : List AV → Option AV
  | [.agg [x0, x1], .agg [x2, x3]] => (unN .i64 x0).bind fun a0 => (unI .i64 x1).bind fun a1 => (unN .i64 x2).bind fun a2 => (unI .i64 x3).bind fun a3 => (pick fun k => zelligeref04_Add.f k a0 a1 a2 a3).map fun r => (.agg [(.int .i64 r.1), (rowI .i64 r.2)])
  | _ => none
noncomputable def SV67 : List AV → Option AV
  | [.agg [x0, x1]] => (unN .i64 x0).bind fun a0 => (unI .i64 x1).bind fun a1 => (zelligeref04_Neg.f a0 a1).map fun r => (.agg [(.int .i64 r.1), (rowI .i64 r.2)])
  | _ => none
noncomputable def SV46 : List AV → Option AV
  | [.agg [x0, x1], .agg [x2, x3]] => (unN .i64 x0).bind fun a0 => (unI .i64 x1).bind fun a1 => (unN .i64 x2).bind fun a2 => (unI .i64 x3).bind fun a3 => (pick fun k => zelligeref04_Sub.f k a0 a1 a2 a3).map fun r => (.agg [(.int .i64 r.1), (rowI .i64 r.2)])
  | _ => none
noncomputable def SV22 : List AV → Option AV
  | [.agg [x0, x1], .agg [x2, x3]] => (unN .i64 x0).bind fun a0 => (unI .i64 x1).bind fun a1 => (unN .i64 x2).bind fun a2 => (unI .i64 x3).bind fun a3 => (pick fun k => zelligeref04_Cmp.f k a0 a1 a2 a3).map fun r => (.int .i64 r)
  | _ => none
noncomputable def SV : FuncId → List AV → Option AV
  | 61 => SV61
  | 56 => SV56
  | 86 => SV86
  | 90 => SV90
  | 84 => SV84
  | 60 => SV60
  | 54 => SV54
  | 89 => SV89
  | 80 => SV80
  | 41 => SV41
  | 78 => SV78
  | 62 => SV62
  | 43 => SV43
  | 42 => SV42
  | 57 => SV57
  | 36 => SV36
  | 35 => SV35
  | 81 => SV81
  | 70 => SV70
  | 33 => SV33
  | 25 => SV25
  | 64 => SV64
  | 48 => SV48
  | 28 => SV28
  | 31 => SV31
  | 32 => SV32
  | 65 => SV65
  | 45 => SV45
  | 63 => SV63
  | 44 => SV44
  | 39 => SV39
  | 40 => SV40
  | 69 => SV69
  | 51 => SV51
  | 68 => SV68
  | 50 => SV50
  | 55 => SV55
  | 49 => SV49
  | 34 => SV34
  | 53 => SV53
  | 79 => SV79
  | 26 => SV26
  | 23 => SV23
  | 27 => SV27
  | 66 => SV66
  | 67 => SV67
  | 46 => SV46
  | 22 => SV22
  | _ => fun _ => none
attribute [simp] SV SV61 SV56 SV86 SV90 SV84 SV60 SV54 SV89 SV80 SV41 SV78 SV62 SV43 SV42 SV57 SV36 SV35 SV81 SV70 SV33 SV25 SV64 SV48 SV28 SV31 SV32 SV65 SV45 SV63 SV44 SV39 SV40 SV69 SV51 SV68 SV50 SV55 SV49 SV34 SV53 SV79 SV26 SV23 SV27 SV66 SV67 SV46 SV22
noncomputable def SR60 : List AV → List Blk → List Bool → Option (AV × List Blk × List Bool)
  | [x], [], [] => (unI .u32 x).bind fun l => (api_Nat_uint32.f l).map fun r => (.own 1 0 r.length 1, [.gone, .arr (r.map (.int .u32))], [false, false])
  | _, _, _ => none
noncomputable def SR71 : List AV → List Blk → List Bool → Option (AV × List Blk × List Bool)
  | [.own 0 0 n 1, .int .u32 b], [.arr cs], [false] => (unC .u32 cs).bind fun l => if n ≤ l.length then (pick fun k => nat_short.f k (l.take n) b).map fun r => (.int .u32 r.1, [.arr (r.2.map (.int .u32) ++ (l.drop n).map (.int .u32))], [false]) else none
  | _, _, _ => none
noncomputable def SR85 : List AV → List Blk → List Bool → Option (AV × List Blk × List Bool)
  | [x, .int .i64 b], [], [] => (unI .u32 x).bind fun l => (pick fun k => nat_shift.f k l b).map fun r => (.own 2 0 r.length 1, [.gone, .arr [.int .u32 (r.getLast?.getD 0)], .arr (r.map (.int .u32))], [false, false, false])
  | _, _, _ => none
noncomputable def SR61 : List AV → List Blk → List Bool → Option (AV × List Blk × List Bool)
  | [.row n cs], [], [] => (SV61 [.row n cs]).map fun r => (r, [], [])
  | [.own 0 0 n 1], [.arr cs], [false] => (unC .u32 cs).bind fun l => if n ≤ l.length then (pick fun k => nat_trim.f k (l.take n)).map fun r => (.own 0 0 r.length 1, [.arr cs], [false]) else none
  | _, _, _ => none
noncomputable def SR87 : List AV → List Blk → List Bool → Option (AV × List Blk × List Bool)
  | [.own 0 o n 1, .own 1 0 m 1, .int .u64 q], [.arr cs, .arr ds], [false, false] => (unC .u32 cs).bind fun u => (unC .u32 ds).bind fun v => if o + n ≤ u.length ∧ m ≤ v.length then (pick fun k => nat_off.f k ((u.drop o).take n) (v.take m) q).map fun r => (.bool r.1, [.arr ((u.take o).map (.int .u32) ++ (r.2.map (.int .u32) ++ (u.drop (o + n)).map (.int .u32))), .arr ds], [false, false]) else none
  | _, _, _ => none
noncomputable def SR88 : List AV → List Blk → List Bool → Option (AV × List Blk × List Bool)
  | [.own 0 o n 1, .own 1 0 m 1], [.arr cs, .arr ds], [false, false] => (unC .u32 cs).bind fun u => (unC .u32 ds).bind fun v => if o + n ≤ u.length ∧ m ≤ v.length then (pick fun k => nat_back.f k ((u.drop o).take n) (v.take m)).map fun r => (.tup [], [.arr ((u.take o).map (.int .u32) ++ (r.map (.int .u32) ++ (u.drop (o + n)).map (.int .u32))), .arr ds], [false, false]) else none
  | _, _, _ => none
noncomputable def SR72 : List AV → List Blk → List Bool → Option (AV × List Blk × List Bool)
  | [.own 0 0 n 1], [.arr cs], [false] => (unC .u8 cs).bind fun l => if n ≤ l.length then (pick fun k => slices_Reverse_byte_byte.f k (l.take n)).map fun r => (.tup [], [.arr (r.map (.int .u8) ++ (l.drop n).map (.int .u8))], [false]) else none
  | _, _, _ => none
noncomputable def SR : FuncId → List AV → List Blk → List Bool → Option (AV × List Blk × List Bool)
  | 60 => SR60
  | 71 => SR71
  | 85 => SR85
  | 61 => SR61
  | 87 => SR87
  | 88 => SR88
  | 72 => SR72
  | _ => fun _ _ _ => none
attribute [simp] SR60 SR71 SR85 SR61 SR87 SR88 SR72
theorem isBytes_map : ∀ (l : List Int), isBytes (l.map (.int .u8)) = some l
  | [] => rfl
  | a :: l => by simp [isBytes, isBytes_map l]
attribute [simp] isBytes_map
def keepT (l : List (Nat × List Nat)) (i : Nat) : List Nat := ((l.find? (·.1 == i)).map (·.2)).getD []
def depT (l : List (Nat × List (List Nat × List Nat × Bool))) (i : Nat) : List (List Nat × List Nat × Bool) := ((l.find? (·.1 == i)).map (·.2)).getD []
noncomputable def mkE (ref L : List FuncId) (kt : List (Nat × List Nat)) (dt : List (Nat × List (List Nat × List Nat × Bool))) : Env := ⟨Try.prog, fun f => ref.contains f, fun f xs => if L.contains f then SV f (xs.map wk) else none, fun f xs h z => if L.contains f then SR f xs h z else none, keepT kt, depT dt, fun _ _ => none⟩
theorem mk_P {ref L : List FuncId} {kt : List (Nat × List Nat)} {dt : List (Nat × List (List Nat × List Nat × Bool))} : (mkE ref L kt dt).P = Try.prog := rfl
theorem mk_ref {ref L : List FuncId} {kt : List (Nat × List Nat)} {dt : List (Nat × List (List Nat × List Nat × Bool))} {f : FuncId} : (mkE ref L kt dt).ref f = ref.contains f := rfl
theorem mk_call {ref L : List FuncId} {kt : List (Nat × List Nat)} {dt : List (Nat × List (List Nat × List Nat × Bool))} {f : FuncId} {xs : List AV} : (mkE ref L kt dt).call f xs = if L.contains f then SV f (xs.map wk) else none := rfl
theorem mk_callR {ref L : List FuncId} {kt : List (Nat × List Nat)} {dt : List (Nat × List (List Nat × List Nat × Bool))} {f : FuncId} {xs : List AV} {h : List Blk} {z : List Bool} : (mkE ref L kt dt).callR f xs h z = if L.contains f then SR f xs h z else none := rfl
theorem mk_keep {ref L : List FuncId} {kt : List (Nat × List Nat)} {dt : List (Nat × List (List Nat × List Nat × Bool))} {i : Nat} : (mkE ref L kt dt).keep i = keepT kt i := rfl
theorem sh_shl (k : IntKind) (a b : Int) : shiftA .shl k a b = if b < 0 then none else some (.int k (shl k a b)) := rfl
theorem sh_shr (k : IntKind) (a b : Int) : shiftA .shr k a b = if b < 0 then none else some (.int k (shr k a b)) := by
  unfold shiftA shr; split
  · rfl
  · rw [Int.fdiv_eq_ediv_of_nonneg]; exact Int.le_of_lt (Int.pow_pos (by decide))
theorem shl32 (a : Int) : shl .u64 a 32 = IntKind.u64.wrap (a * 4294967296) := rfl
theorem shr32 (a : Int) : shr .u64 a 32 = a / 4294967296 := rfl
theorem shr63 (a : Int) : shr .u64 a 63 = a / 9223372036854775808 := rfl
theorem shr16 (a : Int) : shr .u32 a 16 = a / 65536 := rfl
theorem shr8 (a : Int) : shr .u32 a 8 = a / 256 := rfl
attribute [simp] shr16 shr8 sh_shl sh_shr shl32 shr32 shr63
theorem mk_dep {ref L : List FuncId} {kt : List (Nat × List Nat)} {dt : List (Nat × List (List Nat × List Nat × Bool))} {i : Nat} : (mkE ref L kt dt).dep i = depT dt i := rfl
theorem depT_nil (i : Nat) : depT [] i = [] := rfl
theorem depT_cons (a i : Nat) (x : List (List Nat × List Nat × Bool)) (l : List (Nat × List (List Nat × List Nat × Bool))) : depT ((a, x) :: l) i = if a = i then x else depT l i := by
  unfold depT
  by_cases h : a = i
  · simp [h]
  · simp [h]
theorem baSize (a : Array UInt8) : (ByteArray.mk a).size = a.size := rfl
attribute [simp] depT_nil depT_cons baSize mk_dep Op.operands bneT bneF w64_eq w32_eq ltT ltF leT leF nltT nltF nleT nleF app1 app4 app8 mk4 mk8 maxS fr rowI List.replicate mk_P mk_ref mk_call mk_callR mk_keep unI unC unC_map beqT beqF fdivP take_map IntKind.bits List.filter_cons List.filter_nil List.take_of_length_le List.map_append List.getElem?_append_left List.getElem?_append_right List.set_append_left List.set_append_right wk wk1 wk2 SR unN unB unS keepT
theorem get_rd0 (l : List Int) (f : Int → AV) (h1 : (0 : Int) < l.length) : (l.map f)[0]? = some (f (rd l 0)) := get_rd l f 0 (Int.le_refl _) h1
theorem unC_td (k : IntKind) (l : List Int) (n o : Nat) : unC k (((l.map (.int k)).drop o).take n) = some ((l.drop o).take n) := by
  rw [← List.map_drop, ← List.map_take, unC_map]
theorem unC_apps (k : IntKind) : ∀ (a b : List AV), unC k (a ++ b) = (unC k a).bind fun l => (unC k b).map (l ++ ·)
  | [], b => by simp [unC]
  | c :: a, b => by
    cases c <;> simp only [List.cons_append, unC] <;> try rfl
    split
    · rw [unC_apps k a b]; cases unC k a <;> cases unC k b <;> simp
    · rfl
theorem unC_take (k : IntKind) (l : List Int) (n : Nat) : unC k ((l.map (.int k)).take n) = some (l.take n) := by rw [← List.map_take, unC_map]
theorem unC_drop (k : IntKind) (l : List Int) (n : Nat) : unC k ((l.map (.int k)).drop n) = some (l.drop n) := by rw [← List.map_drop, unC_map]
theorem take_app2 {α : Type} (a b c : List α) : (a ++ (b ++ c)).take (a.length + b.length) = a ++ b := by
  rw [← List.append_assoc, List.take_append_of_le_length (by simp), List.take_of_length_le (by simp)]
theorem take_mapp {α β : Type} (f : α → β) (l : List α) (m : List β) : (l.map f ++ m).take l.length = l.map f := by
  rw [List.take_append_of_le_length (by simp), List.take_of_length_le (by simp)]
attribute [simp] take_mapp take_app2 unC_td unC_apps unC_take unC_drop
theorem bt_get (d : Array UInt8) (i : Int) (h0 : 0 ≤ i) (h1 : i < d.size) : d[i.toNat]? = some (UInt8.ofNat (bt ⟨d⟩ i).toNat) := by
  have h : i.toNat < d.size := by omega
  have e : bt ⟨d⟩ i = ((d[i.toNat]'h).toNat : Int) := by
    unfold bt; rw [dif_pos (show i.toNat < (ByteArray.mk d).size from h)]; rfl
  rw [e]; simp [h]
theorem bt_nat (b : ByteArray) (i : Int) : ((UInt8.ofNat (bt b i).toNat).toNat : Int) = bt b i := by
  obtain ⟨h0, h1⟩ := bt_range b i
  simp; omega
theorem lbt_get (d : List UInt8) (i : Int) (h0 : 0 ≤ i) (h1 : i < d.length) : d[i.toNat]? = some (UInt8.ofNat (bt ⟨d.toArray⟩ i).toNat) := by
  have := bt_get d.toArray i h0 (by simpa using h1)
  simpa using this
theorem w8_eq (n : Int) : IntKind.u8.wrap n = n % 256 := by
  simp [IntKind.wrap, IntKind.signed, IntKind.bits]
theorem w64_24 : wrap64 24 = 24 := by unfold wrap64; rfl
theorem w64_8 : wrap64 8 = 8 := by unfold wrap64; rfl
attribute [simp high] lbt_get bt_get
theorem bt_max (b : ByteArray) (i : Int) : max (bt b i) 0 % 256 = bt b i := by
  obtain ⟨h0, h1⟩ := bt_range b i
  omega
attribute [simp] bt_max w64_24 w64_8 w8_eq bt_nat
theorem get_app (l : List Int) (m : List AV) (f : Int → AV) (i : Int) (h0 : 0 ≤ i) (h1 : i < l.length) : (l.map f ++ m)[i.toNat]? = some (f (rd l i)) := by
  rw [List.getElem?_append_left (by simp; omega)]; exact get_rd l f i h0 h1
theorem get_app2 (a l : List Int) (m : List AV) (f g : Int → AV) (i : Int) (h0 : 0 ≤ i) (h1 : i < l.length) : (a.map g ++ (l.map f ++ m))[a.length + i.toNat]? = some (f (rd l i)) := by
  rw [List.getElem?_append_right (by simp)]; simpa using get_app l m f i h0 h1
theorem set_app2 (a : List Int) (l m : List AV) (g : Int → AV) (i : Nat) (v : AV) (h1 : i < l.length) : (a.map g ++ (l ++ m)).set (a.length + i) v = a.map g ++ (l.set i v ++ m) := by
  rw [List.set_append_right _ _ (by simp)]; simp only [List.length_map, Nat.add_sub_cancel_left]; rw [List.set_append_left _ _ h1]
attribute [simp high] get_app get_app2 set_app2 get_rd0 get_rd List.getElem?_cons_zero List.getElem?_cons_succ
theorem short_l0_len : ∀ (k : Nat) (l : List Int) (a b i : Int) (r : Int × List Int), nat_short.l0 k l a b i = some r → r.2.length = l.length := by
  intro k
  induction k with
  | zero => intro l a b i r h; simp [nat_short.l0] at h
  | succ k ih =>
    intro l a b i r h
    simp only [nat_short.l0] at h
    repeat' split at h
    all_goals first | (simp only [reduceCtorEq] at h; done) | (with_reducible obtain rfl := Option.some.inj h; rfl) | (rw [ih _ _ _ _ _ h]; simp)
theorem short_len {k : Nat} {l : List Int} {a : Int} {r : Int × List Int} (h : nat_short.f k l a = some r) : r.2.length = l.length := short_l0_len k l a _ _ r h
theorem rev_l0_len : ∀ (k : Nat) (l : List Int) (a b : Int) (r : List Int), slices_Reverse_byte_byte.l0 k l a b = some r → r.length = l.length := by
  intro k
  induction k with
  | zero => intro l a b r h; simp [slices_Reverse_byte_byte.l0] at h
  | succ k ih =>
    intro l a b r h
    simp only [slices_Reverse_byte_byte.l0] at h
    repeat' split at h
    all_goals first | (simp only [reduceCtorEq] at h; done) | (with_reducible obtain rfl := Option.some.inj h; rfl) | (rw [ih _ _ _ _ h]; simp)
theorem rev_len {k : Nat} {l r : List Int} (h : slices_Reverse_byte_byte.f k l = some r) : r.length = l.length := rev_l0_len k l _ _ r h
theorem off_l0_len : ∀ (k : Nat) (l v : List Int) (a b c d e : Int) (r : Bool × List Int), nat_off.l0 k l v a b c d e = some r → r.2.length = l.length := by
  intro k
  induction k with
  | zero => intro l v a b c d e r h; simp [nat_off.l0] at h
  | succ k ih =>
    intro l v a b c d e r h
    simp only [nat_off.l0] at h
    repeat' split at h
    all_goals first | (simp only [reduceCtorEq] at h; done) | (with_reducible obtain rfl := Option.some.inj h; rfl) | (rw [ih _ _ _ _ _ _ _ _ h]; simp)
theorem off_len {k : Nat} {l v : List Int} {a : Int} {r : Bool × List Int} (h : nat_off.f k l v a = some r) : r.2.length = l.length := off_l0_len k l v a _ _ _ _ r h
theorem back_l0_len : ∀ (k : Nat) (l v : List Int) (a b c : Int) (r : List Int), nat_back.l0 k l v a b c = some r → r.length = l.length := by
  intro k
  induction k with
  | zero => intro l v a b c r h; simp [nat_back.l0] at h
  | succ k ih =>
    intro l v a b c r h
    simp only [nat_back.l0] at h
    repeat' split at h
    all_goals first | (simp only [reduceCtorEq] at h; done) | (with_reducible obtain rfl := Option.some.inj h; rfl) | (rw [ih _ _ _ _ _ _ h]; simp)
theorem back_len {k : Nat} {l v : List Int} {r : List Int} (h : nat_back.f k l v = some r) : r.length = l.length := back_l0_len k l v _ _ _ r h
theorem offX_out {k : Nat} {u v : List Int} {lo hi q : Int} {r : Bool × List Int} (h : nat_offX.f k u lo hi v q = some r) : 0 ≤ lo ∧ lo < hi ∧ hi ≤ u.length ∧ ∃ b, (pick fun k => nat_off.f k ((u.drop lo.toNat).take (hi.toNat - lo.toNat)) v q) = some b ∧ b.2.length = hi.toNat - lo.toNat ∧ r = (b.1, u.take lo.toNat ++ b.2 ++ u.drop hi.toNat) := by
  unfold nat_offX.f at h
  split at h
  · rename_i c
    obtain ⟨b, e, h⟩ := Option.bind_eq_some_iff.1 h
    rw [List.drop_take] at e
    split at h
    · rename_i cl
      exact ⟨c.1, c.2.1, c.2.2, b, pick_of (fun k r h => nat_off.mono _ _ _ k r h) e, cl, (Option.some.inj h).symm⟩
    · cases h
  · cases h
theorem backX_out {k : Nat} {u v : List Int} {lo hi : Int} {r : List Int} (h : nat_backX.f k u lo hi v = some r) : 0 ≤ lo ∧ lo < hi ∧ hi ≤ u.length ∧ ∃ b, (pick fun k => nat_back.f k ((u.drop lo.toNat).take (hi.toNat - lo.toNat)) v) = some b ∧ b.length = hi.toNat - lo.toNat ∧ r = u.take lo.toNat ++ b ++ u.drop hi.toNat := by
  unfold nat_backX.f at h
  split at h
  · rename_i c
    obtain ⟨b, e, h⟩ := Option.bind_eq_some_iff.1 h
    rw [List.drop_take] at e
    split at h
    · rename_i cl
      exact ⟨c.1, c.2.1, c.2.2, b, pick_of (fun k r h => nat_back.mono _ _ k r h) e, cl, (Option.some.inj h).symm⟩
    · cases h
  · cases h
theorem trim_l0_pre : ∀ (k : Nat) (l r : List Int), nat_trim.l0 k l = some r → ∃ n, n ≤ l.length ∧ r = l.take n := by
  intro k
  induction k with
  | zero => intro l r h; simp [nat_trim.l0] at h
  | succ k ih =>
    intro l r h
    simp only [nat_trim.l0] at h
    repeat' split at h
    all_goals first | (simp only [reduceCtorEq] at h; done) | (with_reducible obtain rfl := Option.some.inj h; exact ⟨_, Nat.le_refl _, by simp⟩) | (obtain ⟨n, hn, rfl⟩ := ih _ _ h; exact ⟨n, by simp at hn; omega, by rw [List.take_take, Nat.min_eq_left]; simp at hn; omega⟩)
theorem trim_pre {k : Nat} {l r : List Int} (h : nat_trim.f k l = some r) : ∃ t, l = r ++ t := by
  obtain ⟨n, _, rfl⟩ := trim_l0_pre k l r h
  exact ⟨l.drop n, (List.take_append_drop n l).symm⟩
end Go.Proofs.Ythkiklpcglogpaa.ZRat
/- What the walks give: functions' meanings hold. -/
namespace Go.Proofs.Ythkiklpcglogpaa.ZRat
open Go.RowKit Go.Proofs.Ythkiklpcglogpaa.Wd
open Go Go.Proofs.Ythkiklpcglogpaa.Ab Go.Proofs
set_option linter.unusedSimpArgs false
set_option linter.unusedVariables false
theorem mixed : Try.prog.follows .mixedOrders = true := by kernel_rfl
def GoodV (f : FuncId) : Prop := ∀ xs r, SV f xs = some r → OkV Try.prog f xs r
def GoodR (f : FuncId) : Prop := ∀ xs h z v h' z', SR f xs h z = some (v, h', z') → OkR Try.prog f xs h z v h' z'
theorem all_nil {p : FuncId → Prop} : ∀ f ∈ ([] : List FuncId), p f := fun f h => by cases h
theorem all_cons {p : FuncId → Prop} {a : FuncId} {l : List FuncId} (h : p a) (t : ∀ f ∈ l, p f) : ∀ f ∈ a :: l, p f := fun f hf => by
  rcases List.mem_cons.1 hf with e | e
  · exact e ▸ h
  · exact t f e
theorem mkE_ok {ref L : List FuncId} {kt : List (Nat × List Nat)} {dt : List (Nat × List (List Nat × List Nat × Bool))} (hV : ∀ f ∈ L, GoodV f) (hR : ∀ f ∈ L, GoodR f) : EnvOk (mkE ref L kt dt) Try.prog := by
  refine ⟨rfl, fun f xs r h => ?_, fun f xs h z v h' z' hr => ?_, fun _ _ _ h => by simp [mkE] at h⟩
  · simp only [mk_call] at h
    split at h
    · rename_i hc; exact .inl (OkV.wkA (hV f (by simpa using hc) _ _ h))
    · cases h
  · simp only [mk_callR] at hr
    split at hr
    · rename_i hc; exact hR f (by simpa using hc) _ _ _ _ _ _ hr
    · cases hr
theorem unB_eq {x : AV} {b : Bool} (h : unB x = some b) : x = .bool b := by cases x <;> simp only [unB, reduceCtorEq] at h; cases h; rfl
theorem unS_eq {x : AV} {b : ByteArray} (h : unS x = some b) : x = .str b := by cases x <;> simp only [unS, reduceCtorEq] at h; cases h; rfl
theorem unN_eq {k : IntKind} {x : AV} {n : Int} (h : unN k x = some n) : x = .int k n := by
  cases x <;> simp only [unN, reduceCtorEq] at h
  split at h
  · rename_i e; subst e; cases h; rfl
  · cases h
theorem okR_ofV {P : Program} {f : FuncId} {n m : Nat} {cs ds : List AV} (h : OkV P f [.row n cs] (.row m ds)) : OkR P f [.row n cs] [] [] (.row m ds) [] [] :=
  ⟨h.1, fun K ρ S w args H ha => (h.2 S w args H.sb ⟨ha.1, fun j c hj => by
    obtain ⟨v, hv, hp⟩ := ha.2 j c hj
    refine ⟨v, hv, ?_⟩
    cases j with
    | zero => simp at hj; subst hj; exact hp
    | succ j => simp at hj⟩).mono fun e w' ⟨v, S', he, hv, X⟩ => ⟨v, ρ, S', he, hv, (H.later X).1, (H.later X).2⟩⟩
end Go.Proofs.Ythkiklpcglogpaa.ZRat
namespace Go.Proofs.Ythkiklpcglogpaa.ZRat
open Go.RowKit Go.Proofs.Ythkiklpcglogpaa.Wd
open Go Go.Proofs.Ythkiklpcglogpaa.Ab Go.Proofs
set_option linter.unusedSimpArgs false
set_option linter.unusedVariables false
set_option maxHeartbeats 4000000
set_option maxRecDepth 10000
noncomputable def E61 : Env := mkE [] [] [(1, [0])] []
theorem n61_ls (r : (List Int)) (k : Nat) : (∀ (x0 : List Int), nat_trim.l0 k x0 = some r → AEnds E61 (finW Try.prog Try.f61.results) 0 (atLoop Try.f61 1) ⟨fr 21 [(0, (rowI .u32 x0))], [], []⟩ (rowI .u32 r)) := by
  induction k using Nat.strongRecOn with
  | _ k ih =>
  intro x0 h
  cases k with
  | zero => simp [nat_trim.l0] at h
  | succ k1 =>
  simp only [nat_trim.l0] at h
  simp only [Try.f61, atLoop, seek, firstR, reduceIte, Option.getD_some, Nat.reduceEqDiff]
  rcases ite_some h with ⟨c2, h⟩ | ⟨c2, h⟩
  · rcases ite_some h with ⟨c3, h⟩ | ⟨c3, h⟩
    · rcases ite_some h with ⟨c4, h⟩ | ⟨c4, h⟩
      · rcases ite_some h with ⟨c5, h⟩ | ⟨c5, h⟩
        · rcases ite_some h with ⟨c6, h⟩ | ⟨c6, h⟩
          · simp (maxSteps := 2000000) (disch := (first | omega | (simp only [List.length_append, List.length_map, List.length_cons, List.length_nil, List.length_set, List.length_replicate, List.length_take, List.size_toArray]; omega))) [E61, c2, c3, c4, c5, c6]
            refine AEnds.againS ((ih k1 (by omega)) _  h) ?_
            simp only [E61, firstR, mk_keep, keepT, List.find?, Nat.reduceBEq, Option.map_some, Option.getD_some]
            simp (maxSteps := 2000000) (disch := (first | omega | (simp only [List.length_append, List.length_map, List.length_cons, List.length_nil, List.length_set, List.length_replicate, List.length_take, List.size_toArray]; omega))) [E61, c2, c3, c4, c5, c6]
            try omega
          · cases h
        · obtain rfl := Option.some.inj h
          simp (maxSteps := 2000000) (disch := (first | omega | (simp only [List.length_append, List.length_map, List.length_cons, List.length_nil, List.length_set, List.length_replicate, List.length_take, List.size_toArray]; omega))) [E61, c2, c3, c4, c5]
          try omega
      · cases h
    · cases h
  · obtain rfl := Option.some.inj h
    simp (maxSteps := 2000000) (disch := (first | omega | (simp only [List.length_append, List.length_map, List.length_cons, List.length_nil, List.length_set, List.length_replicate, List.length_take, List.size_toArray]; omega))) [E61, c2]
    try omega
theorem n61_run (k : Nat) (l0 : List Int) (r : (List Int)) (h : nat_trim.f k l0 = some r) : AEnds E61 (finW Try.prog Try.f61.results) 0 [.code (Try.f61.body.getD .skip)] (startA Try.f61 [(rowI .u32 l0)] [] []) (rowI .u32 r) := by
  unfold nat_trim.f at h
  simp only [Try.f61, Option.getD_some, startA]
  simp (maxSteps := 2000000) (disch := (first | omega | (simp only [List.length_append, List.length_map, List.length_cons, List.length_nil, List.length_set, List.length_replicate, List.length_take, List.size_toArray]; omega))) [E61]
  refine AEnds.loopS ((n61_ls _ _) _  h) ?_
  simp only [E61, firstR, mk_keep, keepT, List.find?, Nat.reduceBEq, Option.map_some, Option.getD_some]
  simp (maxSteps := 2000000) (disch := (first | omega | (simp only [List.length_append, List.length_map, List.length_cons, List.length_nil, List.length_set, List.length_replicate, List.length_take, List.size_toArray]; omega))) [E61]
  try omega
theorem fit61 : Fits Try.prog E61.ref E61.dep Try.f61 = true := by kernel_rfl
theorem good61 : GoodV 61 := by
  intro xs r h
  simp only [SV] at h
  unfold SV61 at h
  split at h
  · obtain ⟨a0, h0, h⟩ := Option.bind_eq_some_iff.1 h
    obtain ⟨q, hq, rfl⟩ := Option.map_eq_some_iff.1 h
    obtain ⟨k, hk⟩ := of_pick hq
    obtain rfl := unI_eq h0
    exact okW_ends (mkE_ok all_nil all_nil) mixed Try.func61 rfl fit61 (n61_run k _  _ hk)
  · cases h
noncomputable def E61R : Env := mkE [] [] [(1, [0])] []
theorem n61R_ls (B : List AV) (r : (List Int)) (k : Nat) : (∀ (x0 : List Int) (T : List AV), B = x0.map (.int .u32) ++ T → nat_trim.l0 k x0 = some r → AEnds E61R (finR Try.prog Try.f61.results) 1 (atLoop Try.f61 1) ⟨fr 21 [(0, .own 0 0 x0.length 1)], [.arr B], [false]⟩ (.own 0 0 r.length 1, [.arr B], [false])) := by
  induction k using Nat.strongRecOn with
  | _ k ih =>
  intro x0 T hB h
  subst hB
  cases k with
  | zero => simp [nat_trim.l0] at h
  | succ k1 =>
  simp only [nat_trim.l0] at h
  simp only [Try.f61, atLoop, seek, firstR, reduceIte, Option.getD_some, Nat.reduceEqDiff]
  rcases ite_some h with ⟨c2, h⟩ | ⟨c2, h⟩
  · rcases ite_some h with ⟨c3, h⟩ | ⟨c3, h⟩
    · rcases ite_some h with ⟨c4, h⟩ | ⟨c4, h⟩
      · rcases ite_some h with ⟨c5, h⟩ | ⟨c5, h⟩
        · rcases ite_some h with ⟨c6, h⟩ | ⟨c6, h⟩
          · simp (maxSteps := 2000000) (disch := (first | omega | (simp only [List.length_append, List.length_map, List.length_cons, List.length_nil, List.length_set, List.length_replicate, List.length_take, List.size_toArray]; omega))) [E61R, c2, c3, c4, c5, c6]
            refine AEnds.againS (ih k1 (by omega) (x0.take (wrap64 ((x0.length : Int) - 1)).toNat) ((x0.drop (wrap64 ((x0.length : Int) - 1)).toNat).map (.int .u32) ++ T) ?_ h) ?_
            · rw [← List.append_assoc, ← List.map_append, List.take_append_drop]
            simp only [E61R, firstR, mk_keep, keepT, List.find?, Nat.reduceBEq, Option.map_some, Option.getD_some]
            simp (maxSteps := 2000000) (disch := (first | omega | (simp only [List.length_append, List.length_map, List.length_cons, List.length_nil, List.length_set, List.length_replicate, List.length_take, List.size_toArray]; omega))) [E61R, c2, c3, c4, c5, c6]
            try omega
          · cases h
        · obtain rfl := Option.some.inj h
          simp (maxSteps := 2000000) (disch := (first | omega | (simp only [List.length_append, List.length_map, List.length_cons, List.length_nil, List.length_set, List.length_replicate, List.length_take, List.size_toArray]; omega))) [E61R, c2, c3, c4, c5]
      · cases h
    · cases h
  · obtain rfl := Option.some.inj h
    simp (maxSteps := 2000000) (disch := (first | omega | (simp only [List.length_append, List.length_map, List.length_cons, List.length_nil, List.length_set, List.length_replicate, List.length_take, List.size_toArray]; omega))) [E61R, c2]
theorem n61R_run (T : List AV) (k : Nat) (l0 : List Int) (r : (List Int)) (h : nat_trim.f k l0 = some r) : AEnds E61R (finR Try.prog Try.f61.results) 1 [.code (Try.f61.body.getD .skip)] (startA Try.f61 [.own 0 0 l0.length 1] [.arr (l0.map (.int .u32) ++ T)] [false]) (.own 0 0 r.length 1, [.arr (l0.map (.int .u32) ++ T)], [false]) := by
  unfold nat_trim.f at h
  simp only [Try.f61, Option.getD_some, startA]
  simp (maxSteps := 2000000) (disch := (first | omega | (simp only [List.length_append, List.length_map, List.length_cons, List.length_nil, List.length_set, List.length_replicate, List.length_take, List.size_toArray]; omega))) [E61R]
  refine AEnds.loopS (n61R_ls _ _ _ _ T rfl h) ?_
  simp only [E61R, firstR, mk_keep, keepT, List.find?, Nat.reduceBEq, Option.map_some, Option.getD_some]
  simp (maxSteps := 2000000) (disch := (first | omega | (simp only [List.length_append, List.length_map, List.length_cons, List.length_nil, List.length_set, List.length_replicate, List.length_take, List.size_toArray]; omega))) [E61R]
theorem goodR61x (hV : GoodV 61) : GoodR 61 := by
  intro xs h z v h' z' hr
  simp only [SR] at hr
  unfold SR61 at hr
  split at hr
  · rename_i n cs
    obtain ⟨q, hq, e⟩ := Option.map_eq_some_iff.1 hr
    cases e
    have := hV [.row n cs] _ (by simp only [SV]; exact hq)
    unfold SV61 at hq
    obtain ⟨l, hl, hq⟩ := Option.bind_eq_some_iff.1 hq
    obtain ⟨q, hq, rfl⟩ := Option.map_eq_some_iff.1 hq
    exact okR_ofV this
  · rename_i n cs
    obtain ⟨l, hl, hr⟩ := Option.bind_eq_some_iff.1 hr
    split at hr
    · rename_i hn
      obtain ⟨q, hq, e⟩ := Option.map_eq_some_iff.1 hr
      obtain ⟨k, hk⟩ := of_pick hq
      have := n61R_run ((l.drop n).map (.int .u32)) k (l.take n) q hk
      rw [← List.map_append, List.take_append_drop, List.length_take, Nat.min_eq_left hn, ← unC_eq hl, e] at this
      exact okR_ends (mkE_ok all_nil all_nil) mixed Try.func61 rfl (by kernel_rfl : Fits Try.prog E61R.ref E61R.dep Try.f61 = true) this
    · cases hr
  · cases hr

theorem goodR61 : GoodR 61 := goodR61x good61
end Go.Proofs.Ythkiklpcglogpaa.ZRat
namespace Go.Proofs.Ythkiklpcglogpaa.ZRat
open Go.RowKit Go.Proofs.Ythkiklpcglogpaa.Wd
open Go Go.Proofs.Ythkiklpcglogpaa.Ab Go.Proofs
set_option linter.unusedSimpArgs false
set_option linter.unusedVariables false
set_option maxHeartbeats 4000000
set_option maxRecDepth 10000
noncomputable def E56 : Env := mkE [] [61] [(7, [0, 1, 5])] []
theorem n56_ls (r : (Int)) (k : Nat) : (∀ (x0 : List Int) (x1 : List Int) (x5 : Int), nat_cmp.l0 k x0 x1 x5 = some r → AEnds E56 (finW Try.prog Try.f56.results) 0 (atLoop Try.f56 7) ⟨fr 47 [(0, (rowI .u32 x0)), (1, (rowI .u32 x1)), (5, (.int .i64 x5))], [], []⟩ (.int .i64 r)) := by
  induction k using Nat.strongRecOn with
  | _ k ih =>
  intro x0 x1 x5 h
  cases k with
  | zero => simp [nat_cmp.l0] at h
  | succ k1 =>
  simp only [nat_cmp.l0] at h
  simp only [Try.f56, atLoop, seek, firstR, reduceIte, Option.getD_some, Nat.reduceEqDiff]
  rcases ite_some h with ⟨c2, h⟩ | ⟨c2, h⟩
  · rcases ite_some h with ⟨c3, h⟩ | ⟨c3, h⟩
    · rcases ite_some h with ⟨c4, h⟩ | ⟨c4, h⟩
      · rcases ite_some h with ⟨c5, h⟩ | ⟨c5, h⟩
        · rcases ite_some h with ⟨c6, h⟩ | ⟨c6, h⟩
          · obtain rfl := Option.some.inj h
            simp (maxSteps := 2000000) (disch := (first | omega | (simp only [List.length_append, List.length_map, List.length_cons, List.length_nil, List.length_set, List.length_replicate, List.length_take, List.size_toArray]; omega))) [E56, c2, c3, c4, c5, c6]
            try omega
          · rcases ite_some h with ⟨c7, h⟩ | ⟨c7, h⟩
            · obtain rfl := Option.some.inj h
              simp (maxSteps := 2000000) (disch := (first | omega | (simp only [List.length_append, List.length_map, List.length_cons, List.length_nil, List.length_set, List.length_replicate, List.length_take, List.size_toArray]; omega))) [E56, c2, c3, c4, c5, c6, c7]
              try omega
            · simp (maxSteps := 2000000) (disch := (first | omega | (simp only [List.length_append, List.length_map, List.length_cons, List.length_nil, List.length_set, List.length_replicate, List.length_take, List.size_toArray]; omega))) [E56, c2, c3, c4, c5, c6, c7]
              refine AEnds.againS ((ih k1 (by omega)) _ _ _  h) ?_
              simp only [E56, firstR, mk_keep, keepT, List.find?, Nat.reduceBEq, Option.map_some, Option.getD_some]
              simp (maxSteps := 2000000) (disch := (first | omega | (simp only [List.length_append, List.length_map, List.length_cons, List.length_nil, List.length_set, List.length_replicate, List.length_take, List.size_toArray]; omega))) [E56, c2, c3, c4, c5, c6, c7]
              try omega
        · cases h
      · cases h
    · cases h
  · obtain rfl := Option.some.inj h
    simp (maxSteps := 2000000) (disch := (first | omega | (simp only [List.length_append, List.length_map, List.length_cons, List.length_nil, List.length_set, List.length_replicate, List.length_take, List.size_toArray]; omega))) [E56, c2]
    try omega
theorem n56_run (k : Nat) (l0 : List Int) (l1 : List Int) (r : (Int)) (h : nat_cmp.f k l0 l1 = some r) : AEnds E56 (finW Try.prog Try.f56.results) 0 [.code (Try.f56.body.getD .skip)] (startA Try.f56 [(rowI .u32 l0), (rowI .u32 l1)] [] []) (.int .i64 r) := by
  unfold nat_cmp.f at h
  simp only [Try.f56, Option.getD_some, startA]
  obtain ⟨t8, e9, h⟩ := Option.bind_eq_some_iff.1 h
  have p10 := pick_of (fun k r h => nat_trim.mono _  k r h) e9
  obtain ⟨t11, e12, h⟩ := Option.bind_eq_some_iff.1 h
  have p13 := pick_of (fun k r h => nat_trim.mono _  k r h) e12
  rcases ite_some h with ⟨c14, h⟩ | ⟨c14, h⟩
  · simp (maxSteps := 2000000) (disch := (first | omega | (simp only [List.length_append, List.length_map, List.length_cons, List.length_nil, List.length_set, List.length_replicate, List.length_take, List.size_toArray]; omega))) [E56, p10, p13, c14]
    refine AEnds.loopS ((n56_ls _ _) _ _ _  h) ?_
    simp only [E56, firstR, mk_keep, keepT, List.find?, Nat.reduceBEq, Option.map_some, Option.getD_some]
    simp (maxSteps := 2000000) (disch := (first | omega | (simp only [List.length_append, List.length_map, List.length_cons, List.length_nil, List.length_set, List.length_replicate, List.length_take, List.size_toArray]; omega))) [E56, p10, p13, c14]
    try omega
  · rcases ite_some h with ⟨c15, h⟩ | ⟨c15, h⟩
    · obtain rfl := Option.some.inj h
      simp (maxSteps := 2000000) (disch := (first | omega | (simp only [List.length_append, List.length_map, List.length_cons, List.length_nil, List.length_set, List.length_replicate, List.length_take, List.size_toArray]; omega))) [E56, p10, p13, c14, c15]
      try omega
    · obtain rfl := Option.some.inj h
      simp (maxSteps := 2000000) (disch := (first | omega | (simp only [List.length_append, List.length_map, List.length_cons, List.length_nil, List.length_set, List.length_replicate, List.length_take, List.size_toArray]; omega))) [E56, p10, p13, c14, c15]
      try omega
theorem fit56 : Fits Try.prog E56.ref E56.dep Try.f56 = true := by kernel_rfl
theorem good56 : GoodV 56 := by
  intro xs r h
  simp only [SV] at h
  unfold SV56 at h
  split at h
  · obtain ⟨a0, h0, h⟩ := Option.bind_eq_some_iff.1 h
    obtain ⟨a1, h1, h⟩ := Option.bind_eq_some_iff.1 h
    obtain ⟨q, hq, rfl⟩ := Option.map_eq_some_iff.1 h
    obtain ⟨k, hk⟩ := of_pick hq
    obtain rfl := unI_eq h0
    obtain rfl := unI_eq h1
    exact okW_ends (mkE_ok (all_cons good61 all_nil) (all_cons goodR61 all_nil)) mixed Try.func56 rfl fit56 (n56_run k _ _  _ hk)
  · cases h
theorem goodR56 : GoodR 56 := fun _ _ _ _ _ _ h => by simp [SR] at h
end Go.Proofs.Ythkiklpcglogpaa.ZRat
namespace Go.Proofs.Ythkiklpcglogpaa.ZRat
open Go.RowKit Go.Proofs.Ythkiklpcglogpaa.Wd
open Go Go.Proofs.Ythkiklpcglogpaa.Ab Go.Proofs
set_option linter.unusedSimpArgs false
set_option linter.unusedVariables false
set_option maxHeartbeats 4000000
set_option maxRecDepth 10000
noncomputable def E86 : Env := mkE [] [] [(4, [0, 1, 2, 7, 9, 10])] []
theorem n86_ls (r : (Int)) (k : Nat) : (∀ (x0 : List Int) (x1 : Int) (x2 : Int) (x7 : Int) (x9 : Int) (x10 : Int), nat_guess.l0 k x0 x1 x2 x7 x9 x10 = some r → AEnds E86 (finW Try.prog Try.f86.results) 0 (atLoop Try.f86 4) ⟨fr 58 [(0, (rowI .u32 x0)), (1, (.int .u64 x1)), (2, (.int .u64 x2)), (7, (.int .i64 x7)), (9, (.int .u64 x9)), (10, (.int .u64 x10))], [], []⟩ (.int .u64 r)) := by
  induction k using Nat.strongRecOn with
  | _ k ih =>
  intro x0 x1 x2 x7 x9 x10 h
  cases k with
  | zero => simp [nat_guess.l0] at h
  | succ k1 =>
  simp only [nat_guess.l0] at h
  simp only [Try.f86, atLoop, seek, firstR, reduceIte, Option.getD_some, Nat.reduceEqDiff]
  rcases ite_some h with ⟨c2, h⟩ | ⟨c2, h⟩
  · cases k1 with
    | zero => simp [nat_guess.j1] at h
    | succ k3 =>
    simp only [nat_guess.j1] at h
    rcases ite_some h with ⟨c4, h⟩ | ⟨c4, h⟩
    · rcases ite_some h with ⟨c5, h⟩ | ⟨c5, h⟩
      · obtain rfl := Option.some.inj h
        simp (maxSteps := 2000000) (disch := (first | omega | (simp only [List.length_append, List.length_map, List.length_cons, List.length_nil, List.length_set, List.length_replicate, List.length_take, List.size_toArray]; omega))) [E86, c2, c5]
        try omega
      · simp (maxSteps := 2000000) (disch := (first | omega | (simp only [List.length_append, List.length_map, List.length_cons, List.length_nil, List.length_set, List.length_replicate, List.length_take, List.size_toArray]; omega))) [E86, c2, c5]
        refine AEnds.againS ((ih k3 (by omega)) _ _ _ _ _ _  h) ?_
        simp only [E86, firstR, mk_keep, keepT, List.find?, Nat.reduceBEq, Option.map_some, Option.getD_some]
        simp (maxSteps := 2000000) (disch := (first | omega | (simp only [List.length_append, List.length_map, List.length_cons, List.length_nil, List.length_set, List.length_replicate, List.length_take, List.size_toArray]; omega))) [E86, c2, c5]
        try omega
    · simp at c4
  · rcases ite_some h with ⟨c6, h⟩ | ⟨c6, h⟩
    · rcases ite_some h with ⟨c7, h⟩ | ⟨c7, h⟩
      · cases k1 with
        | zero => simp [nat_guess.j1] at h
        | succ k8 =>
        simp only [nat_guess.j1] at h
        rcases ite_some h with ⟨c9, h⟩ | ⟨c9, h⟩
        · simp only [decide_eq_true_eq] at c9
          rcases ite_some h with ⟨c10, h⟩ | ⟨c10, h⟩
          · obtain rfl := Option.some.inj h
            simp (maxSteps := 2000000) (disch := (first | omega | (simp only [List.length_append, List.length_map, List.length_cons, List.length_nil, List.length_set, List.length_replicate, List.length_take, List.size_toArray]; omega))) [E86, c2, c6, c7, c9, c10]
            try omega
          · simp (maxSteps := 2000000) (disch := (first | omega | (simp only [List.length_append, List.length_map, List.length_cons, List.length_nil, List.length_set, List.length_replicate, List.length_take, List.size_toArray]; omega))) [E86, c2, c6, c7, c9, c10]
            refine AEnds.againS ((ih k8 (by omega)) _ _ _ _ _ _  h) ?_
            simp only [E86, firstR, mk_keep, keepT, List.find?, Nat.reduceBEq, Option.map_some, Option.getD_some]
            simp (maxSteps := 2000000) (disch := (first | omega | (simp only [List.length_append, List.length_map, List.length_cons, List.length_nil, List.length_set, List.length_replicate, List.length_take, List.size_toArray]; omega))) [E86, c2, c6, c7, c9, c10]
            try omega
        · simp only [decide_eq_true_eq] at c9
          obtain rfl := Option.some.inj h
          simp (maxSteps := 2000000) (disch := (first | omega | (simp only [List.length_append, List.length_map, List.length_cons, List.length_nil, List.length_set, List.length_replicate, List.length_take, List.size_toArray]; omega))) [E86, c2, c6, c7, c9]
          try omega
      · cases h
    · cases h
theorem n86_run (k : Nat) (l0 : List Int) (a1 : Int) (a2 : Int) (r : (Int)) (h : nat_guess.f k l0 a1 a2 = some r) : AEnds E86 (finW Try.prog Try.f86.results) 0 [.code (Try.f86.body.getD .skip)] (startA Try.f86 [(rowI .u32 l0), (.int .u64 a1), (.int .u64 a2)] [] []) (.int .u64 r) := by
  unfold nat_guess.f at h
  simp only [Try.f86, Option.getD_some, startA]
  rcases ite_some h with ⟨c11, h⟩ | ⟨c11, h⟩
  · rcases ite_some h with ⟨c12, h⟩ | ⟨c12, h⟩
    · rcases ite_some h with ⟨c13, h⟩ | ⟨c13, h⟩
      · rcases ite_some h with ⟨c14, h⟩ | ⟨c14, h⟩
        · rcases ite_some h with ⟨c15, h⟩ | ⟨c15, h⟩
          · cases h
          · simp (maxSteps := 2000000) (disch := (first | omega | (simp only [List.length_append, List.length_map, List.length_cons, List.length_nil, List.length_set, List.length_replicate, List.length_take, List.size_toArray]; omega))) [E86, c11, c12, c13, c14, c15]
            refine AEnds.loopS ((n86_ls _ _) _ _ _ _ _ _  h) ?_
            simp only [E86, firstR, mk_keep, keepT, List.find?, Nat.reduceBEq, Option.map_some, Option.getD_some]
            simp (maxSteps := 2000000) (disch := (first | omega | (simp only [List.length_append, List.length_map, List.length_cons, List.length_nil, List.length_set, List.length_replicate, List.length_take, List.size_toArray]; omega))) [E86, c11, c12, c13, c14, c15]
            try omega
        · cases h
      · cases h
    · cases h
  · cases h
theorem fit86 : Fits Try.prog E86.ref E86.dep Try.f86 = true := by kernel_rfl
theorem good86 : GoodV 86 := by
  intro xs r h
  simp only [SV] at h
  unfold SV86 at h
  split at h
  · obtain ⟨a0, h0, h⟩ := Option.bind_eq_some_iff.1 h
    obtain ⟨a1, h1, h⟩ := Option.bind_eq_some_iff.1 h
    obtain ⟨a2, h2, h⟩ := Option.bind_eq_some_iff.1 h
    obtain ⟨q, hq, rfl⟩ := Option.map_eq_some_iff.1 h
    obtain ⟨k, hk⟩ := of_pick hq
    obtain rfl := unI_eq h0
    obtain rfl := unN_eq h1
    obtain rfl := unN_eq h2
    exact okW_ends (mkE_ok all_nil all_nil) mixed Try.func86 rfl fit86 (n86_run k _ _ _  _ hk)
  · cases h
theorem goodR86 : GoodR 86 := fun _ _ _ _ _ _ h => by simp [SR] at h
end Go.Proofs.Ythkiklpcglogpaa.ZRat
namespace Go.Proofs.Ythkiklpcglogpaa.ZRat
open Go.RowKit Go.Proofs.Ythkiklpcglogpaa.Wd
open Go Go.Proofs.Ythkiklpcglogpaa.Ab Go.Proofs
set_option linter.unusedSimpArgs false
set_option linter.unusedVariables false
set_option maxHeartbeats 4000000
set_option maxRecDepth 10000
noncomputable def E90 : Env := mkE [] [] [] []
theorem n90_run (k : Nat) (a0 : Int) (r : (Int)) (h : bits_Len32.f  a0 = some r) : AEnds E90 (finW Try.prog Try.f90.results) 0 [.code (Try.f90.body.getD .skip)] (startA Try.f90 [(.int .u32 a0)] [] []) (.int .i64 r) := by
  unfold bits_Len32.f at h
  simp only [Try.f90, Option.getD_some, startA]
  rcases ite_some h with ⟨c1, h⟩ | ⟨c1, h⟩
  · rcases ite_some h with ⟨c2, h⟩ | ⟨c2, h⟩
    · rcases ite_some h with ⟨c3, h⟩ | ⟨c3, h⟩
      · rcases ite_some h with ⟨c4, h⟩ | ⟨c4, h⟩
        · obtain rfl := Option.some.inj h
          simp (maxSteps := 2000000) (disch := (first | omega | (simp only [List.length_append, List.length_map, List.length_cons, List.length_nil, List.length_set, List.length_replicate, List.length_take, List.size_toArray]; omega))) [E90, c1, c2, c3, c4]
          try omega
        · cases h
      · cases h
    · rcases ite_some h with ⟨c5, h⟩ | ⟨c5, h⟩
      · rcases ite_some h with ⟨c6, h⟩ | ⟨c6, h⟩
        · obtain rfl := Option.some.inj h
          simp (maxSteps := 2000000) (disch := (first | omega | (simp only [List.length_append, List.length_map, List.length_cons, List.length_nil, List.length_set, List.length_replicate, List.length_take, List.size_toArray]; omega))) [E90, c1, c2, c5, c6]
          try omega
        · cases h
      · cases h
  · rcases ite_some h with ⟨c7, h⟩ | ⟨c7, h⟩
    · rcases ite_some h with ⟨c8, h⟩ | ⟨c8, h⟩
      · rcases ite_some h with ⟨c9, h⟩ | ⟨c9, h⟩
        · obtain rfl := Option.some.inj h
          simp (maxSteps := 2000000) (disch := (first | omega | (simp only [List.length_append, List.length_map, List.length_cons, List.length_nil, List.length_set, List.length_replicate, List.length_take, List.size_toArray]; omega))) [E90, c1, c7, c8, c9]
          try omega
        · cases h
      · cases h
    · rcases ite_some h with ⟨c10, h⟩ | ⟨c10, h⟩
      · rcases ite_some h with ⟨c11, h⟩ | ⟨c11, h⟩
        · obtain rfl := Option.some.inj h
          simp (maxSteps := 2000000) (disch := (first | omega | (simp only [List.length_append, List.length_map, List.length_cons, List.length_nil, List.length_set, List.length_replicate, List.length_take, List.size_toArray]; omega))) [E90, c1, c7, c10, c11]
          try omega
        · cases h
      · cases h
theorem fit90 : Fits Try.prog E90.ref E90.dep Try.f90 = true := by kernel_rfl
theorem good90 : GoodV 90 := by
  intro xs r h
  simp only [SV] at h
  unfold SV90 at h
  split at h
  · obtain ⟨a0, h0, h⟩ := Option.bind_eq_some_iff.1 h
    obtain ⟨q, hq, rfl⟩ := Option.map_eq_some_iff.1 h
    obtain rfl := unN_eq h0
    exact okW_ends (mkE_ok all_nil all_nil) mixed Try.func90 rfl fit90 (n90_run 0 _  _ hq)
  · cases h
theorem goodR90 : GoodR 90 := fun _ _ _ _ _ _ h => by simp [SR] at h
end Go.Proofs.Ythkiklpcglogpaa.ZRat
namespace Go.Proofs.Ythkiklpcglogpaa.ZRat
open Go.RowKit Go.Proofs.Ythkiklpcglogpaa.Wd
open Go Go.Proofs.Ythkiklpcglogpaa.Ab Go.Proofs
set_option linter.unusedSimpArgs false
set_option linter.unusedVariables false
set_option maxHeartbeats 4000000
set_option maxRecDepth 10000
noncomputable def E84 : Env := mkE [] [90] [] []
theorem n84_run (k : Nat) (a0 : Int) (r : (Int)) (h : bits_LeadingZeros32.f  a0 = some r) : AEnds E84 (finW Try.prog Try.f84.results) 0 [.code (Try.f84.body.getD .skip)] (startA Try.f84 [(.int .u32 a0)] [] []) (.int .i64 r) := by
  unfold bits_LeadingZeros32.f at h
  simp only [Try.f84, Option.getD_some, startA]
  obtain ⟨t1, e2, h⟩ := Option.bind_eq_some_iff.1 h
  obtain rfl := Option.some.inj h
  simp (maxSteps := 2000000) (disch := (first | omega | (simp only [List.length_append, List.length_map, List.length_cons, List.length_nil, List.length_set, List.length_replicate, List.length_take, List.size_toArray]; omega))) [E84, e2]
  try omega
theorem fit84 : Fits Try.prog E84.ref E84.dep Try.f84 = true := by kernel_rfl
theorem good84 : GoodV 84 := by
  intro xs r h
  simp only [SV] at h
  unfold SV84 at h
  split at h
  · obtain ⟨a0, h0, h⟩ := Option.bind_eq_some_iff.1 h
    obtain ⟨q, hq, rfl⟩ := Option.map_eq_some_iff.1 h
    obtain rfl := unN_eq h0
    exact okW_ends (mkE_ok (all_cons good90 all_nil) (all_cons goodR90 all_nil)) mixed Try.func84 rfl fit84 (n84_run 0 _  _ hq)
  · cases h
theorem goodR84 : GoodR 84 := fun _ _ _ _ _ _ h => by simp [SR] at h
end Go.Proofs.Ythkiklpcglogpaa.ZRat
namespace Go.Proofs.Ythkiklpcglogpaa.ZRat
open Go.RowKit Go.Proofs.Ythkiklpcglogpaa.Wd
open Go Go.Proofs.Ythkiklpcglogpaa.Ab Go.Proofs
set_option linter.unusedSimpArgs false
set_option linter.unusedVariables false
set_option maxHeartbeats 4000000
set_option maxRecDepth 10000
noncomputable def E0 : Env := mkE [] [] [] []
theorem E0_ok : EnvOk E0 Try.prog := ⟨rfl, fun f xs r h => by simp [E0] at h, fun f xs h z r h' z' h => by simp [E0] at h, fun _ _ _ h => by simp [E0, mkE] at h⟩
theorem clone_fit : Fits Try.prog E0.ref E0.dep Try.f60 = true := by kernel_rfl
theorem clone_pos (l : List Int) (h0 : 0 < l.length) (h1 : l.length < 35184372088832) : OkR Try.prog 60 [rowI .u32 l] [] [] (.own 1 0 l.length 1) [.gone, .arr (l.map (.int .u32))] [false, false] := by
  refine okR_ends E0_ok mixed Try.func60 rfl clone_fit ?_
  simp only [Try.f60, startA]
  simp (maxSteps := 2000000) (disch := omega) [E0, nilQ, nilOp, h0]
theorem wpl_step {P : Program} {ops : Array Oper} {Q : Exit → Act → World → Prop} {a : Act} {w : World} {rest : List Oper} {o : Oper} (hw : Region.wanted o (yielded ops a.tmps) = true) (h : o.wp P a w (wpList P ops Q rest) Q) : wpList P ops Q (o :: rest) a w := by
  unfold wpList; rw [if_pos hw]; exact .inl h
theorem wpl_value {P : Program} {ops : Array Oper} {Q : Exit → Act → World → Prop} {a : Act} {w : World} {rest : List Oper} {o : Oper} {v : Value} (hw : Region.wanted o (yielded ops a.tmps) = true) (hr : (execOp a.eval o).run P w = .ok (.value v) w) (h : wpList P ops Q rest (a.put o.dst v) w) : wpList P ops Q (o :: rest) a w :=
  wpl_step hw (by unfold Oper.wp; rw [hr, Oper.upon_value]; exact h)
theorem clone_zero : OkR Try.prog 60 [.row 0 []] [] [] (.own 1 0 0 1) [.gone, .arr []] [false, false] := by
  refine ⟨(Fits.body Try.func60 clone_fit).1, fun K ρ S w args H ha => ?_⟩
  have R0 := start_rel H ha Try.f60
  refine calls_of_wp Try.func60 rfl ?_
  refine wp_seq ((wpIn_wide (n := 0)).1 (region_sound (ro := none) (s' := ⟨(startA Try.f60 [.row 0 []] [] []).tmps.set 2 .nil, [], []⟩) E0_ok mixed (fun h => by cases h) ?h0 R0 (fun ρ1 S1 a1 w1 R1 d1 X1 => ?_)))
  case h0 => simp [Try.f60, startA, runRegion, runL, stepA, E0]
  refine wp_seq (wp_seq (wp_region_list ?_))
  refine wpl_value rfl (v := a1.eval (.tmp 0)) rfl ?_
  have R2 := R1.put (v := .row 0 []) (Ext.refl _ _ _ _) R1.mem (by have := R1.look (.tmp 0); simpa [Try.f60, startA] using this) (some 3)
  obtain ⟨A, cap, hv, _, _⟩ := row_of (n := 0) (cs := []) (by have := R2.look (.tmp 3); simpa [Try.f60, startA] using this)
  refine wpl_value rfl (v := .bool A.isNone) ?h2 ?_
  case h2 =>
    have hz : (a1.put (some 3) (a1.eval (.tmp 0))).eval (.const (.slice none 0 0)) = .slice none 0 0 := rfl
    simp only [execOp, Sem.run_bind, hv, hz, run_eqGuard (.inr (.inr (.inr ⟨A, 0, cap, rfl⟩))), Result.andThen_ok, Lib.run_eql_slice_nil w1 23 54 A 0 cap 0 0 Try.underlying23, Sem.run_pure]
  have R3 := R2.put (v := .bool A.isNone) (u := .bool A.isNone) (Ext.refl _ _ _ _) R2.mem (by simp only [V3, V2, V1, P1]) (some 4)
  have d3 : ((a1.put (some 3) (a1.eval (.tmp 0))).put (some 4) (.bool A.isNone)).defers = [] := (put_dfr _ _ _).trans ((put_dfr _ _ _).trans d1.dfr)
  generalize (a1.put (some 3) (a1.eval (.tmp 0))).put (some 4) (.bool A.isNone) = a3 at R3 d3 ⊢
  refine wp_cond (t := A.isNone) (bool_of (by have := R3.look (.tmp 4); simpa [Try.f60, startA] using this)) ?_
  cases A with
  | none =>
    refine wp_seq ((wpIn_wide (n := 0)).1 (region_sound (ro := none) (s' := ⟨((((startA Try.f60 [.row 0 []] [] []).tmps.set 2 .nil).set 3 (.row 0 [])).set 4 (.bool true)).set 2 .nil, [], []⟩) E0_ok mixed (fun h => by cases h) ?h3 R3 (fun ρ4 S4 a4 w4 R4 d4 X4 => wp_ret ?_)))
    case h3 => simp [Try.f60, startA, runRegion, runL, stepA, E0]
    obtain ⟨u, g1, g2⟩ := results_of (P := Try.prog) R4 (fn := Try.f60) (vs := [.nil]) (by simp [Try.f60, startA])
    have hu := nil_of g2
    subst hu
    have X := X1.trans X4
    have hno : ∀ (i b n : Nat), (if i = 0 then Ab.Loc.gone else if i = 1 then .virt else .free) ≠ .at b n := by
      intro i b n h
      split at h
      · cases h
      · split at h <;> cases h
    have HH : Heap K (fun i => if i = 0 then .gone else if i = 1 then .virt else .free) S4 [.gone, .arr []] [false, false] w4 := by
      refine ⟨fun i => ?_, fun i j b n m h _ => (hno _ _ _ h).elim, fun i b n h => (hno _ _ _ h).elim, fun i b n h => (hno _ _ _ h).elim, rfl, R4.mem.sb, R4.mem.kb⟩
      match i with
      | 0 => exact rfl
      | 1 => exact .inl ⟨rfl, rfl⟩
      | n + 2 => exact rfl
    exact ⟨d4.dfr.trans d3, _, g1, _, (fun i => if i = 0 then .gone else if i = 1 then .virt else .free), S4, rfl, ⟨rfl, none, rfl⟩, HH,
      ⟨X.os, X.tape, X.output, X.size, X.kept, X.ss, X.new, X.same, fun id => .inl (H.free (Nat.zero_le _))⟩⟩
  | some x =>
    refine wp_skip ?_
    refine wp_seq ((wpIn_wide (n := 0)).1 (region_sound (ro := none) (s' := ⟨((((((startA Try.f60 [.row 0 []] [] []).tmps.set 2 .nil).set 3 (.row 0 [])).set 4 (.bool false)).set 5 (.own 0 0 0 1)).set 6 (.row 0 [])).set 7 (.own 1 0 0 1) |>.set 2 (.own 1 0 0 1), [.gone, .arr []], [false, false]⟩) E0_ok mixed (fun h => by cases h) ?h4 R3 (fun ρ4 S4 a4 w4 R4 d4 X4 => wp_ret ?_)))
    case h4 => simp [Try.f60, startA, runRegion, runL, stepA, E0]
    obtain ⟨u, g1, g2⟩ := results_of (P := Try.prog) R4 (fn := Try.f60) (vs := [.own 1 0 0 1]) (by simp [Try.f60, startA])
    exact ⟨d4.dfr.trans d3, _, g1, _, ρ4, S4, rfl, g2, R4.mem, X1.trans X4⟩
theorem clone_ok (l : List Int) (h1 : l.length < 35184372088832) : OkR Try.prog 60 [rowI .u32 l] [] [] (.own 1 0 l.length 1) [.gone, .arr (l.map (.int .u32))] [false, false] := by
  cases l with
  | nil => exact clone_zero
  | cons a l => exact clone_pos _ (by simp) h1
theorem goodR60 : GoodR 60 := by
  intro xs h z v h' z' hr
  simp only [SR] at hr
  unfold SR60 at hr
  split at hr
  · obtain ⟨l, hl, hr⟩ := Option.bind_eq_some_iff.1 hr
    obtain ⟨m, hm, e⟩ := Option.map_eq_some_iff.1 hr
    cases e
    rw [unI_eq hl]
    unfold api_Nat_uint32.f at hm
    split at hm
    · cases hm; exact clone_ok _ ‹_›
    · cases hm
  · cases hr
theorem good60 : GoodV 60 := by
  intro xs r hr
  simp only [SV] at hr
  unfold SV60 at hr
  split at hr
  · obtain ⟨l, hl, hr⟩ := Option.bind_eq_some_iff.1 hr
    obtain ⟨m, hm, rfl⟩ := Option.map_eq_some_iff.1 hr
    rw [unI_eq hl]
    unfold api_Nat_uint32.f at hm
    split at hm
    · cases hm
      exact (clone_ok _ ‹_›).val (fs := [1]) (by simp)
    · cases hm
  · cases hr
end Go.Proofs.Ythkiklpcglogpaa.ZRat
namespace Go.Proofs.Ythkiklpcglogpaa.ZRat
open Go.RowKit Go.Proofs.Ythkiklpcglogpaa.Wd
open Go Go.Proofs.Ythkiklpcglogpaa.Ab Go.Proofs
set_option linter.unusedSimpArgs false
set_option linter.unusedVariables false
set_option maxHeartbeats 4000000
set_option maxRecDepth 10000
noncomputable def E72 : Env := mkE [] [] [(1, [0, 2, 3])] []
theorem n72_ls (tl : List Int) (r : (List Int)) (k : Nat) : (∀ (x0 : List Int) (x2 : Int) (x3 : Int), slices_Reverse_byte_byte.l0 k x0 x2 x3 = some r → AEnds E72 (finR Try.prog Try.f72.results) 1 (atLoop Try.f72 1) ⟨fr 28 [(0, .own 0 0 x0.length 1), (2, (.int .i64 x2)), (3, (.int .i64 x3))], [.arr ((x0 ++ tl).map (.int .u8))], [false]⟩ (.tup [], [.arr (r.map (.int .u8) ++ tl.map (.int .u8))], [false])) := by
  induction k using Nat.strongRecOn with
  | _ k ih =>
  intro x0 x2 x3 h
  cases k with
  | zero => simp [slices_Reverse_byte_byte.l0] at h
  | succ k1 =>
  simp only [slices_Reverse_byte_byte.l0] at h
  simp only [Try.f72, atLoop, seek, firstR, reduceIte, Option.getD_some, Nat.reduceEqDiff]
  rcases ite_some h with ⟨c2, h⟩ | ⟨c2, h⟩
  · rcases ite_some h with ⟨c3, h⟩ | ⟨c3, h⟩
    · rcases ite_some h with ⟨c4, h⟩ | ⟨c4, h⟩
      · rcases ite_some h with ⟨c5, h⟩ | ⟨c5, h⟩
        · rcases ite_some h with ⟨c6, h⟩ | ⟨c6, h⟩
          · simp (maxSteps := 2000000) (disch := (first | omega | (simp only [List.length_append, List.length_map, List.length_cons, List.length_nil, List.length_set, List.length_replicate, List.length_take, List.size_toArray]; omega))) [E72, c2, c3, c4, c5, c6]
            refine AEnds.againS ((ih k1 (by omega)) _ _ _  h) ?_
            simp only [E72, firstR, mk_keep, keepT, List.find?, Nat.reduceBEq, Option.map_some, Option.getD_some]
            simp (maxSteps := 2000000) (disch := (first | omega | (simp only [List.length_append, List.length_map, List.length_cons, List.length_nil, List.length_set, List.length_replicate, List.length_take, List.size_toArray]; omega))) [E72, c2, c3, c4, c5, c6]
            try omega
          · cases h
        · cases h
      · cases h
    · cases h
  · obtain rfl := Option.some.inj h
    simp (maxSteps := 2000000) (disch := (first | omega | (simp only [List.length_append, List.length_map, List.length_cons, List.length_nil, List.length_set, List.length_replicate, List.length_take, List.size_toArray]; omega))) [E72, c2]
    try omega
theorem n72_run (tl : List Int) (k : Nat) (l0 : List Int) (r : (List Int)) (h : slices_Reverse_byte_byte.f k l0 = some r) : AEnds E72 (finR Try.prog Try.f72.results) 1 [.code (Try.f72.body.getD .skip)] (startA Try.f72 [(.own 0 0 l0.length 1)] [.arr ((l0 ++ tl).map (.int .u8))] [false]) (.tup [], [.arr (r.map (.int .u8) ++ tl.map (.int .u8))], [false]) := by
  unfold slices_Reverse_byte_byte.f at h
  simp only [Try.f72, Option.getD_some, startA]
  simp (maxSteps := 2000000) (disch := (first | omega | (simp only [List.length_append, List.length_map, List.length_cons, List.length_nil, List.length_set, List.length_replicate, List.length_take, List.size_toArray]; omega))) [E72]
  refine AEnds.loopS ((n72_ls tl _ _) _ _ _  h) ?_
  simp only [E72, firstR, mk_keep, keepT, List.find?, Nat.reduceBEq, Option.map_some, Option.getD_some]
  simp (maxSteps := 2000000) (disch := (first | omega | (simp only [List.length_append, List.length_map, List.length_cons, List.length_nil, List.length_set, List.length_replicate, List.length_take, List.size_toArray]; omega))) [E72]
  try omega
theorem goodR72 : GoodR 72 := by
  intro xs h z v h' z' hr
  simp only [SR] at hr
  unfold SR72 at hr
  split at hr
  · rename_i n cs
    obtain ⟨l, hl, hr⟩ := Option.bind_eq_some_iff.1 hr
    split at hr
    · rename_i hn
      obtain ⟨q, hq, e⟩ := Option.map_eq_some_iff.1 hr
      obtain ⟨k, hk⟩ := of_pick hq
      have := n72_run (l.drop n) k (l.take n) q hk
      rw [List.take_append_drop, List.length_take, Nat.min_eq_left hn, ← unC_eq hl, e] at this
      exact okR_ends (mkE_ok all_nil all_nil) mixed Try.func72 rfl (by kernel_rfl : Fits Try.prog E72.ref E72.dep Try.f72 = true) this
    · cases hr
  · cases hr
theorem good72 : GoodV 72 := fun _ _ h => by simp [SV] at h
end Go.Proofs.Ythkiklpcglogpaa.ZRat
namespace Go.Proofs.Ythkiklpcglogpaa.ZRat
open Go.RowKit Go.Proofs.Ythkiklpcglogpaa.Wd
open Go Go.Proofs.Ythkiklpcglogpaa.Ab Go.Proofs
set_option linter.unusedSimpArgs false
set_option linter.unusedVariables false
set_option maxHeartbeats 4000000
set_option maxRecDepth 10000
noncomputable def E71 : Env := mkE [] [] [(3, [0, 1, 5, 6])] []
theorem n71_ls (tl : List Int) (r : (Int × List Int)) (k : Nat) : (∀ (x0 : List Int) (x1 : Int) (x5 : Int) (x6 : Int), nat_short.l0 k x0 x1 x5 x6 = some r → AEnds E71 (finR Try.prog Try.f71.results) 1 (atLoop Try.f71 3) ⟨fr 36 [(0, .own 0 0 x0.length 1), (1, (.int .u32 x1)), (5, (.int .u64 x5)), (6, (.int .i64 x6))], [.arr ((x0 ++ tl).map (.int .u32))], [false]⟩ (.int .u32 r.1, [.arr (r.2.map (.int .u32) ++ tl.map (.int .u32))], [false])) := by
  induction k using Nat.strongRecOn with
  | _ k ih =>
  intro x0 x1 x5 x6 h
  cases k with
  | zero => simp [nat_short.l0] at h
  | succ k1 =>
  simp only [nat_short.l0] at h
  simp only [Try.f71, atLoop, seek, firstR, reduceIte, Option.getD_some, Nat.reduceEqDiff]
  rcases ite_some h with ⟨c2, h⟩ | ⟨c2, h⟩
  · rcases ite_some h with ⟨c3, h⟩ | ⟨c3, h⟩
    · rcases ite_some h with ⟨c4, h⟩ | ⟨c4, h⟩
      · rcases ite_some h with ⟨c5, h⟩ | ⟨c5, h⟩
        · cases h
        · simp (maxSteps := 2000000) (disch := (first | omega | (simp only [List.length_append, List.length_map, List.length_cons, List.length_nil, List.length_set, List.length_replicate, List.length_take, List.size_toArray]; omega))) [E71, c2, c3, c4, c5]
          refine AEnds.againS ((ih k1 (by omega)) _ _ _ _  h) ?_
          simp only [E71, firstR, mk_keep, keepT, List.find?, Nat.reduceBEq, Option.map_some, Option.getD_some]
          simp (maxSteps := 2000000) (disch := (first | omega | (simp only [List.length_append, List.length_map, List.length_cons, List.length_nil, List.length_set, List.length_replicate, List.length_take, List.size_toArray]; omega))) [E71, c2, c3, c4, c5]
          try omega
      · cases h
    · cases h
  · obtain rfl := Option.some.inj h
    simp (maxSteps := 2000000) (disch := (first | omega | (simp only [List.length_append, List.length_map, List.length_cons, List.length_nil, List.length_set, List.length_replicate, List.length_take, List.size_toArray]; omega))) [E71, c2]
    try omega
theorem n71_run (tl : List Int) (k : Nat) (l0 : List Int) (a1 : Int) (r : (Int × List Int)) (h : nat_short.f k l0 a1 = some r) : AEnds E71 (finR Try.prog Try.f71.results) 1 [.code (Try.f71.body.getD .skip)] (startA Try.f71 [(.own 0 0 l0.length 1), (.int .u32 a1)] [.arr ((l0 ++ tl).map (.int .u32))] [false]) (.int .u32 r.1, [.arr (r.2.map (.int .u32) ++ tl.map (.int .u32))], [false]) := by
  unfold nat_short.f at h
  simp only [Try.f71, Option.getD_some, startA]
  simp (maxSteps := 2000000) (disch := (first | omega | (simp only [List.length_append, List.length_map, List.length_cons, List.length_nil, List.length_set, List.length_replicate, List.length_take, List.size_toArray]; omega))) [E71]
  refine AEnds.loopS ((n71_ls tl _ _) _ _ _ _  h) ?_
  simp only [E71, firstR, mk_keep, keepT, List.find?, Nat.reduceBEq, Option.map_some, Option.getD_some]
  simp (maxSteps := 2000000) (disch := (first | omega | (simp only [List.length_append, List.length_map, List.length_cons, List.length_nil, List.length_set, List.length_replicate, List.length_take, List.size_toArray]; omega))) [E71]
  try omega
theorem goodR71 : GoodR 71 := by
  intro xs h z v h' z' hr
  simp only [SR] at hr
  unfold SR71 at hr
  split at hr
  · rename_i n b cs
    obtain ⟨l, hl, hr⟩ := Option.bind_eq_some_iff.1 hr
    split at hr
    · rename_i hn
      obtain ⟨q, hq, e⟩ := Option.map_eq_some_iff.1 hr
      obtain ⟨k, hk⟩ := of_pick hq
      have := n71_run (l.drop n) k (l.take n) b q hk
      rw [List.take_append_drop, List.length_take, Nat.min_eq_left hn, ← unC_eq hl, e] at this
      exact okR_ends (mkE_ok all_nil all_nil) mixed Try.func71 rfl (by kernel_rfl : Fits Try.prog E71.ref E71.dep Try.f71 = true) this
    · cases hr
  · cases hr
theorem good71 : GoodV 71 := fun _ _ h => by simp [SV] at h
end Go.Proofs.Ythkiklpcglogpaa.ZRat
namespace Go.Proofs.Ythkiklpcglogpaa.ZRat
open Go.RowKit Go.Proofs.Ythkiklpcglogpaa.Wd
open Go Go.Proofs.Ythkiklpcglogpaa.Ab Go.Proofs
set_option linter.unusedSimpArgs false
set_option linter.unusedVariables false
set_option maxHeartbeats 4000000
set_option maxRecDepth 10000
noncomputable def E85 : Env := mkE [] [] [(4, [1, 5, 6, 13, 14, 15])] []
theorem n85_ls (r : (List Int)) (k : Nat) : (∀ (x1 : Int) (x5 : List Int) (x6 : Int) (x13 : List Int) (x14 : Int) (x15 : Int), nat_shift.l0 k x1 x5 x6 x13 x14 x15 = some r → AEnds E85 (finR Try.prog Try.f85.results) 0 (atLoop Try.f85 4) ⟨fr 38 [(1, (.int .i64 x1)), (5, .own 0 0 x5.length 1), (6, (.int .u64 x6)), (13, (rowI .u32 x13)), (14, (.int .i64 x14)), (15, (.int .i64 x15))], [.arr ((x5).map (.int .u32))], [false]⟩ (.own 2 0 r.length 1, [.gone, .arr [.int .u32 (r.getLast?.getD 0)], .arr (r.map (.int .u32))], [false, false, false])) := by
  induction k using Nat.strongRecOn with
  | _ k ih =>
  intro x1 x5 x6 x13 x14 x15 h
  cases k with
  | zero => simp [nat_shift.l0] at h
  | succ k1 =>
  simp only [nat_shift.l0] at h
  simp only [Try.f85, atLoop, seek, firstR, reduceIte, Option.getD_some, Nat.reduceEqDiff]
  rcases ite_some h with ⟨c2, h⟩ | ⟨c2, h⟩
  · rcases ite_some h with ⟨c3, h⟩ | ⟨c3, h⟩
    · rcases ite_some h with ⟨c4, h⟩ | ⟨c4, h⟩
      · rcases ite_some h with ⟨c5, h⟩ | ⟨c5, h⟩
        · rcases ite_some h with ⟨c6, h⟩ | ⟨c6, h⟩
          · simp (maxSteps := 2000000) (disch := (first | omega | (simp only [List.length_append, List.length_map, List.length_cons, List.length_nil, List.length_set, List.length_replicate, List.length_take, List.size_toArray]; omega))) [E85, c2, c3, c4, c5, c6]
            refine AEnds.againS ((ih k1 (by omega)) _ _ _ _ _ _  h) ?_
            simp only [E85, firstR, mk_keep, keepT, List.find?, Nat.reduceBEq, Option.map_some, Option.getD_some]
            simp (maxSteps := 2000000) (disch := (first | omega | (simp only [List.length_append, List.length_map, List.length_cons, List.length_nil, List.length_set, List.length_replicate, List.length_take, List.size_toArray]; omega))) [E85, c2, c3, c4, c5, c6]
            try omega
          · cases h
        · cases h
      · cases h
    · cases h
  · rcases ite_some h with ⟨c7, h⟩ | ⟨c7, h⟩
    · obtain rfl := Option.some.inj h
      simp (maxSteps := 2000000) (disch := (first | omega | (simp only [List.length_append, List.length_map, List.length_cons, List.length_nil, List.length_set, List.length_replicate, List.length_take, List.size_toArray]; omega))) [E85, c2, c7]
      try omega
    · cases h
theorem n85_run (k : Nat) (l0 : List Int) (a1 : Int) (r : (List Int)) (h : nat_shift.f k l0 a1 = some r) : AEnds E85 (finR Try.prog Try.f85.results) 0 [.code (Try.f85.body.getD .skip)] (startA Try.f85 [(rowI .u32 l0), (.int .i64 a1)] [] []) (.own 2 0 r.length 1, [.gone, .arr [.int .u32 (r.getLast?.getD 0)], .arr (r.map (.int .u32))], [false, false, false]) := by
  unfold nat_shift.f at h
  simp only [Try.f85, Option.getD_some, startA]
  rcases ite_some h with ⟨c8, h⟩ | ⟨c8, h⟩
  · rcases ite_some h with ⟨c9, h⟩ | ⟨c9, h⟩
    · simp (maxSteps := 2000000) (disch := (first | omega | (simp only [List.length_append, List.length_map, List.length_cons, List.length_nil, List.length_set, List.length_replicate, List.length_take, List.size_toArray]; omega))) [E85, c8, c9]
      refine AEnds.loopS ((n85_ls _ _) _ _ _ _ _ _  h) ?_
      simp only [E85, firstR, mk_keep, keepT, List.find?, Nat.reduceBEq, Option.map_some, Option.getD_some]
      simp (maxSteps := 2000000) (disch := (first | omega | (simp only [List.length_append, List.length_map, List.length_cons, List.length_nil, List.length_set, List.length_replicate, List.length_take, List.size_toArray]; omega))) [E85, c8, c9]
      try omega
    · cases h
  · cases h
theorem goodR85 : GoodR 85 := by
  intro xs h z v h' z' hr
  simp only [SR] at hr
  unfold SR85 at hr
  split at hr
  · obtain ⟨l, hl, hr⟩ := Option.bind_eq_some_iff.1 hr
    obtain ⟨q, hq, e⟩ := Option.map_eq_some_iff.1 hr
    obtain ⟨k, hk⟩ := of_pick hq
    obtain rfl := unI_eq hl
    have := n85_run k _ _ q hk
    rw [e] at this
    exact okR_ends (mkE_ok all_nil all_nil) mixed Try.func85 rfl (by kernel_rfl : Fits Try.prog E85.ref E85.dep Try.f85 = true) this
  · cases hr
theorem good85 : GoodV 85 := fun _ _ h => by simp [SV] at h
end Go.Proofs.Ythkiklpcglogpaa.ZRat
namespace Go.Proofs.Ythkiklpcglogpaa.ZRat
open Go.RowKit Go.Proofs.Ythkiklpcglogpaa.Wd
open Go Go.Proofs.Ythkiklpcglogpaa.Ab Go.Proofs
set_option linter.unusedSimpArgs false
set_option linter.unusedVariables false
set_option maxHeartbeats 4000000
set_option maxRecDepth 10000
noncomputable def E87 : Env := mkE [] [] [(3, [0, 1, 2, 7, 8, 12, 13])] []
theorem n87_ls (A : List Int) (C : List Int) (tl : List Int) (r : (Bool × List Int)) (k : Nat) : (∀ (x0 : List Int) (x1 : List Int) (x2 : Int) (x7 : Int) (x8 : Int) (x12 : Int) (x13 : Int), nat_off.l0 k x0 x1 x2 x7 x8 x12 x13 = some r → AEnds E87 (finR Try.prog Try.f87.results) 2 (atLoop Try.f87 3) ⟨fr 52 [(0, .own 0 A.length x0.length 1), (1, .own 1 0 x1.length 1), (2, (.int .u64 x2)), (7, (.int .u64 x7)), (8, (.int .u64 x8)), (12, (.int .i64 x12)), (13, (.int .i64 x13))], [.arr ((A ++ x0 ++ C).map (.int .u32)), .arr ((x1 ++ tl).map (.int .u32))], [false, false]⟩ (.bool r.1, [.arr (A.map (.int .u32) ++ (r.2.map (.int .u32) ++ C.map (.int .u32))), .arr (x1.map (.int .u32) ++ tl.map (.int .u32))], [false, false])) := by
  induction k using Nat.strongRecOn with
  | _ k ih =>
  intro x0 x1 x2 x7 x8 x12 x13 h
  cases k with
  | zero => simp [nat_off.l0] at h
  | succ k1 =>
  simp only [nat_off.l0] at h
  simp only [Try.f87, atLoop, seek, firstR, reduceIte, Option.getD_some, Nat.reduceEqDiff]
  rcases ite_some h with ⟨c2, h⟩ | ⟨c2, h⟩
  · rcases ite_some h with ⟨c3, h⟩ | ⟨c3, h⟩
    · rcases ite_some h with ⟨c4, h⟩ | ⟨c4, h⟩
      · rcases ite_some h with ⟨c5, h⟩ | ⟨c5, h⟩
        · simp (maxSteps := 2000000) (disch := (first | omega | (simp only [List.length_append, List.length_map, List.length_cons, List.length_nil, List.length_set, List.length_replicate, List.length_take, List.size_toArray]; omega))) [E87, c2, c3, c4, c5]
          refine AEnds.againS ((ih k1 (by omega)) _ _ _ _ _ _ _  h) ?_
          simp only [E87, firstR, mk_keep, keepT, List.find?, Nat.reduceBEq, Option.map_some, Option.getD_some]
          simp (maxSteps := 2000000) (disch := (first | omega | (simp only [List.length_append, List.length_map, List.length_cons, List.length_nil, List.length_set, List.length_replicate, List.length_take, List.size_toArray]; omega))) [E87, c2, c3, c4, c5]
          try omega
        · cases h
      · cases h
    · rcases ite_some h with ⟨c6, h⟩ | ⟨c6, h⟩
      · rcases ite_some h with ⟨c7, h⟩ | ⟨c7, h⟩
        · simp (maxSteps := 2000000) (disch := (first | omega | (simp only [List.length_append, List.length_map, List.length_cons, List.length_nil, List.length_set, List.length_replicate, List.length_take, List.size_toArray]; omega))) [E87, c2, c3, c6, c7]
          refine AEnds.againS ((ih k1 (by omega)) _ _ _ _ _ _ _  h) ?_
          simp only [E87, firstR, mk_keep, keepT, List.find?, Nat.reduceBEq, Option.map_some, Option.getD_some]
          simp (maxSteps := 2000000) (disch := (first | omega | (simp only [List.length_append, List.length_map, List.length_cons, List.length_nil, List.length_set, List.length_replicate, List.length_take, List.size_toArray]; omega))) [E87, c2, c3, c6, c7]
          try omega
        · cases h
      · cases h
  · obtain rfl := Option.some.inj h
    simp (maxSteps := 2000000) (disch := (first | omega | (simp only [List.length_append, List.length_map, List.length_cons, List.length_nil, List.length_set, List.length_replicate, List.length_take, List.size_toArray]; omega))) [E87, c2]
    try omega
theorem n87_run (A : List Int) (C : List Int) (tl : List Int) (k : Nat) (l0 : List Int) (l1 : List Int) (a2 : Int) (r : (Bool × List Int)) (h : nat_off.f k l0 l1 a2 = some r) : AEnds E87 (finR Try.prog Try.f87.results) 2 [.code (Try.f87.body.getD .skip)] (startA Try.f87 [(.own 0 A.length l0.length 1), (.own 1 0 l1.length 1), (.int .u64 a2)] [.arr ((A ++ l0 ++ C).map (.int .u32)), .arr ((l1 ++ tl).map (.int .u32))] [false, false]) (.bool r.1, [.arr (A.map (.int .u32) ++ (r.2.map (.int .u32) ++ C.map (.int .u32))), .arr (l1.map (.int .u32) ++ tl.map (.int .u32))], [false, false]) := by
  unfold nat_off.f at h
  simp only [Try.f87, Option.getD_some, startA]
  simp (maxSteps := 2000000) (disch := (first | omega | (simp only [List.length_append, List.length_map, List.length_cons, List.length_nil, List.length_set, List.length_replicate, List.length_take, List.size_toArray]; omega))) [E87]
  refine AEnds.loopS ((n87_ls A C tl _ _) _ _ _ _ _ _ _  h) ?_
  simp only [E87, firstR, mk_keep, keepT, List.find?, Nat.reduceBEq, Option.map_some, Option.getD_some]
  simp (maxSteps := 2000000) (disch := (first | omega | (simp only [List.length_append, List.length_map, List.length_cons, List.length_nil, List.length_set, List.length_replicate, List.length_take, List.size_toArray]; omega))) [E87]
  try omega
theorem win3off (u : List Int) (o n : Nat) : u.take o ++ (u.drop o).take n ++ u.drop (o + n) = u := by
  rw [List.append_assoc, ← List.drop_drop, List.take_append_drop, List.take_append_drop]
theorem goodR87 : GoodR 87 := by
  intro xs h z v h' z' hr
  simp only [SR] at hr
  unfold SR87 at hr
  split at hr
  · rename_i o n m q cs ds
    obtain ⟨u, hu, hr⟩ := Option.bind_eq_some_iff.1 hr
    obtain ⟨x, hx, hr⟩ := Option.bind_eq_some_iff.1 hr
    split at hr
    · rename_i hn
      obtain ⟨p, hp, e⟩ := Option.map_eq_some_iff.1 hr
      obtain ⟨k, hk⟩ := of_pick hp
      have := n87_run (u.take o) (u.drop (o + n)) (x.drop m) k ((u.drop o).take n) (x.take m) q p hk
      rw [← List.map_append (l₁ := x.take m), List.take_append_drop, win3off u o n, List.length_take, Nat.min_eq_left (by omega), List.length_take, List.length_drop, Nat.min_eq_left (by omega), List.length_take, Nat.min_eq_left (by omega), ← unC_eq hu, ← unC_eq hx, e] at this
      exact okR_ends (mkE_ok all_nil all_nil) mixed Try.func87 rfl (by kernel_rfl : Fits Try.prog E87.ref E87.dep Try.f87 = true) this
    · cases hr
  · cases hr
theorem good87 : GoodV 87 := fun _ _ h => by simp [SV] at h
end Go.Proofs.Ythkiklpcglogpaa.ZRat
namespace Go.Proofs.Ythkiklpcglogpaa.ZRat
open Go.RowKit Go.Proofs.Ythkiklpcglogpaa.Wd
open Go Go.Proofs.Ythkiklpcglogpaa.Ab Go.Proofs
set_option linter.unusedSimpArgs false
set_option linter.unusedVariables false
set_option maxHeartbeats 4000000
set_option maxRecDepth 10000
noncomputable def E88 : Env := mkE [] [] [(2, [0, 1, 4, 7, 8])] []
theorem n88_ls (A : List Int) (C : List Int) (tl : List Int) (r : (List Int)) (k : Nat) : (∀ (x0 : List Int) (x1 : List Int) (x4 : Int) (x7 : Int) (x8 : Int), nat_back.l0 k x0 x1 x4 x7 x8 = some r → AEnds E88 (finR Try.prog Try.f88.results) 2 (atLoop Try.f88 2) ⟨fr 37 [(0, .own 0 A.length x0.length 1), (1, .own 1 0 x1.length 1), (4, (.int .u64 x4)), (7, (.int .i64 x7)), (8, (.int .i64 x8))], [.arr ((A ++ x0 ++ C).map (.int .u32)), .arr ((x1 ++ tl).map (.int .u32))], [false, false]⟩ (.tup [], [.arr (A.map (.int .u32) ++ (r.map (.int .u32) ++ C.map (.int .u32))), .arr (x1.map (.int .u32) ++ tl.map (.int .u32))], [false, false])) := by
  induction k using Nat.strongRecOn with
  | _ k ih =>
  intro x0 x1 x4 x7 x8 h
  cases k with
  | zero => simp [nat_back.l0] at h
  | succ k1 =>
  simp only [nat_back.l0] at h
  simp only [Try.f88, atLoop, seek, firstR, reduceIte, Option.getD_some, Nat.reduceEqDiff]
  rcases ite_some h with ⟨c2, h⟩ | ⟨c2, h⟩
  · rcases ite_some h with ⟨c3, h⟩ | ⟨c3, h⟩
    · rcases ite_some h with ⟨c4, h⟩ | ⟨c4, h⟩
      · rcases ite_some h with ⟨c5, h⟩ | ⟨c5, h⟩
        · simp (maxSteps := 2000000) (disch := (first | omega | (simp only [List.length_append, List.length_map, List.length_cons, List.length_nil, List.length_set, List.length_replicate, List.length_take, List.size_toArray]; omega))) [E88, c2, c3, c4, c5]
          refine AEnds.againS ((ih k1 (by omega)) _ _ _ _ _  h) ?_
          simp only [E88, firstR, mk_keep, keepT, List.find?, Nat.reduceBEq, Option.map_some, Option.getD_some]
          simp (maxSteps := 2000000) (disch := (first | omega | (simp only [List.length_append, List.length_map, List.length_cons, List.length_nil, List.length_set, List.length_replicate, List.length_take, List.size_toArray]; omega))) [E88, c2, c3, c4, c5]
          try omega
        · simp (maxSteps := 2000000) (disch := (first | omega | (simp only [List.length_append, List.length_map, List.length_cons, List.length_nil, List.length_set, List.length_replicate, List.length_take, List.size_toArray]; omega))) [E88, c2, c3, c4, c5]
          refine AEnds.againS ((ih k1 (by omega)) _ _ _ _ _  h) ?_
          simp only [E88, firstR, mk_keep, keepT, List.find?, Nat.reduceBEq, Option.map_some, Option.getD_some]
          simp (maxSteps := 2000000) (disch := (first | omega | (simp only [List.length_append, List.length_map, List.length_cons, List.length_nil, List.length_set, List.length_replicate, List.length_take, List.size_toArray]; omega))) [E88, c2, c3, c4, c5]
          try omega
      · cases h
    · cases h
  · obtain rfl := Option.some.inj h
    simp (maxSteps := 2000000) (disch := (first | omega | (simp only [List.length_append, List.length_map, List.length_cons, List.length_nil, List.length_set, List.length_replicate, List.length_take, List.size_toArray]; omega))) [E88, c2]
    try omega
theorem n88_run (A : List Int) (C : List Int) (tl : List Int) (k : Nat) (l0 : List Int) (l1 : List Int) (r : (List Int)) (h : nat_back.f k l0 l1 = some r) : AEnds E88 (finR Try.prog Try.f88.results) 2 [.code (Try.f88.body.getD .skip)] (startA Try.f88 [(.own 0 A.length l0.length 1), (.own 1 0 l1.length 1)] [.arr ((A ++ l0 ++ C).map (.int .u32)), .arr ((l1 ++ tl).map (.int .u32))] [false, false]) (.tup [], [.arr (A.map (.int .u32) ++ (r.map (.int .u32) ++ C.map (.int .u32))), .arr (l1.map (.int .u32) ++ tl.map (.int .u32))], [false, false]) := by
  unfold nat_back.f at h
  simp only [Try.f88, Option.getD_some, startA]
  simp (maxSteps := 2000000) (disch := (first | omega | (simp only [List.length_append, List.length_map, List.length_cons, List.length_nil, List.length_set, List.length_replicate, List.length_take, List.size_toArray]; omega))) [E88]
  refine AEnds.loopS ((n88_ls A C tl _ _) _ _ _ _ _  h) ?_
  simp only [E88, firstR, mk_keep, keepT, List.find?, Nat.reduceBEq, Option.map_some, Option.getD_some]
  simp (maxSteps := 2000000) (disch := (first | omega | (simp only [List.length_append, List.length_map, List.length_cons, List.length_nil, List.length_set, List.length_replicate, List.length_take, List.size_toArray]; omega))) [E88]
  try omega
theorem win3back (u : List Int) (o n : Nat) : u.take o ++ (u.drop o).take n ++ u.drop (o + n) = u := by
  rw [List.append_assoc, ← List.drop_drop, List.take_append_drop, List.take_append_drop]
theorem goodR88 : GoodR 88 := by
  intro xs h z v h' z' hr
  simp only [SR] at hr
  unfold SR88 at hr
  split at hr
  · rename_i o n m cs ds
    obtain ⟨u, hu, hr⟩ := Option.bind_eq_some_iff.1 hr
    obtain ⟨x, hx, hr⟩ := Option.bind_eq_some_iff.1 hr
    split at hr
    · rename_i hn
      obtain ⟨p, hp, e⟩ := Option.map_eq_some_iff.1 hr
      obtain ⟨k, hk⟩ := of_pick hp
      have := n88_run (u.take o) (u.drop (o + n)) (x.drop m) k ((u.drop o).take n) (x.take m) p hk
      rw [← List.map_append (l₁ := x.take m), List.take_append_drop, win3back u o n, List.length_take, Nat.min_eq_left (by omega), List.length_take, List.length_drop, Nat.min_eq_left (by omega), List.length_take, Nat.min_eq_left (by omega), ← unC_eq hu, ← unC_eq hx, e] at this
      exact okR_ends (mkE_ok all_nil all_nil) mixed Try.func88 rfl (by kernel_rfl : Fits Try.prog E88.ref E88.dep Try.f88 = true) this
    · cases hr
  · cases hr
theorem good88 : GoodV 88 := fun _ _ h => by simp [SV] at h
end Go.Proofs.Ythkiklpcglogpaa.ZRat
namespace Go.Proofs.Ythkiklpcglogpaa.ZRat
open Go.RowKit Go.Proofs.Ythkiklpcglogpaa.Wd
open Go Go.Proofs.Ythkiklpcglogpaa.Ab Go.Proofs
set_option linter.unusedSimpArgs false
set_option linter.unusedVariables false
set_option maxHeartbeats 4000000
set_option maxRecDepth 10000
noncomputable def E54 : Env := mkE [] [61] [(6, [1, 5, 6, 20, 21, 22])] []
theorem n54_ls (r : (List Int)) (k : Nat) : (∀ (x1 : List Int) (x5 : List Int) (x6 : Int) (x20 : List Int) (x21 : Int) (x22 : Int), nat_Add.l0 k x1 x5 x6 x20 x21 x22 = some r → AEnds E54 (finW Try.prog Try.f54.results) 0 (atLoop Try.f54 6) ⟨fr 56 [(1, (rowI .u32 x1)), (5, .own 0 0 x5.length 1), (6, (.int .u64 x6)), (20, (rowI .u32 x20)), (21, (.int .i64 x21)), (22, (.int .i64 x22))], [.arr ((x5).map (.int .u32))], [false]⟩ (rowI .u32 r)) := by
  induction k using Nat.strongRecOn with
  | _ k ih =>
  intro x1 x5 x6 x20 x21 x22 h
  cases k with
  | zero => simp [nat_Add.l0] at h
  | succ k1 =>
  simp only [nat_Add.l0] at h
  simp only [Try.f54, atLoop, seek, firstR, reduceIte, Option.getD_some, Nat.reduceEqDiff]
  rcases ite_some h with ⟨c2, h⟩ | ⟨c2, h⟩
  · rcases ite_some h with ⟨c3, h⟩ | ⟨c3, h⟩
    · rcases ite_some h with ⟨c4, h⟩ | ⟨c4, h⟩
      · rcases ite_some h with ⟨c5, h⟩ | ⟨c5, h⟩
        · rcases ite_some h with ⟨c6, h⟩ | ⟨c6, h⟩
          · simp (maxSteps := 2000000) (disch := (first | omega | (simp only [List.length_append, List.length_map, List.length_cons, List.length_nil, List.length_set, List.length_replicate, List.length_take, List.size_toArray]; omega))) [E54, c2, c3, c4, c5, c6]
            refine AEnds.againS ((ih k1 (by omega)) _ _ _ _ _ _  h) ?_
            simp only [E54, firstR, mk_keep, keepT, List.find?, Nat.reduceBEq, Option.map_some, Option.getD_some]
            simp (maxSteps := 2000000) (disch := (first | omega | (simp only [List.length_append, List.length_map, List.length_cons, List.length_nil, List.length_set, List.length_replicate, List.length_take, List.size_toArray]; omega))) [E54, c2, c3, c4, c5, c6]
            try omega
          · cases h
        · rcases ite_some h with ⟨c7, h⟩ | ⟨c7, h⟩
          · simp (maxSteps := 2000000) (disch := (first | omega | (simp only [List.length_append, List.length_map, List.length_cons, List.length_nil, List.length_set, List.length_replicate, List.length_take, List.size_toArray]; omega))) [E54, c2, c3, c4, c5, c7]
            refine AEnds.againS ((ih k1 (by omega)) _ _ _ _ _ _  h) ?_
            simp only [E54, firstR, mk_keep, keepT, List.find?, Nat.reduceBEq, Option.map_some, Option.getD_some]
            simp (maxSteps := 2000000) (disch := (first | omega | (simp only [List.length_append, List.length_map, List.length_cons, List.length_nil, List.length_set, List.length_replicate, List.length_take, List.size_toArray]; omega))) [E54, c2, c3, c4, c5, c7]
            try omega
          · cases h
      · cases h
    · cases h
  · rcases ite_some h with ⟨c8, h⟩ | ⟨c8, h⟩
    · obtain ⟨t9, e10, h⟩ := Option.bind_eq_some_iff.1 h
      have p11 := pick_of (fun k r h => nat_trim.mono _  k r h) e10
      obtain rfl := Option.some.inj h
      simp (maxSteps := 2000000) (disch := (first | omega | (simp only [List.length_append, List.length_map, List.length_cons, List.length_nil, List.length_set, List.length_replicate, List.length_take, List.size_toArray]; omega))) [E54, c2, c8, p11]
      try omega
    · cases h
theorem n54_run (k : Nat) (l0 : List Int) (l1 : List Int) (r : (List Int)) (h : nat_Add.f k l0 l1 = some r) : AEnds E54 (finW Try.prog Try.f54.results) 0 [.code (Try.f54.body.getD .skip)] (startA Try.f54 [(rowI .u32 l0), (rowI .u32 l1)] [] []) (rowI .u32 r) := by
  unfold nat_Add.f at h
  simp only [Try.f54, Option.getD_some, startA]
  rcases ite_some h with ⟨c12, h⟩ | ⟨c12, h⟩
  · cases k with
    | zero => simp [nat_Add.j0] at h
    | succ k13 =>
    simp only [nat_Add.j0] at h
    rcases ite_some h with ⟨c14, h⟩ | ⟨c14, h⟩
    · rcases ite_some h with ⟨c15, h⟩ | ⟨c15, h⟩
      · simp (maxSteps := 2000000) (disch := (first | omega | (simp only [List.length_append, List.length_map, List.length_cons, List.length_nil, List.length_set, List.length_replicate, List.length_take, List.size_toArray]; omega))) [E54, c12, c14, c15]
        refine AEnds.loopS ((n54_ls _ _) _ _ _ _ _ _  h) ?_
        simp only [E54, firstR, mk_keep, keepT, List.find?, Nat.reduceBEq, Option.map_some, Option.getD_some]
        simp (maxSteps := 2000000) (disch := (first | omega | (simp only [List.length_append, List.length_map, List.length_cons, List.length_nil, List.length_set, List.length_replicate, List.length_take, List.size_toArray]; omega))) [E54, c12, c14, c15]
        try omega
      · cases h
    · cases h
  · cases k with
    | zero => simp [nat_Add.j0] at h
    | succ k16 =>
    simp only [nat_Add.j0] at h
    rcases ite_some h with ⟨c17, h⟩ | ⟨c17, h⟩
    · rcases ite_some h with ⟨c18, h⟩ | ⟨c18, h⟩
      · simp (maxSteps := 2000000) (disch := (first | omega | (simp only [List.length_append, List.length_map, List.length_cons, List.length_nil, List.length_set, List.length_replicate, List.length_take, List.size_toArray]; omega))) [E54, c12, c17, c18]
        refine AEnds.loopS ((n54_ls _ _) _ _ _ _ _ _  h) ?_
        simp only [E54, firstR, mk_keep, keepT, List.find?, Nat.reduceBEq, Option.map_some, Option.getD_some]
        simp (maxSteps := 2000000) (disch := (first | omega | (simp only [List.length_append, List.length_map, List.length_cons, List.length_nil, List.length_set, List.length_replicate, List.length_take, List.size_toArray]; omega))) [E54, c12, c17, c18]
        try omega
      · cases h
    · cases h
theorem fit54 : Fits Try.prog E54.ref E54.dep Try.f54 = true := by kernel_rfl
theorem good54 : GoodV 54 := by
  intro xs r h
  simp only [SV] at h
  unfold SV54 at h
  split at h
  · obtain ⟨a0, h0, h⟩ := Option.bind_eq_some_iff.1 h
    obtain ⟨a1, h1, h⟩ := Option.bind_eq_some_iff.1 h
    obtain ⟨q, hq, rfl⟩ := Option.map_eq_some_iff.1 h
    obtain ⟨k, hk⟩ := of_pick hq
    obtain rfl := unI_eq h0
    obtain rfl := unI_eq h1
    exact okW_ends (mkE_ok (all_cons good61 all_nil) (all_cons goodR61 all_nil)) mixed Try.func54 rfl fit54 (n54_run k _ _  _ hk)
  · cases h
theorem goodR54 : GoodR 54 := fun _ _ _ _ _ _ h => by simp [SR] at h
end Go.Proofs.Ythkiklpcglogpaa.ZRat
namespace Go.Proofs.Ythkiklpcglogpaa.ZRat
open Go.RowKit Go.Proofs.Ythkiklpcglogpaa.Wd
open Go Go.Proofs.Ythkiklpcglogpaa.Ab Go.Proofs
set_option linter.unusedSimpArgs false
set_option linter.unusedVariables false
set_option maxHeartbeats 4000000
set_option maxRecDepth 10000
noncomputable def E89 : Env := mkE [] [61] [(4, [1, 5, 6, 13, 14, 15])] []
theorem n89_ls (r : (List Int)) (k : Nat) : (∀ (x1 : List Int) (x5 : List Int) (x6 : Int) (x13 : List Int) (x14 : Int) (x15 : Int), nat_sub.l0 k x1 x5 x6 x13 x14 x15 = some r → AEnds E89 (finW Try.prog Try.f89.results) 0 (atLoop Try.f89 4) ⟨fr 45 [(1, (rowI .u32 x1)), (5, .own 0 0 x5.length 1), (6, (.int .u64 x6)), (13, (rowI .u32 x13)), (14, (.int .i64 x14)), (15, (.int .i64 x15))], [.arr ((x5).map (.int .u32))], [false]⟩ (rowI .u32 r)) := by
  induction k using Nat.strongRecOn with
  | _ k ih =>
  intro x1 x5 x6 x13 x14 x15 h
  cases k with
  | zero => simp [nat_sub.l0] at h
  | succ k1 =>
  simp only [nat_sub.l0] at h
  simp only [Try.f89, atLoop, seek, firstR, reduceIte, Option.getD_some, Nat.reduceEqDiff]
  rcases ite_some h with ⟨c2, h⟩ | ⟨c2, h⟩
  · rcases ite_some h with ⟨c3, h⟩ | ⟨c3, h⟩
    · rcases ite_some h with ⟨c4, h⟩ | ⟨c4, h⟩
      · rcases ite_some h with ⟨c5, h⟩ | ⟨c5, h⟩
        · rcases ite_some h with ⟨c6, h⟩ | ⟨c6, h⟩
          · simp (maxSteps := 2000000) (disch := (first | omega | (simp only [List.length_append, List.length_map, List.length_cons, List.length_nil, List.length_set, List.length_replicate, List.length_take, List.size_toArray]; omega))) [E89, c2, c3, c4, c5, c6]
            refine AEnds.againS ((ih k1 (by omega)) _ _ _ _ _ _  h) ?_
            simp only [E89, firstR, mk_keep, keepT, List.find?, Nat.reduceBEq, Option.map_some, Option.getD_some]
            simp (maxSteps := 2000000) (disch := (first | omega | (simp only [List.length_append, List.length_map, List.length_cons, List.length_nil, List.length_set, List.length_replicate, List.length_take, List.size_toArray]; omega))) [E89, c2, c3, c4, c5, c6]
            try omega
          · cases h
        · rcases ite_some h with ⟨c7, h⟩ | ⟨c7, h⟩
          · simp (maxSteps := 2000000) (disch := (first | omega | (simp only [List.length_append, List.length_map, List.length_cons, List.length_nil, List.length_set, List.length_replicate, List.length_take, List.size_toArray]; omega))) [E89, c2, c3, c4, c5, c7]
            refine AEnds.againS ((ih k1 (by omega)) _ _ _ _ _ _  h) ?_
            simp only [E89, firstR, mk_keep, keepT, List.find?, Nat.reduceBEq, Option.map_some, Option.getD_some]
            simp (maxSteps := 2000000) (disch := (first | omega | (simp only [List.length_append, List.length_map, List.length_cons, List.length_nil, List.length_set, List.length_replicate, List.length_take, List.size_toArray]; omega))) [E89, c2, c3, c4, c5, c7]
            try omega
          · cases h
      · cases h
    · cases h
  · obtain ⟨t8, e9, h⟩ := Option.bind_eq_some_iff.1 h
    have p10 := pick_of (fun k r h => nat_trim.mono _  k r h) e9
    obtain rfl := Option.some.inj h
    simp (maxSteps := 2000000) (disch := (first | omega | (simp only [List.length_append, List.length_map, List.length_cons, List.length_nil, List.length_set, List.length_replicate, List.length_take, List.size_toArray]; omega))) [E89, c2, p10]
    try omega
theorem n89_run (k : Nat) (l0 : List Int) (l1 : List Int) (r : (List Int)) (h : nat_sub.f k l0 l1 = some r) : AEnds E89 (finW Try.prog Try.f89.results) 0 [.code (Try.f89.body.getD .skip)] (startA Try.f89 [(rowI .u32 l0), (rowI .u32 l1)] [] []) (rowI .u32 r) := by
  unfold nat_sub.f at h
  simp only [Try.f89, Option.getD_some, startA]
  rcases ite_some h with ⟨c11, h⟩ | ⟨c11, h⟩
  · rcases ite_some h with ⟨c12, h⟩ | ⟨c12, h⟩
    · simp (maxSteps := 2000000) (disch := (first | omega | (simp only [List.length_append, List.length_map, List.length_cons, List.length_nil, List.length_set, List.length_replicate, List.length_take, List.size_toArray]; omega))) [E89, c11, c12]
      refine AEnds.loopS ((n89_ls _ _) _ _ _ _ _ _  h) ?_
      simp only [E89, firstR, mk_keep, keepT, List.find?, Nat.reduceBEq, Option.map_some, Option.getD_some]
      simp (maxSteps := 2000000) (disch := (first | omega | (simp only [List.length_append, List.length_map, List.length_cons, List.length_nil, List.length_set, List.length_replicate, List.length_take, List.size_toArray]; omega))) [E89, c11, c12]
      try omega
    · cases h
  · cases h
theorem fit89 : Fits Try.prog E89.ref E89.dep Try.f89 = true := by kernel_rfl
theorem good89 : GoodV 89 := by
  intro xs r h
  simp only [SV] at h
  unfold SV89 at h
  split at h
  · obtain ⟨a0, h0, h⟩ := Option.bind_eq_some_iff.1 h
    obtain ⟨a1, h1, h⟩ := Option.bind_eq_some_iff.1 h
    obtain ⟨q, hq, rfl⟩ := Option.map_eq_some_iff.1 h
    obtain ⟨k, hk⟩ := of_pick hq
    obtain rfl := unI_eq h0
    obtain rfl := unI_eq h1
    exact okW_ends (mkE_ok (all_cons good61 all_nil) (all_cons goodR61 all_nil)) mixed Try.func89 rfl fit89 (n89_run k _ _  _ hk)
  · cases h
theorem goodR89 : GoodR 89 := fun _ _ _ _ _ _ h => by simp [SR] at h
end Go.Proofs.Ythkiklpcglogpaa.ZRat
namespace Go.Proofs.Ythkiklpcglogpaa.ZRat
open Go.RowKit Go.Proofs.Ythkiklpcglogpaa.Wd
open Go Go.Proofs.Ythkiklpcglogpaa.Ab Go.Proofs
set_option linter.unusedSimpArgs false
set_option linter.unusedVariables false
set_option maxHeartbeats 4000000
set_option maxRecDepth 10000
noncomputable def E80 : Env := mkE [] [56, 61, 89] [] []
theorem n80_run (k : Nat) (l0 : List Int) (l1 : List Int) (r : (List Int × Bool)) (h : nat_Sub.f k l0 l1 = some r) : AEnds E80 (finW Try.prog Try.f80.results) 0 [.code (Try.f80.body.getD .skip)] (startA Try.f80 [(rowI .u32 l0), (rowI .u32 l1)] [] []) (.tup [(rowI .u32 r.1), (.bool r.2)]) := by
  unfold nat_Sub.f at h
  simp only [Try.f80, Option.getD_some, startA]
  obtain ⟨t1, e2, h⟩ := Option.bind_eq_some_iff.1 h
  have p3 := pick_of (fun k r h => nat_trim.mono _  k r h) e2
  obtain ⟨t4, e5, h⟩ := Option.bind_eq_some_iff.1 h
  have p6 := pick_of (fun k r h => nat_cmp.mono _ _  k r h) e5
  rcases ite_some h with ⟨c7, h⟩ | ⟨c7, h⟩
  · obtain rfl := Option.some.inj h
    simp (maxSteps := 2000000) (disch := (first | omega | (simp only [List.length_append, List.length_map, List.length_cons, List.length_nil, List.length_set, List.length_replicate, List.length_take, List.size_toArray]; omega))) [E80, p3, p6, c7]
    try omega
  · obtain ⟨t8, e9, h⟩ := Option.bind_eq_some_iff.1 h
    have p10 := pick_of (fun k r h => nat_sub.mono _ _  k r h) e9
    obtain rfl := Option.some.inj h
    simp (maxSteps := 2000000) (disch := (first | omega | (simp only [List.length_append, List.length_map, List.length_cons, List.length_nil, List.length_set, List.length_replicate, List.length_take, List.size_toArray]; omega))) [E80, p3, p6, c7, p10]
    try omega
theorem fit80 : Fits Try.prog E80.ref E80.dep Try.f80 = true := by kernel_rfl
theorem good80 : GoodV 80 := by
  intro xs r h
  simp only [SV] at h
  unfold SV80 at h
  split at h
  · obtain ⟨a0, h0, h⟩ := Option.bind_eq_some_iff.1 h
    obtain ⟨a1, h1, h⟩ := Option.bind_eq_some_iff.1 h
    obtain ⟨q, hq, rfl⟩ := Option.map_eq_some_iff.1 h
    obtain ⟨k, hk⟩ := of_pick hq
    obtain rfl := unI_eq h0
    obtain rfl := unI_eq h1
    exact okW_ends (mkE_ok (all_cons good56 (all_cons good61 (all_cons good89 all_nil))) (all_cons goodR56 (all_cons goodR61 (all_cons goodR89 all_nil)))) mixed Try.func80 rfl fit80 (n80_run k _ _  _ hk)
  · cases h
theorem goodR80 : GoodR 80 := fun _ _ _ _ _ _ h => by simp [SR] at h
end Go.Proofs.Ythkiklpcglogpaa.ZRat
namespace Go.Proofs.Ythkiklpcglogpaa.ZRat
open Go.RowKit Go.Proofs.Ythkiklpcglogpaa.Wd
open Go Go.Proofs.Ythkiklpcglogpaa.Ab Go.Proofs
set_option linter.unusedSimpArgs false
set_option linter.unusedVariables false
set_option maxHeartbeats 4000000
set_option maxRecDepth 10000
noncomputable def E41 : Env := mkE [] [60, 61] [] []
theorem n41_run (k : Nat) (l0 : List Int) (r : (List Int)) (h : nat_Trim.f k l0 = some r) : AEnds E41 (finW Try.prog Try.f41.results) 0 [.code (Try.f41.body.getD .skip)] (startA Try.f41 [(rowI .u32 l0)] [] []) (rowI .u32 r) := by
  unfold nat_Trim.f at h
  simp only [Try.f41, Option.getD_some, startA]
  obtain ⟨t1, e2, h⟩ := Option.bind_eq_some_iff.1 h
  have p3 := pick_of (fun k r h => nat_trim.mono _  k r h) e2
  obtain ⟨t4, e5, h⟩ := Option.bind_eq_some_iff.1 h
  obtain rfl := Option.some.inj h
  simp (maxSteps := 2000000) (disch := (first | omega | (simp only [List.length_append, List.length_map, List.length_cons, List.length_nil, List.length_set, List.length_replicate, List.length_take, List.size_toArray]; omega))) [E41, p3, e5]
  try omega
theorem fit41 : Fits Try.prog E41.ref E41.dep Try.f41 = true := by kernel_rfl
theorem good41 : GoodV 41 := by
  intro xs r h
  simp only [SV] at h
  unfold SV41 at h
  split at h
  · obtain ⟨a0, h0, h⟩ := Option.bind_eq_some_iff.1 h
    obtain ⟨q, hq, rfl⟩ := Option.map_eq_some_iff.1 h
    obtain ⟨k, hk⟩ := of_pick hq
    obtain rfl := unI_eq h0
    exact okW_ends (mkE_ok (all_cons good60 (all_cons good61 all_nil)) (all_cons goodR60 (all_cons goodR61 all_nil))) mixed Try.func41 rfl fit41 (n41_run k _  _ hk)
  · cases h
theorem goodR41 : GoodR 41 := fun _ _ _ _ _ _ h => by simp [SR] at h
end Go.Proofs.Ythkiklpcglogpaa.ZRat
namespace Go.Proofs.Ythkiklpcglogpaa.ZRat
open Go.RowKit Go.Proofs.Ythkiklpcglogpaa.Wd
open Go Go.Proofs.Ythkiklpcglogpaa.Ab Go.Proofs
set_option linter.unusedSimpArgs false
set_option linter.unusedVariables false
set_option maxHeartbeats 4000000
set_option maxRecDepth 10000
noncomputable def E78 : Env := mkE [61, 85, 87, 88] [61, 84, 85, 86, 87, 88] [(7, [6, 7, 8, 9, 10, 11, 12, 13]), (18, [6, 10, 16, 17, 18])] []
theorem n78_ls (r : (List Int × List Int)) (k : Nat) : (∀ (tl : List Int) (x6 : Int) (x7 : List Int) (x8 : List Int) (x9 : Int) (x10 : List Int) (x11 : Int) (x12 : Int) (x13 : Int), nat_long.l0 k x6 x7 x8 x9 x10 x11 x12 x13 = some r → AEnds E78 (finW Try.prog Try.f78.results) 0 (atLoop Try.f78 7) ⟨fr 112 [(6, (.int .i64 x6)), (7, .own 0 0 x7.length 1), (8, .own 1 0 x8.length 1), (9, (.int .i64 x9)), (10, .own 2 0 x10.length 1), (11, (.int .u64 x11)), (12, (.int .u64 x12)), (13, (.int .i64 x13))], [.arr ((x7).map (.int .u32)), .arr ((x8 ++ tl).map (.int .u32)), .arr ((x10).map (.int .u32))], [false, false, false]⟩ (.tup [(rowI .u32 r.1), (rowI .u32 r.2)])) ∧ (∀ (tl : List Int) (x6 : Int) (x10 : List Int) (x16 : List Int) (x17 : Int) (x18 : Int), nat_long.l1 k x6 x10 x16 x17 x18 = some r → AEnds E78 (finW Try.prog Try.f78.results) 0 (atLoop Try.f78 18) ⟨fr 112 [(6, (.int .i64 x6)), (10, .own 0 0 x10.length 1), (16, .own 1 0 x16.length 1), (17, (.int .u64 x17)), (18, (.int .i64 x18))], [.arr ((x10).map (.int .u32)), .arr ((x16 ++ tl).map (.int .u32))], [false, false]⟩ (.tup [(rowI .u32 r.1), (rowI .u32 r.2)])) := by
  induction k using Nat.strongRecOn with
  | _ k ih =>
  refine ⟨?_, ?_⟩
  · intro tl x6 x7 x8 x9 x10 x11 x12 x13 h
    cases k with
    | zero => simp [nat_long.l0] at h
    | succ k1 =>
    simp only [nat_long.l0] at h
    simp only [Try.f78, atLoop, seek, firstR, reduceIte, Option.getD_some, Nat.reduceEqDiff]
    replace h := ite_some h
    rcases h with ⟨c2, h⟩ | ⟨c2, h⟩
    · replace h := ite_some h
      rcases h with ⟨c3, h⟩ | ⟨c3, h⟩
      · replace h := ite_some h
        rcases h with ⟨c4, h⟩ | ⟨c4, h⟩
        · replace h := ite_some h
          rcases h with ⟨c5, h⟩ | ⟨c5, h⟩
          · replace h := Option.bind_eq_some_iff.1 h
            obtain ⟨t6, e7, h⟩ := h
            have p8 := pick_of (fun k r h => nat_guess.mono _ _ _  k r h) e7
            simp only [List.drop_take] at p8
            replace h := Option.bind_eq_some_iff.1 h
            obtain ⟨t9, e10, h⟩ := h
            obtain ⟨q11a, q11b, q11c, t9b, q11p, q11l, rfl⟩ := offX_out e10
            have q11e := Nat.add_sub_of_le (Int.toNat_le_toNat (Int.le_of_lt q11b))
            try dsimp only at h
            replace h := ite_some h
            rcases h with ⟨c12, h⟩ | ⟨c12, h⟩
            · replace h := Option.bind_eq_some_iff.1 h
              obtain ⟨t13, e14, h⟩ := h
              obtain ⟨q15a, q15b, q15c, t13b, q15p, q15l, rfl⟩ := backX_out e14
              have q15e := Nat.add_sub_of_le (Int.toNat_le_toNat (Int.le_of_lt q15b))
              try dsimp only at h
              simp (maxSteps := 2000000) (disch := (first | omega | (simp only [List.length_append, List.length_map, List.length_cons, List.length_nil, List.length_set, List.length_replicate, List.length_take, List.size_toArray]; omega))) [E78, c2, c3, c4, c5, p8, q11p, q11l, q11e, c12, q15e] at q15p
              replace h := ite_some h
              rcases h with ⟨c16, h⟩ | ⟨c16, h⟩
              · simp (maxSteps := 2000000) (disch := (first | omega | (simp only [List.length_append, List.length_map, List.length_cons, List.length_nil, List.length_set, List.length_replicate, List.length_take, List.size_toArray]; omega))) [E78, c2, c3, c4, c5, p8, q11p, q11l, q11e, c12, q15p, q15l, q15e, c16]
                refine AEnds.againS ((ih k1 (by omega)).1 tl _ _ _ _ _ _ _ _  h) ?_
                simp only [E78, firstR, mk_keep, keepT, List.find?, Nat.reduceBEq, Option.map_some, Option.getD_some]
                simp (maxSteps := 2000000) (disch := (first | omega | (simp only [List.length_append, List.length_map, List.length_cons, List.length_nil, List.length_set, List.length_replicate, List.length_take, List.size_toArray]; omega))) [E78, c2, c3, c4, c5, p8, q11p, q11l, q11e, c12, q15p, q15l, q15e, c16]
                try omega
              · cases h
            · replace h := ite_some h
              rcases h with ⟨c17, h⟩ | ⟨c17, h⟩
              · simp (maxSteps := 2000000) (disch := (first | omega | (simp only [List.length_append, List.length_map, List.length_cons, List.length_nil, List.length_set, List.length_replicate, List.length_take, List.size_toArray]; omega))) [E78, c2, c3, c4, c5, p8, q11p, q11l, q11e, c12, c17]
                refine AEnds.againS ((ih k1 (by omega)).1 tl _ _ _ _ _ _ _ _  h) ?_
                simp only [E78, firstR, mk_keep, keepT, List.find?, Nat.reduceBEq, Option.map_some, Option.getD_some]
                simp (maxSteps := 2000000) (disch := (first | omega | (simp only [List.length_append, List.length_map, List.length_cons, List.length_nil, List.length_set, List.length_replicate, List.length_take, List.size_toArray]; omega))) [E78, c2, c3, c4, c5, p8, q11p, q11l, q11e, c12, c17]
                try omega
              · cases h
          · cases h
        · cases h
      · cases h
    · replace h := Option.bind_eq_some_iff.1 h
      obtain ⟨t18, e19, h⟩ := h
      have p20 := pick_of (fun k r h => nat_trim.mono _  k r h) e19
      obtain ⟨tlq21, q21⟩ := trim_pre e19
      subst q21
      simp (maxSteps := 2000000) (disch := (first | omega | (simp only [List.length_append, List.length_map, List.length_cons, List.length_nil, List.length_set, List.length_replicate, List.length_take, List.size_toArray]; omega))) [E78, c2, p20]
      refine AEnds.loopS ((ih k1 (by omega)).2 tlq21 _ _ _ _ _  h) ?_
      simp only [E78, firstR, mk_keep, keepT, List.find?, Nat.reduceBEq, Option.map_some, Option.getD_some]
      simp (maxSteps := 2000000) (disch := (first | omega | (simp only [List.length_append, List.length_map, List.length_cons, List.length_nil, List.length_set, List.length_replicate, List.length_take, List.size_toArray]; omega))) [E78, c2, p20]
      try omega
  · intro tl x6 x10 x16 x17 x18 h
    cases k with
    | zero => simp [nat_long.l1] at h
    | succ k22 =>
    simp only [nat_long.l1] at h
    simp only [Try.f78, atLoop, seek, firstR, reduceIte, Option.getD_some, Nat.reduceEqDiff]
    replace h := ite_some h
    rcases h with ⟨c23, h⟩ | ⟨c23, h⟩
    · replace h := ite_some h
      rcases h with ⟨c24, h⟩ | ⟨c24, h⟩
      · replace h := ite_some h
        rcases h with ⟨c25, h⟩ | ⟨c25, h⟩
        · replace h := ite_some h
          rcases h with ⟨c26, h⟩ | ⟨c26, h⟩
          · simp (maxSteps := 2000000) (disch := (first | omega | (simp only [List.length_append, List.length_map, List.length_cons, List.length_nil, List.length_set, List.length_replicate, List.length_take, List.size_toArray]; omega))) [E78, c23, c24, c25, c26]
            refine AEnds.againS ((ih k22 (by omega)).2 tl _ _ _ _ _  h) ?_
            simp only [E78, firstR, mk_keep, keepT, List.find?, Nat.reduceBEq, Option.map_some, Option.getD_some]
            simp (maxSteps := 2000000) (disch := (first | omega | (simp only [List.length_append, List.length_map, List.length_cons, List.length_nil, List.length_set, List.length_replicate, List.length_take, List.size_toArray]; omega))) [E78, c23, c24, c25, c26]
            try omega
          · cases h
        · cases h
      · cases h
    · replace h := Option.bind_eq_some_iff.1 h
      obtain ⟨t27, e28, h⟩ := h
      have p29 := pick_of (fun k r h => nat_trim.mono _  k r h) e28
      obtain ⟨tlq30, q30⟩ := trim_pre e28
      subst q30
      replace h := Option.bind_eq_some_iff.1 h
      obtain ⟨t31, e32, h⟩ := h
      have p33 := pick_of (fun k r h => nat_trim.mono _  k r h) e32
      obtain ⟨tlq34, q34⟩ := trim_pre e32
      subst q34
      obtain rfl := Option.some.inj h
      simp (maxSteps := 2000000) (disch := (first | omega | (simp only [List.length_append, List.length_map, List.length_cons, List.length_nil, List.length_set, List.length_replicate, List.length_take, List.size_toArray]; omega))) [E78, c23, p29, p33]
      try omega
theorem n78_run (k : Nat) (l0 : List Int) (l1 : List Int) (r : (List Int × List Int)) (h : nat_long.f k l0 l1 = some r) : AEnds E78 (finW Try.prog Try.f78.results) 0 [.code (Try.f78.body.getD .skip)] (startA Try.f78 [(rowI .u32 l0), (rowI .u32 l1)] [] []) (.tup [(rowI .u32 r.1), (rowI .u32 r.2)]) := by
  unfold nat_long.f at h
  simp only [Try.f78, Option.getD_some, startA]
  replace h := ite_some h
  rcases h with ⟨c35, h⟩ | ⟨c35, h⟩
  · replace h := ite_some h
    rcases h with ⟨c36, h⟩ | ⟨c36, h⟩
    · replace h := Option.bind_eq_some_iff.1 h
      obtain ⟨t37, e38, h⟩ := h
      replace h := Option.bind_eq_some_iff.1 h
      obtain ⟨t39, e40, h⟩ := h
      have p41 := pick_of (fun k r h => nat_shift.mono _ _  k r h) e40
      replace h := Option.bind_eq_some_iff.1 h
      obtain ⟨t42, e43, h⟩ := h
      have p44 := pick_of (fun k r h => nat_shift.mono _ _  k r h) e43
      replace h := Option.bind_eq_some_iff.1 h
      obtain ⟨t45, e46, h⟩ := h
      have p47 := pick_of (fun k r h => nat_trim.mono _  k r h) e46
      obtain ⟨tlq48, q48⟩ := trim_pre e46
      subst q48
      replace h := ite_some h
      rcases h with ⟨c49, h⟩ | ⟨c49, h⟩
      · replace h := ite_some h
        rcases h with ⟨c50, h⟩ | ⟨c50, h⟩
        · replace h := Option.bind_eq_some_iff.1 h
          obtain ⟨t51, e52, h⟩ := h
          obtain rfl := Option.some.inj e52
          replace h := ite_some h
          rcases h with ⟨c53, h⟩ | ⟨c53, h⟩
          · replace h := ite_some h
            rcases h with ⟨c54, h⟩ | ⟨c54, h⟩
            · replace h := ite_some h
              rcases h with ⟨c55, h⟩ | ⟨c55, h⟩
              · replace h := ite_some h
                rcases h with ⟨c56, h⟩ | ⟨c56, h⟩
                · simp (maxSteps := 2000000) (disch := (first | omega | (simp only [List.length_append, List.length_map, List.length_cons, List.length_nil, List.length_set, List.length_replicate, List.length_take, List.size_toArray]; omega))) [E78, c35, c36, e38, p41, p44, p47, c49, c50, c53, c54, c55, c56]
                  refine AEnds.loopS ((n78_ls _ _).1 tlq48 _ _ _ _ _ _ _ _  h) ?_
                  simp only [E78, firstR, mk_keep, keepT, List.find?, Nat.reduceBEq, Option.map_some, Option.getD_some]
                  simp (maxSteps := 2000000) (disch := (first | omega | (simp only [List.length_append, List.length_map, List.length_cons, List.length_nil, List.length_set, List.length_replicate, List.length_take, List.size_toArray]; omega))) [E78, c35, c36, e38, p41, p44, p47, c49, c50, c53, c54, c55, c56]
                  try omega
                · cases h
              · cases h
            · cases h
          · cases h
        · cases h
      · cases h
    · cases h
  · cases h
theorem fit78 : Fits Try.prog E78.ref E78.dep Try.f78 = true := by kernel_rfl
theorem good78 : GoodV 78 := by
  intro xs r h
  simp only [SV] at h
  unfold SV78 at h
  split at h
  · obtain ⟨a0, h0, h⟩ := Option.bind_eq_some_iff.1 h
    obtain ⟨a1, h1, h⟩ := Option.bind_eq_some_iff.1 h
    obtain ⟨q, hq, rfl⟩ := Option.map_eq_some_iff.1 h
    obtain ⟨k, hk⟩ := of_pick hq
    obtain rfl := unI_eq h0
    obtain rfl := unI_eq h1
    exact okW_ends (mkE_ok (all_cons good61 (all_cons good84 (all_cons good85 (all_cons good86 (all_cons good87 (all_cons good88 all_nil)))))) (all_cons goodR61 (all_cons goodR84 (all_cons goodR85 (all_cons goodR86 (all_cons goodR87 (all_cons goodR88 all_nil))))))) mixed Try.func78 rfl fit78 (n78_run k _ _  _ hk)
  · cases h
theorem goodR78 : GoodR 78 := fun _ _ _ _ _ _ h => by simp [SR] at h
end Go.Proofs.Ythkiklpcglogpaa.ZRat
namespace Go.Proofs.Ythkiklpcglogpaa.ZRat
open Go.RowKit Go.Proofs.Ythkiklpcglogpaa.Wd
open Go Go.Proofs.Ythkiklpcglogpaa.Ab Go.Proofs
set_option linter.unusedSimpArgs false
set_option linter.unusedVariables false
set_option maxHeartbeats 4000000
set_option maxRecDepth 10000
noncomputable def E62 : Env := mkE [60, 71] [56, 60, 61, 71, 78] [] []
theorem n62_run (k : Nat) (l0 : List Int) (l1 : List Int) (r : (List Int × List Int)) (h : nat_divmod.f k l0 l1 = some r) : AEnds E62 (finW Try.prog Try.f62.results) 0 [.code (Try.f62.body.getD .skip)] (startA Try.f62 [(rowI .u32 l0), (rowI .u32 l1)] [] []) (.tup [(rowI .u32 r.1), (rowI .u32 r.2)]) := by
  unfold nat_divmod.f at h
  simp only [Try.f62, Option.getD_some, startA]
  obtain ⟨t1, e2, h⟩ := Option.bind_eq_some_iff.1 h
  have p3 := pick_of (fun k r h => nat_cmp.mono _ _  k r h) e2
  rcases ite_some h with ⟨c4, h⟩ | ⟨c4, h⟩
  · obtain ⟨t5, e6, h⟩ := Option.bind_eq_some_iff.1 h
    obtain rfl := Option.some.inj h
    simp (maxSteps := 2000000) (disch := (first | omega | (simp only [List.length_append, List.length_map, List.length_cons, List.length_nil, List.length_set, List.length_replicate, List.length_take, List.size_toArray]; omega))) [E62, p3, c4, e6]
    try omega
  · rcases ite_some h with ⟨c7, h⟩ | ⟨c7, h⟩
    · obtain ⟨t8, e9, h⟩ := Option.bind_eq_some_iff.1 h
      rcases ite_some h with ⟨c10, h⟩ | ⟨c10, h⟩
      · obtain ⟨t11, e12, h⟩ := Option.bind_eq_some_iff.1 h
        have p13 := pick_of (fun k r h => nat_short.mono _ _  k r h) e12
        have q14 := short_len e12
        obtain ⟨t15, e16, h⟩ := Option.bind_eq_some_iff.1 h
        have p17 := pick_of (fun k r h => nat_trim.mono _  k r h) e16
        obtain ⟨t18, e19, h⟩ := Option.bind_eq_some_iff.1 h
        have p20 := pick_of (fun k r h => nat_trim.mono _  k r h) e19
        obtain rfl := Option.some.inj h
        simp (maxSteps := 2000000) (disch := (first | omega | (simp only [List.length_append, List.length_map, List.length_cons, List.length_nil, List.length_set, List.length_replicate, List.length_take, List.size_toArray]; omega))) [E62, p3, c4, c7, e9, c10, p13, q14, p17, p20]
        try omega
      · cases h
    · obtain ⟨t21, e22, h⟩ := Option.bind_eq_some_iff.1 h
      have p23 := pick_of (fun k r h => nat_long.mono _ _  k r h) e22
      obtain rfl := Option.some.inj h
      simp (maxSteps := 2000000) (disch := (first | omega | (simp only [List.length_append, List.length_map, List.length_cons, List.length_nil, List.length_set, List.length_replicate, List.length_take, List.size_toArray]; omega))) [E62, p3, c4, c7, p23]
      try omega
theorem fit62 : Fits Try.prog E62.ref E62.dep Try.f62 = true := by kernel_rfl
theorem good62 : GoodV 62 := by
  intro xs r h
  simp only [SV] at h
  unfold SV62 at h
  split at h
  · obtain ⟨a0, h0, h⟩ := Option.bind_eq_some_iff.1 h
    obtain ⟨a1, h1, h⟩ := Option.bind_eq_some_iff.1 h
    obtain ⟨q, hq, rfl⟩ := Option.map_eq_some_iff.1 h
    obtain ⟨k, hk⟩ := of_pick hq
    obtain rfl := unI_eq h0
    obtain rfl := unI_eq h1
    exact okW_ends (mkE_ok (all_cons good56 (all_cons good60 (all_cons good61 (all_cons good71 (all_cons good78 all_nil))))) (all_cons goodR56 (all_cons goodR60 (all_cons goodR61 (all_cons goodR71 (all_cons goodR78 all_nil)))))) mixed Try.func62 rfl fit62 (n62_run k _ _  _ hk)
  · cases h
theorem goodR62 : GoodR 62 := fun _ _ _ _ _ _ h => by simp [SR] at h
end Go.Proofs.Ythkiklpcglogpaa.ZRat
namespace Go.Proofs.Ythkiklpcglogpaa.ZRat
open Go.RowKit Go.Proofs.Ythkiklpcglogpaa.Wd
open Go Go.Proofs.Ythkiklpcglogpaa.Ab Go.Proofs
set_option linter.unusedSimpArgs false
set_option linter.unusedVariables false
set_option maxHeartbeats 4000000
set_option maxRecDepth 10000
noncomputable def E43 : Env := mkE [] [61, 62] [] []
theorem n43_run (k : Nat) (l0 : List Int) (l1 : List Int) (r : (List Int × List Int × Int)) (h : nat_DivMod.f k l0 l1 = some r) : AEnds E43 (finW Try.prog Try.f43.results) 0 [.code (Try.f43.body.getD .skip)] (startA Try.f43 [(rowI .u32 l0), (rowI .u32 l1)] [] []) (.tup [(rowI .u32 r.1), (rowI .u32 r.2.1), (.int .i64 r.2.2)]) := by
  unfold nat_DivMod.f at h
  simp only [Try.f43, Option.getD_some, startA]
  obtain ⟨t1, e2, h⟩ := Option.bind_eq_some_iff.1 h
  have p3 := pick_of (fun k r h => nat_trim.mono _  k r h) e2
  obtain ⟨t4, e5, h⟩ := Option.bind_eq_some_iff.1 h
  have p6 := pick_of (fun k r h => nat_trim.mono _  k r h) e5
  rcases ite_some h with ⟨c7, h⟩ | ⟨c7, h⟩
  · obtain rfl := Option.some.inj h
    simp (maxSteps := 2000000) (disch := (first | omega | (simp only [List.length_append, List.length_map, List.length_cons, List.length_nil, List.length_set, List.length_replicate, List.length_take, List.size_toArray]; omega))) [E43, p3, p6, c7]
    try omega
  · obtain ⟨t8, e9, h⟩ := Option.bind_eq_some_iff.1 h
    have p10 := pick_of (fun k r h => nat_divmod.mono _ _  k r h) e9
    obtain rfl := Option.some.inj h
    simp (maxSteps := 2000000) (disch := (first | omega | (simp only [List.length_append, List.length_map, List.length_cons, List.length_nil, List.length_set, List.length_replicate, List.length_take, List.size_toArray]; omega))) [E43, p3, p6, c7, p10]
    try omega
theorem fit43 : Fits Try.prog E43.ref E43.dep Try.f43 = true := by kernel_rfl
theorem good43 : GoodV 43 := by
  intro xs r h
  simp only [SV] at h
  unfold SV43 at h
  split at h
  · obtain ⟨a0, h0, h⟩ := Option.bind_eq_some_iff.1 h
    obtain ⟨a1, h1, h⟩ := Option.bind_eq_some_iff.1 h
    obtain ⟨q, hq, rfl⟩ := Option.map_eq_some_iff.1 h
    obtain ⟨k, hk⟩ := of_pick hq
    obtain rfl := unI_eq h0
    obtain rfl := unI_eq h1
    exact okW_ends (mkE_ok (all_cons good61 (all_cons good62 all_nil)) (all_cons goodR61 (all_cons goodR62 all_nil))) mixed Try.func43 rfl fit43 (n43_run k _ _  _ hk)
  · cases h
theorem goodR43 : GoodR 43 := fun _ _ _ _ _ _ h => by simp [SR] at h
end Go.Proofs.Ythkiklpcglogpaa.ZRat
namespace Go.Proofs.Ythkiklpcglogpaa.ZRat
open Go.RowKit Go.Proofs.Ythkiklpcglogpaa.Wd
open Go Go.Proofs.Ythkiklpcglogpaa.Ab Go.Proofs
set_option linter.unusedSimpArgs false
set_option linter.unusedVariables false
set_option maxHeartbeats 4000000
set_option maxRecDepth 10000
noncomputable def E42 : Env := mkE [] [60, 61, 62] [(2, [0, 1])] []
theorem n42_ls (r : (List Int)) (k : Nat) : (∀ (x0 : List Int) (x1 : List Int), nat_Gcd.l0 k x0 x1 = some r → AEnds E42 (finW Try.prog Try.f42.results) 0 (atLoop Try.f42 2) ⟨fr 25 [(0, (rowI .u32 x0)), (1, (rowI .u32 x1))], [], []⟩ (rowI .u32 r)) := by
  induction k using Nat.strongRecOn with
  | _ k ih =>
  intro x0 x1 h
  cases k with
  | zero => simp [nat_Gcd.l0] at h
  | succ k1 =>
  simp only [nat_Gcd.l0] at h
  simp only [Try.f42, atLoop, seek, firstR, reduceIte, Option.getD_some, Nat.reduceEqDiff]
  rcases ite_some h with ⟨c2, h⟩ | ⟨c2, h⟩
  · obtain ⟨t3, e4, h⟩ := Option.bind_eq_some_iff.1 h
    have p5 := pick_of (fun k r h => nat_divmod.mono _ _  k r h) e4
    simp (maxSteps := 2000000) (disch := (first | omega | (simp only [List.length_append, List.length_map, List.length_cons, List.length_nil, List.length_set, List.length_replicate, List.length_take, List.size_toArray]; omega))) [E42, c2, p5]
    refine AEnds.againS ((ih k1 (by omega)) _ _  h) ?_
    simp only [E42, firstR, mk_keep, keepT, List.find?, Nat.reduceBEq, Option.map_some, Option.getD_some]
    simp (maxSteps := 2000000) (disch := (first | omega | (simp only [List.length_append, List.length_map, List.length_cons, List.length_nil, List.length_set, List.length_replicate, List.length_take, List.size_toArray]; omega))) [E42, c2, p5]
    try omega
  · obtain rfl := Option.some.inj h
    simp (maxSteps := 2000000) (disch := (first | omega | (simp only [List.length_append, List.length_map, List.length_cons, List.length_nil, List.length_set, List.length_replicate, List.length_take, List.size_toArray]; omega))) [E42, c2]
    try omega
theorem n42_run (k : Nat) (l0 : List Int) (l1 : List Int) (r : (List Int)) (h : nat_Gcd.f k l0 l1 = some r) : AEnds E42 (finW Try.prog Try.f42.results) 0 [.code (Try.f42.body.getD .skip)] (startA Try.f42 [(rowI .u32 l0), (rowI .u32 l1)] [] []) (rowI .u32 r) := by
  unfold nat_Gcd.f at h
  simp only [Try.f42, Option.getD_some, startA]
  obtain ⟨t6, e7, h⟩ := Option.bind_eq_some_iff.1 h
  have p8 := pick_of (fun k r h => nat_trim.mono _  k r h) e7
  obtain ⟨t9, e10, h⟩ := Option.bind_eq_some_iff.1 h
  obtain ⟨t11, e12, h⟩ := Option.bind_eq_some_iff.1 h
  have p13 := pick_of (fun k r h => nat_trim.mono _  k r h) e12
  obtain ⟨t14, e15, h⟩ := Option.bind_eq_some_iff.1 h
  simp (maxSteps := 2000000) (disch := (first | omega | (simp only [List.length_append, List.length_map, List.length_cons, List.length_nil, List.length_set, List.length_replicate, List.length_take, List.size_toArray]; omega))) [E42, p8, e10, p13, e15]
  refine AEnds.loopS ((n42_ls _ _) _ _  h) ?_
  simp only [E42, firstR, mk_keep, keepT, List.find?, Nat.reduceBEq, Option.map_some, Option.getD_some]
  simp (maxSteps := 2000000) (disch := (first | omega | (simp only [List.length_append, List.length_map, List.length_cons, List.length_nil, List.length_set, List.length_replicate, List.length_take, List.size_toArray]; omega))) [E42, p8, e10, p13, e15]
  try omega
theorem fit42 : Fits Try.prog E42.ref E42.dep Try.f42 = true := by kernel_rfl
theorem good42 : GoodV 42 := by
  intro xs r h
  simp only [SV] at h
  unfold SV42 at h
  split at h
  · obtain ⟨a0, h0, h⟩ := Option.bind_eq_some_iff.1 h
    obtain ⟨a1, h1, h⟩ := Option.bind_eq_some_iff.1 h
    obtain ⟨q, hq, rfl⟩ := Option.map_eq_some_iff.1 h
    obtain ⟨k, hk⟩ := of_pick hq
    obtain rfl := unI_eq h0
    obtain rfl := unI_eq h1
    exact okW_ends (mkE_ok (all_cons good60 (all_cons good61 (all_cons good62 all_nil))) (all_cons goodR60 (all_cons goodR61 (all_cons goodR62 all_nil)))) mixed Try.func42 rfl fit42 (n42_run k _ _  _ hk)
  · cases h
theorem goodR42 : GoodR 42 := fun _ _ _ _ _ _ h => by simp [SR] at h
end Go.Proofs.Ythkiklpcglogpaa.ZRat
namespace Go.Proofs.Ythkiklpcglogpaa.ZRat
open Go.RowKit Go.Proofs.Ythkiklpcglogpaa.Wd
open Go Go.Proofs.Ythkiklpcglogpaa.Ab Go.Proofs
set_option linter.unusedSimpArgs false
set_option linter.unusedVariables false
set_option maxHeartbeats 4000000
set_option maxRecDepth 10000
noncomputable def E57 : Env := mkE [61, 60, 71, 72] [60, 61, 71, 72] [(3, [0, 3]), (7, [0, 3, 4, 15]), (11, [3])] []
theorem n57_ls (r : ByteArray) (k : Nat) : (∀ (tl x0 : List Int), nat_show.l0 k x0 [] = some r → AEnds E57 (finW Try.prog Try.f57.results) 0 (atLoop Try.f57 3) ⟨fr 51 [(0, .own 0 0 x0.length 1), (3, .nil)], [.arr ((x0 ++ tl).map (.int .u32))], [false]⟩ (.str r)) ∧ (∀ (tl x0 x3 : List Int), nat_show.l0 k x0 x3 = some r → AEnds E57 (finW Try.prog Try.f57.results) 0 (atLoop Try.f57 3) ⟨fr 51 [(0, .own 0 0 x0.length 1), (3, .own 1 0 x3.length 1)], [.arr ((x0 ++ tl).map (.int .u32)), .arr (x3.map (.int .u8))], [false, false]⟩ (.str r)) ∧ (∀ (tl x0 : List Int) (x4 x15 : Int), nat_show.l1 k x0 [] x4 x15 = some r → AEnds E57 (finW Try.prog Try.f57.results) 0 (atLoop Try.f57 7) ⟨fr 51 [(0, .own 0 0 x0.length 1), (3, .nil), (4, .int .u32 x4), (15, .int .i64 x15)], [.arr ((x0 ++ tl).map (.int .u32))], [false]⟩ (.str r)) ∧ (∀ (tl x0 x3 : List Int) (x4 x15 : Int), nat_show.l1 k x0 x3 x4 x15 = some r → AEnds E57 (finW Try.prog Try.f57.results) 0 (atLoop Try.f57 7) ⟨fr 51 [(0, .own 0 0 x0.length 1), (3, .own 1 0 x3.length 1), (4, .int .u32 x4), (15, .int .i64 x15)], [.arr ((x0 ++ tl).map (.int .u32)), .arr (x3.map (.int .u8))], [false, false]⟩ (.str r)) ∧ (nat_show.l2 k [] = some r → AEnds E57 (finW Try.prog Try.f57.results) 0 (atLoop Try.f57 11) ⟨fr 51 [(3, .nil)], [], []⟩ (.str r)) ∧ (∀ (tl x3 : List Int), nat_show.l2 k x3 = some r → AEnds E57 (finW Try.prog Try.f57.results) 0 (atLoop Try.f57 11) ⟨fr 51 [(3, .own 0 0 x3.length 1)], [.arr ((x3 ++ tl).map (.int .u8))], [false]⟩ (.str r)) := by
  induction k using Nat.strongRecOn with
  | _ k ih =>
  refine ⟨?_, ?_, ?_, ?_, ?_, ?_⟩
  · intro tl x0 h
    cases k with
    | zero => simp [nat_show.l0] at h
    | succ k1 =>
    simp only [nat_show.l0] at h
    simp only [Try.f57, atLoop, seek, firstR, reduceIte, Option.getD_some, Nat.reduceEqDiff]
    rcases ite_some h with ⟨c, h⟩ | ⟨c, h⟩
    · obtain ⟨t, e, h⟩ := Option.bind_eq_some_iff.1 h
      obtain ⟨u, f, h⟩ := Option.bind_eq_some_iff.1 h
      have p := pick_of (fun k r h => nat_short.mono _ _ k r h) e
      have p2 := short_len e
      have g := pick_of (fun k r h => nat_trim.mono _ k r h) f
      obtain ⟨tk, hk⟩ := trim_pre f
      have p3 : x0.length = u.length + tk.length := by rw [← p2, hk, List.length_append]
      rw [hk] at g
      simp (maxSteps := 2000000) (disch := (first | omega | (simp only [List.length_append, List.length_map, List.length_cons, List.length_nil, List.length_set, List.length_replicate, List.length_take, List.size_toArray]; omega))) [E57, c, p, hk, g, p3]
      refine AEnds.loopS ((ih k1 (by omega)).2.2.1 (tk ++ tl) _ _ _ h) ?_
      simp only [E57, firstR, mk_keep, keepT, List.find?, Nat.reduceBEq, Option.map_some, Option.getD_some]
      simp (maxSteps := 2000000) (disch := (first | omega | (simp only [List.length_append, List.length_map, List.length_cons, List.length_nil, List.length_set, List.length_replicate, List.length_take, List.size_toArray]; omega))) [E57, c, p, hk, g, p3]
      try omega
    · simp (maxSteps := 2000000) (disch := (first | omega | (simp only [List.length_append, List.length_map, List.length_cons, List.length_nil, List.length_set, List.length_replicate, List.length_take, List.size_toArray]; omega))) [E57, c]
      refine AEnds.loopS ((ih k1 (by omega)).2.2.2.2.1  h) ?_
      simp only [E57, firstR, mk_keep, keepT, List.find?, Nat.reduceBEq, Option.map_some, Option.getD_some]
      simp (maxSteps := 2000000) (disch := (first | omega | (simp only [List.length_append, List.length_map, List.length_cons, List.length_nil, List.length_set, List.length_replicate, List.length_take, List.size_toArray]; omega))) [E57, c]
      try omega
  · intro tl x0 x3 h
    cases k with
    | zero => simp [nat_show.l0] at h
    | succ k1 =>
    simp only [nat_show.l0] at h
    simp only [Try.f57, atLoop, seek, firstR, reduceIte, Option.getD_some, Nat.reduceEqDiff]
    rcases ite_some h with ⟨c, h⟩ | ⟨c, h⟩
    · obtain ⟨t, e, h⟩ := Option.bind_eq_some_iff.1 h
      obtain ⟨u, f, h⟩ := Option.bind_eq_some_iff.1 h
      have p := pick_of (fun k r h => nat_short.mono _ _ k r h) e
      have p2 := short_len e
      have g := pick_of (fun k r h => nat_trim.mono _ k r h) f
      obtain ⟨tk, hk⟩ := trim_pre f
      have p3 : x0.length = u.length + tk.length := by rw [← p2, hk, List.length_append]
      rw [hk] at g
      simp (maxSteps := 2000000) (disch := (first | omega | (simp only [List.length_append, List.length_map, List.length_cons, List.length_nil, List.length_set, List.length_replicate, List.length_take, List.size_toArray]; omega))) [E57, c, p, hk, g, p3]
      refine AEnds.loopS ((ih k1 (by omega)).2.2.2.1 (tk ++ tl) _ _ _ _ h) ?_
      simp only [E57, firstR, mk_keep, keepT, List.find?, Nat.reduceBEq, Option.map_some, Option.getD_some]
      simp (maxSteps := 2000000) (disch := (first | omega | (simp only [List.length_append, List.length_map, List.length_cons, List.length_nil, List.length_set, List.length_replicate, List.length_take, List.size_toArray]; omega))) [E57, c, p, hk, g, p3]
      try omega
    · simp (maxSteps := 2000000) (disch := (first | omega | (simp only [List.length_append, List.length_map, List.length_cons, List.length_nil, List.length_set, List.length_replicate, List.length_take, List.size_toArray]; omega))) [E57, c]
      refine AEnds.loopS ((ih k1 (by omega)).2.2.2.2.2 [] x3 h) ?_
      simp only [E57, firstR, mk_keep, keepT, List.find?, Nat.reduceBEq, Option.map_some, Option.getD_some]
      simp (maxSteps := 2000000) (disch := (first | omega | (simp only [List.length_append, List.length_map, List.length_cons, List.length_nil, List.length_set, List.length_replicate, List.length_take, List.size_toArray]; omega))) [E57, c]
      try omega
  · intro tl x0 x4 x15 h
    cases k with
    | zero => simp [nat_show.l1] at h
    | succ k1 =>
    simp only [nat_show.l1] at h
    simp only [Try.f57, atLoop, seek, firstR, reduceIte, Option.getD_some, Nat.reduceEqDiff]
    rcases ite_some h with ⟨c, h⟩ | ⟨c, h⟩
    · rcases ite_some h with ⟨c2, h⟩ | ⟨c2, h⟩
      · simp (maxSteps := 2000000) (disch := (first | omega | (simp only [List.length_append, List.length_map, List.length_cons, List.length_nil, List.length_set, List.length_replicate, List.length_take, List.size_toArray]; omega))) [E57, c, c2]
        refine AEnds.againS ((ih k1 (by omega)).2.2.2.1 tl _ _ _ _ h) ?_
        simp only [E57, firstR, mk_keep, keepT, List.find?, Nat.reduceBEq, Option.map_some, Option.getD_some]
        simp (maxSteps := 2000000) (disch := (first | omega | (simp only [List.length_append, List.length_map, List.length_cons, List.length_nil, List.length_set, List.length_replicate, List.length_take, List.size_toArray]; omega))) [E57, c, c2]
        try omega
      · cases h
    · simp (maxSteps := 2000000) (disch := (first | omega | (simp only [List.length_append, List.length_map, List.length_cons, List.length_nil, List.length_set, List.length_replicate, List.length_take, List.size_toArray]; omega))) [E57, c]
      refine AEnds.againS ((ih k1 (by omega)).1 tl _ h) ?_
      simp only [E57, firstR, mk_keep, keepT, List.find?, Nat.reduceBEq, Option.map_some, Option.getD_some]
      simp (maxSteps := 2000000) (disch := (first | omega | (simp only [List.length_append, List.length_map, List.length_cons, List.length_nil, List.length_set, List.length_replicate, List.length_take, List.size_toArray]; omega))) [E57, c]
      try omega
  · intro tl x0 x3 x4 x15 h
    cases k with
    | zero => simp [nat_show.l1] at h
    | succ k1 =>
    simp only [nat_show.l1] at h
    simp only [Try.f57, atLoop, seek, firstR, reduceIte, Option.getD_some, Nat.reduceEqDiff]
    rcases ite_some h with ⟨c, h⟩ | ⟨c, h⟩
    · rcases ite_some h with ⟨c2, h⟩ | ⟨c2, h⟩
      · simp (maxSteps := 2000000) (disch := (first | omega | (simp only [List.length_append, List.length_map, List.length_cons, List.length_nil, List.length_set, List.length_replicate, List.length_take, List.size_toArray]; omega))) [E57, c, c2]
        refine AEnds.againS ((ih k1 (by omega)).2.2.2.1 tl _ _ _ _ h) ?_
        simp only [E57, firstR, mk_keep, keepT, List.find?, Nat.reduceBEq, Option.map_some, Option.getD_some]
        simp (maxSteps := 2000000) (disch := (first | omega | (simp only [List.length_append, List.length_map, List.length_cons, List.length_nil, List.length_set, List.length_replicate, List.length_take, List.size_toArray]; omega))) [E57, c, c2]
        try omega
      · cases h
    · simp (maxSteps := 2000000) (disch := (first | omega | (simp only [List.length_append, List.length_map, List.length_cons, List.length_nil, List.length_set, List.length_replicate, List.length_take, List.size_toArray]; omega))) [E57, c]
      refine AEnds.againS ((ih k1 (by omega)).2.1 tl _ _ h) ?_
      simp only [E57, firstR, mk_keep, keepT, List.find?, Nat.reduceBEq, Option.map_some, Option.getD_some]
      simp (maxSteps := 2000000) (disch := (first | omega | (simp only [List.length_append, List.length_map, List.length_cons, List.length_nil, List.length_set, List.length_replicate, List.length_take, List.size_toArray]; omega))) [E57, c]
      try omega
  · intro h
    cases k with
    | zero => simp [nat_show.l2] at h
    | succ k1 =>
    simp only [nat_show.l2] at h
    simp only [Try.f57, atLoop, seek, firstR, reduceIte, Option.getD_some, Nat.reduceEqDiff]
    simp at h
    subst h
    simp (maxSteps := 2000000) (disch := (first | omega | (simp only [List.length_append, List.length_map, List.length_cons, List.length_nil, List.length_set, List.length_replicate, List.length_take, List.size_toArray]; omega))) [E57]
  · intro tl x3 h
    cases k with
    | zero => simp [nat_show.l2] at h
    | succ k1 =>
    simp only [nat_show.l2] at h
    simp only [Try.f57, atLoop, seek, firstR, reduceIte, Option.getD_some, Nat.reduceEqDiff]
    rcases ite_some h with ⟨c, h⟩ | ⟨c, h⟩
    · rcases ite_some h with ⟨c2, h⟩ | ⟨c2, h⟩
      · rcases ite_some h with ⟨c3, h⟩ | ⟨c3, h⟩
        · rcases ite_some h with ⟨c4, h⟩ | ⟨c4, h⟩
          · rcases ite_some h with ⟨c5, h⟩ | ⟨c5, h⟩
            · simp (maxSteps := 2000000) (disch := (first | omega | (simp only [List.length_append, List.length_map, List.length_cons, List.length_nil, List.length_set, List.length_replicate, List.length_take, List.size_toArray]; omega))) [E57, c, c2, c3, c4, c5]
              refine AEnds.againS ((ih k1 (by omega)).2.2.2.2.2 (x3.drop (wrap64 ((x3.length : Int) - 1)).toNat ++ tl) _ h) ?_
              simp only [E57, firstR, mk_keep, keepT, List.find?, Nat.reduceBEq, Option.map_some, Option.getD_some]
              have hq : x3.take (wrap64 ((x3.length : Int) - 1)).toNat ++ (x3.drop (wrap64 ((x3.length : Int) - 1)).toNat ++ tl) = x3 ++ tl := by rw [← List.append_assoc, List.take_append_drop]
              rw [hq]
              simp (maxSteps := 2000000) (disch := (first | omega | (simp only [List.length_append, List.length_map, List.length_cons, List.length_nil, List.length_set, List.length_replicate, List.length_take, List.size_toArray]; omega))) [E57, c, c2, c3, c4, c5]
              try omega
            · cases h
          · rcases ite_some h with ⟨c9, h⟩ | ⟨c9, h⟩
            · obtain rfl := Option.some.inj h
              have c8 : x3 = [] := List.length_eq_zero_iff.1 (by omega)
              subst c8
              simp (maxSteps := 2000000) (disch := (first | omega | (simp only [List.length_append, List.length_map, List.length_cons, List.length_nil, List.length_set, List.length_replicate, List.length_take, List.size_toArray]; omega))) [E57, c, c2, c3, c4]
            · obtain ⟨t, e, h⟩ := Option.bind_eq_some_iff.1 h
              obtain rfl := Option.some.inj h
              have p := pick_of (fun k r h => slices_Reverse_byte_byte.mono _ k r h) e
              have p2 := rev_len e
              simp (maxSteps := 2000000) (disch := (first | omega | (simp only [List.length_append, List.length_map, List.length_cons, List.length_nil, List.length_set, List.length_replicate, List.length_take, List.size_toArray]; omega))) [E57, c, c2, c3, c4, c9, p, p2]
              try rfl
        · cases h
      · cases h
    · rcases ite_some h with ⟨c9, h⟩ | ⟨c9, h⟩
      · obtain rfl := Option.some.inj h
        have c8 : x3 = [] := List.length_eq_zero_iff.1 (by omega)
        subst c8
        simp (maxSteps := 2000000) (disch := (first | omega | (simp only [List.length_append, List.length_map, List.length_cons, List.length_nil, List.length_set, List.length_replicate, List.length_take, List.size_toArray]; omega))) [E57, c]
      · obtain ⟨t, e, h⟩ := Option.bind_eq_some_iff.1 h
        obtain rfl := Option.some.inj h
        have p := pick_of (fun k r h => slices_Reverse_byte_byte.mono _ k r h) e
        exfalso; omega
theorem n57_run (k : Nat) (l0 : List Int) (r : ByteArray) (h : nat_show.f k l0 = some r) : AEnds E57 (finW Try.prog Try.f57.results) 0 [.code (Try.f57.body.getD .skip)] (startA Try.f57 [(rowI .u32 l0)] [] []) (.str r) := by
  unfold nat_show.f at h
  simp only [Try.f57, Option.getD_some, startA]
  obtain ⟨t, e, h⟩ := Option.bind_eq_some_iff.1 h
  obtain ⟨u, f, h⟩ := Option.bind_eq_some_iff.1 h
  have p := pick_of (fun k r h => nat_trim.mono _ k r h) e
  simp (maxSteps := 2000000) (disch := (first | omega | (simp only [List.length_append, List.length_map, List.length_cons, List.length_nil, List.length_set, List.length_replicate, List.length_take, List.size_toArray]; omega))) [E57, p, f]
  refine AEnds.loopS ((n57_ls r _).1 [] _ h) ?_
  simp only [E57, firstR, mk_keep, keepT, List.find?, Nat.reduceBEq, Option.map_some, Option.getD_some]
  simp (maxSteps := 2000000) (disch := (first | omega | (simp only [List.length_append, List.length_map, List.length_cons, List.length_nil, List.length_set, List.length_replicate, List.length_take, List.size_toArray]; omega))) [E57, p, f]
theorem fit57 : Fits Try.prog E57.ref E57.dep Try.f57 = true := by kernel_rfl
theorem good57 : GoodV 57 := by
  intro xs r h
  simp only [SV] at h
  unfold SV57 at h
  split at h
  · obtain ⟨a0, h0, h⟩ := Option.bind_eq_some_iff.1 h
    obtain ⟨q, hq, rfl⟩ := Option.map_eq_some_iff.1 h
    obtain ⟨k, hk⟩ := of_pick hq
    obtain rfl := unI_eq h0
    exact okW_ends (mkE_ok (all_cons good60 (all_cons good61 (all_cons good71 (all_cons good72 all_nil)))) (all_cons goodR60 (all_cons goodR61 (all_cons goodR71 (all_cons goodR72 all_nil))))) mixed Try.func57 rfl fit57 (n57_run k _  _ hk)
  · cases h
theorem goodR57 : GoodR 57 := fun _ _ _ _ _ _ h => by simp [SR] at h
end Go.Proofs.Ythkiklpcglogpaa.ZRat
namespace Go.Proofs.Ythkiklpcglogpaa.ZRat
open Go.RowKit Go.Proofs.Ythkiklpcglogpaa.Wd
open Go Go.Proofs.Ythkiklpcglogpaa.Ab Go.Proofs
set_option linter.unusedSimpArgs false
set_option linter.unusedVariables false
set_option maxHeartbeats 4000000
set_option maxRecDepth 10000
noncomputable def E36 : Env := mkE [] [57] [] []
theorem n36_run (k : Nat) (l0 : List Int) (r : (ByteArray)) (h : nat_Show.f k l0 = some r) : AEnds E36 (finW Try.prog Try.f36.results) 0 [.code (Try.f36.body.getD .skip)] (startA Try.f36 [(rowI .u32 l0)] [] []) (.str r) := by
  unfold nat_Show.f at h
  simp only [Try.f36, Option.getD_some, startA]
  obtain ⟨t1, e2, h⟩ := Option.bind_eq_some_iff.1 h
  have p3 := pick_of (fun k r h => nat_show.mono _  k r h) e2
  obtain rfl := Option.some.inj h
  simp (maxSteps := 2000000) (disch := (first | omega | (simp only [List.length_append, List.length_map, List.length_cons, List.length_nil, List.length_set, List.length_replicate, List.length_take, List.size_toArray]; omega))) [E36, p3]
  try omega
theorem fit36 : Fits Try.prog E36.ref E36.dep Try.f36 = true := by kernel_rfl
theorem good36 : GoodV 36 := by
  intro xs r h
  simp only [SV] at h
  unfold SV36 at h
  split at h
  · obtain ⟨a0, h0, h⟩ := Option.bind_eq_some_iff.1 h
    obtain ⟨q, hq, rfl⟩ := Option.map_eq_some_iff.1 h
    obtain ⟨k, hk⟩ := of_pick hq
    obtain rfl := unI_eq h0
    exact okW_ends (mkE_ok (all_cons good57 all_nil) (all_cons goodR57 all_nil)) mixed Try.func36 rfl fit36 (n36_run k _  _ hk)
  · cases h
theorem goodR36 : GoodR 36 := fun _ _ _ _ _ _ h => by simp [SR] at h
end Go.Proofs.Ythkiklpcglogpaa.ZRat
namespace Go.Proofs.Ythkiklpcglogpaa.ZRat
open Go.RowKit Go.Proofs.Ythkiklpcglogpaa.Wd
open Go Go.Proofs.Ythkiklpcglogpaa.Ab Go.Proofs
set_option linter.unusedSimpArgs false
set_option linter.unusedVariables false
set_option maxHeartbeats 4000000
set_option maxRecDepth 10000
noncomputable def E35 : Env := mkE [] [56] [] []
theorem n35_run (k : Nat) (l0 : List Int) (l1 : List Int) (r : (Int)) (h : nat_Cmp.f k l0 l1 = some r) : AEnds E35 (finW Try.prog Try.f35.results) 0 [.code (Try.f35.body.getD .skip)] (startA Try.f35 [(rowI .u32 l0), (rowI .u32 l1)] [] []) (.int .i64 r) := by
  unfold nat_Cmp.f at h
  simp only [Try.f35, Option.getD_some, startA]
  obtain ⟨t1, e2, h⟩ := Option.bind_eq_some_iff.1 h
  have p3 := pick_of (fun k r h => nat_cmp.mono _ _  k r h) e2
  obtain rfl := Option.some.inj h
  simp (maxSteps := 2000000) (disch := (first | omega | (simp only [List.length_append, List.length_map, List.length_cons, List.length_nil, List.length_set, List.length_replicate, List.length_take, List.size_toArray]; omega))) [E35, p3]
  try omega
theorem fit35 : Fits Try.prog E35.ref E35.dep Try.f35 = true := by kernel_rfl
theorem good35 : GoodV 35 := by
  intro xs r h
  simp only [SV] at h
  unfold SV35 at h
  split at h
  · obtain ⟨a0, h0, h⟩ := Option.bind_eq_some_iff.1 h
    obtain ⟨a1, h1, h⟩ := Option.bind_eq_some_iff.1 h
    obtain ⟨q, hq, rfl⟩ := Option.map_eq_some_iff.1 h
    obtain ⟨k, hk⟩ := of_pick hq
    obtain rfl := unI_eq h0
    obtain rfl := unI_eq h1
    exact okW_ends (mkE_ok (all_cons good56 all_nil) (all_cons goodR56 all_nil)) mixed Try.func35 rfl fit35 (n35_run k _ _  _ hk)
  · cases h
theorem goodR35 : GoodR 35 := fun _ _ _ _ _ _ h => by simp [SR] at h
end Go.Proofs.Ythkiklpcglogpaa.ZRat
namespace Go.Proofs.Ythkiklpcglogpaa.ZRat
open Go.RowKit Go.Proofs.Ythkiklpcglogpaa.Wd
open Go Go.Proofs.Ythkiklpcglogpaa.Ab Go.Proofs
set_option linter.unusedSimpArgs false
set_option linter.unusedVariables false
set_option maxHeartbeats 4000000
set_option maxRecDepth 10000
noncomputable def E81 : Env := mkE [] [61, 90] [] []
theorem n81_run (k : Nat) (l0 : List Int) (r : (Int)) (h : nat_size.f k l0 = some r) : AEnds E81 (finW Try.prog Try.f81.results) 0 [.code (Try.f81.body.getD .skip)] (startA Try.f81 [(rowI .u32 l0)] [] []) (.int .i64 r) := by
  unfold nat_size.f at h
  simp only [Try.f81, Option.getD_some, startA]
  obtain ⟨t1, e2, h⟩ := Option.bind_eq_some_iff.1 h
  have p3 := pick_of (fun k r h => nat_trim.mono _  k r h) e2
  rcases ite_some h with ⟨c4, h⟩ | ⟨c4, h⟩
  · obtain rfl := Option.some.inj h
    simp (maxSteps := 2000000) (disch := (first | omega | (simp only [List.length_append, List.length_map, List.length_cons, List.length_nil, List.length_set, List.length_replicate, List.length_take, List.size_toArray]; omega))) [E81, p3, c4]
    try omega
  · rcases ite_some h with ⟨c5, h⟩ | ⟨c5, h⟩
    · rcases ite_some h with ⟨c6, h⟩ | ⟨c6, h⟩
      · obtain ⟨t7, e8, h⟩ := Option.bind_eq_some_iff.1 h
        obtain rfl := Option.some.inj h
        simp (maxSteps := 2000000) (disch := (first | omega | (simp only [List.length_append, List.length_map, List.length_cons, List.length_nil, List.length_set, List.length_replicate, List.length_take, List.size_toArray]; omega))) [E81, p3, c4, c5, c6, e8]
        try omega
      · cases h
    · cases h
theorem fit81 : Fits Try.prog E81.ref E81.dep Try.f81 = true := by kernel_rfl
theorem good81 : GoodV 81 := by
  intro xs r h
  simp only [SV] at h
  unfold SV81 at h
  split at h
  · obtain ⟨a0, h0, h⟩ := Option.bind_eq_some_iff.1 h
    obtain ⟨q, hq, rfl⟩ := Option.map_eq_some_iff.1 h
    obtain ⟨k, hk⟩ := of_pick hq
    obtain rfl := unI_eq h0
    exact okW_ends (mkE_ok (all_cons good61 (all_cons good90 all_nil)) (all_cons goodR61 (all_cons goodR90 all_nil))) mixed Try.func81 rfl fit81 (n81_run k _  _ hk)
  · cases h
theorem goodR81 : GoodR 81 := fun _ _ _ _ _ _ h => by simp [SR] at h
end Go.Proofs.Ythkiklpcglogpaa.ZRat
namespace Go.Proofs.Ythkiklpcglogpaa.ZRat
open Go.RowKit Go.Proofs.Ythkiklpcglogpaa.Wd
open Go Go.Proofs.Ythkiklpcglogpaa.Ab Go.Proofs
set_option linter.unusedSimpArgs false
set_option linter.unusedVariables false
set_option maxHeartbeats 4000000
set_option maxRecDepth 10000
noncomputable def E70 : Env := mkE [] [81] [] []
theorem n70_run (k : Nat) (l0 : List Int) (r : (Int)) (h : nat_Bits.f k l0 = some r) : AEnds E70 (finW Try.prog Try.f70.results) 0 [.code (Try.f70.body.getD .skip)] (startA Try.f70 [(rowI .u32 l0)] [] []) (.int .i64 r) := by
  unfold nat_Bits.f at h
  simp only [Try.f70, Option.getD_some, startA]
  obtain ⟨t1, e2, h⟩ := Option.bind_eq_some_iff.1 h
  have p3 := pick_of (fun k r h => nat_size.mono _  k r h) e2
  obtain rfl := Option.some.inj h
  simp (maxSteps := 2000000) (disch := (first | omega | (simp only [List.length_append, List.length_map, List.length_cons, List.length_nil, List.length_set, List.length_replicate, List.length_take, List.size_toArray]; omega))) [E70, p3]
  try omega
theorem fit70 : Fits Try.prog E70.ref E70.dep Try.f70 = true := by kernel_rfl
theorem good70 : GoodV 70 := by
  intro xs r h
  simp only [SV] at h
  unfold SV70 at h
  split at h
  · obtain ⟨a0, h0, h⟩ := Option.bind_eq_some_iff.1 h
    obtain ⟨q, hq, rfl⟩ := Option.map_eq_some_iff.1 h
    obtain ⟨k, hk⟩ := of_pick hq
    obtain rfl := unI_eq h0
    exact okW_ends (mkE_ok (all_cons good81 all_nil) (all_cons goodR81 all_nil)) mixed Try.func70 rfl fit70 (n70_run k _  _ hk)
  · cases h
theorem goodR70 : GoodR 70 := fun _ _ _ _ _ _ h => by simp [SR] at h
end Go.Proofs.Ythkiklpcglogpaa.ZRat
