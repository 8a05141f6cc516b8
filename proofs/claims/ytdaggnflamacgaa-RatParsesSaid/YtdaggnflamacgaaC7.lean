/- Walks by the abstract run: natural numbers. -/
import Derived.Test.YtdaggnflamacgaaC1
import Derived.Test.YtdaggnflamacgaaC6
import Derived.Test.YtdaggnflamacgaaProg
set_option linter.unusedVariables false
set_option linter.unusedSimpArgs false
/- What the walks of numbers lean on. -/
namespace Go.Proofs.Ytdaggnflamacgaa.ZRat
open Go.RowKit Go.Proofs.Ytdaggnflamacgaa.Wd
open Go Go.Proofs.Ytdaggnflamacgaa.Ab Go.Proofs
set_option linter.unusedSimpArgs false
set_option linter.unusedVariables false
def unN (k : IntKind) : AV → Option Int
  | .int k' n => if k' = k then some n else none
  | _ => none
def unB : AV → Option Bool
  | .bool b => some b
  | _ => none
def unS : AV → Option ByteArray
  | .str b => some b
  | _ => none
theorem kd1 : kindT Try.prog 1 = some (1, false) := by kernel_rfl
theorem td2 : tdesc Try.prog 2 = .int .i64 := by kernel_rfl
theorem ok2 : okT Try.prog 2 = true := by kernel_rfl
theorem zt2 : zeroT Try.prog 2 = [.int .i64 0] := by kernel_rfl
theorem kd2 : kindT Try.prog 2 = some (1, false) := by kernel_rfl
theorem td3 : tdesc Try.prog 3 = .int .i64 := by kernel_rfl
theorem ok3 : okT Try.prog 3 = true := by kernel_rfl
theorem zt3 : zeroT Try.prog 3 = [.int .i64 0] := by kernel_rfl
theorem kd3 : kindT Try.prog 3 = some (1, false) := by kernel_rfl
theorem td4 : tdesc Try.prog 4 = .bool := by kernel_rfl
theorem ok4 : okT Try.prog 4 = true := by kernel_rfl
theorem zt4 : zeroT Try.prog 4 = [.bool false] := by kernel_rfl
theorem kd4 : kindT Try.prog 4 = some (1, false) := by kernel_rfl
theorem td5 : tdesc Try.prog 5 = .int .u8 := by kernel_rfl
theorem ok5 : okT Try.prog 5 = true := by kernel_rfl
theorem zt5 : zeroT Try.prog 5 = [.int .u8 0] := by kernel_rfl
theorem kd5 : kindT Try.prog 5 = some (1, false) := by kernel_rfl
theorem td6 : tdesc Try.prog 6 = .int .u8 := by kernel_rfl
theorem ok6 : okT Try.prog 6 = true := by kernel_rfl
theorem zt6 : zeroT Try.prog 6 = [.int .u8 0] := by kernel_rfl
theorem kd6 : kindT Try.prog 6 = some (1, false) := by kernel_rfl
theorem td7 : tdesc Try.prog 7 = .struct 4 [.int .i64 0, .int .i64 0, .bool false, .int .u8 0] [(0, 1, false), (1, 1, false), (2, 1, false), (3, 1, false)] := by kernel_rfl
theorem ok7 : okT Try.prog 7 = true := by kernel_rfl
theorem zt7 : zeroT Try.prog 7 = [.int .i64 0, .int .i64 0, .bool false, .int .u8 0] := by kernel_rfl
theorem kd7 : kindT Try.prog 7 = some (4, true) := by kernel_rfl
theorem td8 : tdesc Try.prog 8 = .struct 4 [.int .i64 0, .int .i64 0, .bool false, .int .u8 0] [(0, 1, false), (1, 1, false), (2, 1, false), (3, 1, false)] := by kernel_rfl
theorem ok8 : okT Try.prog 8 = true := by kernel_rfl
theorem zt8 : zeroT Try.prog 8 = [.int .i64 0, .int .i64 0, .bool false, .int .u8 0] := by kernel_rfl
theorem kd8 : kindT Try.prog 8 = some (4, true) := by kernel_rfl
theorem td9 : tdesc Try.prog 9 = .str := by kernel_rfl
theorem ok9 : okT Try.prog 9 = true := by kernel_rfl
theorem zt9 : zeroT Try.prog 9 = [.str ⟨#[]⟩] := by kernel_rfl
theorem kd9 : kindT Try.prog 9 = some (1, false) := by kernel_rfl
theorem td10 : tdesc Try.prog 10 = .str := by kernel_rfl
theorem ok10 : okT Try.prog 10 = true := by kernel_rfl
theorem zt10 : zeroT Try.prog 10 = [.str ⟨#[]⟩] := by kernel_rfl
theorem kd10 : kindT Try.prog 10 = some (1, false) := by kernel_rfl
theorem td11 : tdesc Try.prog 11 = .str := by kernel_rfl
theorem ok11 : okT Try.prog 11 = true := by kernel_rfl
theorem zt11 : zeroT Try.prog 11 = [.str ⟨#[]⟩] := by kernel_rfl
theorem kd11 : kindT Try.prog 11 = some (1, false) := by kernel_rfl
theorem td12 : tdesc Try.prog 12 = .int .u64 := by kernel_rfl
theorem ok12 : okT Try.prog 12 = true := by kernel_rfl
theorem zt12 : zeroT Try.prog 12 = [.int .u64 0] := by kernel_rfl
theorem kd12 : kindT Try.prog 12 = some (1, false) := by kernel_rfl
theorem td13 : tdesc Try.prog 13 = .struct 2 [.str ⟨#[]⟩, .int .u64 0] [(0, 1, false), (1, 1, false)] := by kernel_rfl
theorem ok13 : okT Try.prog 13 = true := by kernel_rfl
theorem zt13 : zeroT Try.prog 13 = [.str ⟨#[]⟩, .int .u64 0] := by kernel_rfl
theorem kd13 : kindT Try.prog 13 = some (2, true) := by kernel_rfl
theorem td14 : tdesc Try.prog 14 = .struct 2 [.str ⟨#[]⟩, .int .u64 0] [(0, 1, false), (1, 1, false)] := by kernel_rfl
theorem ok14 : okT Try.prog 14 = true := by kernel_rfl
theorem zt14 : zeroT Try.prog 14 = [.str ⟨#[]⟩, .int .u64 0] := by kernel_rfl
theorem kd14 : kindT Try.prog 14 = some (2, true) := by kernel_rfl
theorem kd15 : kindT Try.prog 15 = some (1, false) := by kernel_rfl
theorem kd16 : kindT Try.prog 16 = some (1, false) := by kernel_rfl
theorem kd17 : kindT Try.prog 17 = some (1, false) := by kernel_rfl
theorem td18 : tdesc Try.prog 18 = .struct 1 [.any] [(0, 1, false)] := by kernel_rfl
theorem ok18 : okT Try.prog 18 = true := by kernel_rfl
theorem zt18 : zeroT Try.prog 18 = [.any] := by kernel_rfl
theorem kd18 : kindT Try.prog 18 = some (1, true) := by kernel_rfl
theorem td19 : tdesc Try.prog 19 = .struct 1 [.any] [(0, 1, false)] := by kernel_rfl
theorem ok19 : okT Try.prog 19 = true := by kernel_rfl
theorem zt19 : zeroT Try.prog 19 = [.any] := by kernel_rfl
theorem kd19 : kindT Try.prog 19 = some (1, true) := by kernel_rfl
theorem kd20 : kindT Try.prog 20 = some (1, false) := by kernel_rfl
theorem td21 : tdesc Try.prog 21 = .int .i32 := by kernel_rfl
theorem ok21 : okT Try.prog 21 = true := by kernel_rfl
theorem zt21 : zeroT Try.prog 21 = [.int .i32 0] := by kernel_rfl
theorem kd21 : kindT Try.prog 21 = some (1, false) := by kernel_rfl
theorem td22 : tdesc Try.prog 22 = .slice 105 1 4 [.int .u32 0] := by kernel_rfl
theorem ok22 : okT Try.prog 22 = true := by kernel_rfl
theorem zt22 : zeroT Try.prog 22 = [.nil] := by kernel_rfl
theorem kd22 : kindT Try.prog 22 = some (1, false) := by kernel_rfl
theorem td23 : tdesc Try.prog 23 = .slice 105 1 4 [.int .u32 0] := by kernel_rfl
theorem ok23 : okT Try.prog 23 = true := by kernel_rfl
theorem zt23 : zeroT Try.prog 23 = [.nil] := by kernel_rfl
theorem kd23 : kindT Try.prog 23 = some (1, false) := by kernel_rfl
theorem td24 : tdesc Try.prog 24 = .struct 2 [.bool false, .nil] [(0, 1, false), (1, 1, false)] := by kernel_rfl
theorem ok24 : okT Try.prog 24 = true := by kernel_rfl
theorem zt24 : zeroT Try.prog 24 = [.bool false, .nil] := by kernel_rfl
theorem kd24 : kindT Try.prog 24 = some (2, true) := by kernel_rfl
theorem td25 : tdesc Try.prog 25 = .struct 2 [.bool false, .nil] [(0, 1, false), (1, 1, false)] := by kernel_rfl
theorem ok25 : okT Try.prog 25 = true := by kernel_rfl
theorem zt25 : zeroT Try.prog 25 = [.bool false, .nil] := by kernel_rfl
theorem kd25 : kindT Try.prog 25 = some (2, true) := by kernel_rfl
theorem td26 : tdesc Try.prog 26 = .struct 3 [.bool false, .nil, .nil] [(0, 2, true), (2, 1, false)] := by kernel_rfl
theorem ok26 : okT Try.prog 26 = true := by kernel_rfl
theorem zt26 : zeroT Try.prog 26 = [.bool false, .nil, .nil] := by kernel_rfl
theorem kd26 : kindT Try.prog 26 = some (3, true) := by kernel_rfl
theorem td27 : tdesc Try.prog 27 = .struct 3 [.bool false, .nil, .nil] [(0, 2, true), (2, 1, false)] := by kernel_rfl
theorem ok27 : okT Try.prog 27 = true := by kernel_rfl
theorem zt27 : zeroT Try.prog 27 = [.bool false, .nil, .nil] := by kernel_rfl
theorem kd27 : kindT Try.prog 27 = some (3, true) := by kernel_rfl
theorem kd28 : kindT Try.prog 28 = some (1, false) := by kernel_rfl
theorem td29 : tdesc Try.prog 29 = .slice 3 1 8 [.int .i64 0] := by kernel_rfl
theorem ok29 : okT Try.prog 29 = true := by kernel_rfl
theorem zt29 : zeroT Try.prog 29 = [.nil] := by kernel_rfl
theorem kd29 : kindT Try.prog 29 = some (1, false) := by kernel_rfl
theorem td30 : tdesc Try.prog 30 = .slice 3 1 8 [.int .i64 0] := by kernel_rfl
theorem ok30 : okT Try.prog 30 = true := by kernel_rfl
theorem zt30 : zeroT Try.prog 30 = [.nil] := by kernel_rfl
theorem kd30 : kindT Try.prog 30 = some (1, false) := by kernel_rfl
theorem td31 : tdesc Try.prog 31 = .struct 2 [.int .i64 0, .nil] [(0, 1, false), (1, 1, false)] := by kernel_rfl
theorem ok31 : okT Try.prog 31 = true := by kernel_rfl
theorem zt31 : zeroT Try.prog 31 = [.int .i64 0, .nil] := by kernel_rfl
theorem kd31 : kindT Try.prog 31 = some (2, true) := by kernel_rfl
theorem td32 : tdesc Try.prog 32 = .struct 2 [.int .i64 0, .nil] [(0, 1, false), (1, 1, false)] := by kernel_rfl
theorem ok32 : okT Try.prog 32 = true := by kernel_rfl
theorem zt32 : zeroT Try.prog 32 = [.int .i64 0, .nil] := by kernel_rfl
theorem kd32 : kindT Try.prog 32 = some (2, true) := by kernel_rfl
theorem td33 : tdesc Try.prog 33 = .struct 4 [.int .i64 0, .nil, .int .i64 0, .nil] [(0, 2, true), (2, 2, true)] := by kernel_rfl
theorem ok33 : okT Try.prog 33 = true := by kernel_rfl
theorem zt33 : zeroT Try.prog 33 = [.int .i64 0, .nil, .int .i64 0, .nil] := by kernel_rfl
theorem kd33 : kindT Try.prog 33 = some (4, true) := by kernel_rfl
theorem td34 : tdesc Try.prog 34 = .struct 4 [.int .i64 0, .nil, .int .i64 0, .nil] [(0, 2, true), (2, 2, true)] := by kernel_rfl
theorem ok34 : okT Try.prog 34 = true := by kernel_rfl
theorem zt34 : zeroT Try.prog 34 = [.int .i64 0, .nil, .int .i64 0, .nil] := by kernel_rfl
theorem kd34 : kindT Try.prog 34 = some (4, true) := by kernel_rfl
theorem kd35 : kindT Try.prog 35 = some (1, false) := by kernel_rfl
theorem kd36 : kindT Try.prog 36 = some (1, false) := by kernel_rfl
theorem kd37 : kindT Try.prog 37 = some (1, false) := by kernel_rfl
theorem kd38 : kindT Try.prog 38 = some (1, false) := by kernel_rfl
theorem kd39 : kindT Try.prog 39 = some (1, false) := by kernel_rfl
theorem kd40 : kindT Try.prog 40 = some (1, false) := by kernel_rfl
theorem kd41 : kindT Try.prog 41 = some (1, false) := by kernel_rfl
theorem kd42 : kindT Try.prog 42 = some (1, false) := by kernel_rfl
theorem kd43 : kindT Try.prog 43 = some (1, false) := by kernel_rfl
theorem kd44 : kindT Try.prog 44 = some (1, false) := by kernel_rfl
theorem kd45 : kindT Try.prog 45 = some (1, false) := by kernel_rfl
theorem kd46 : kindT Try.prog 46 = some (1, false) := by kernel_rfl
theorem td47 : tdesc Try.prog 47 = .int .i64 := by kernel_rfl
theorem ok47 : okT Try.prog 47 = true := by kernel_rfl
theorem zt47 : zeroT Try.prog 47 = [.int .i64 0] := by kernel_rfl
theorem kd47 : kindT Try.prog 47 = some (1, false) := by kernel_rfl
theorem kd49 : kindT Try.prog 49 = some (1, false) := by kernel_rfl
theorem kd50 : kindT Try.prog 50 = some (1, false) := by kernel_rfl
theorem kd51 : kindT Try.prog 51 = some (1, false) := by kernel_rfl
theorem kd52 : kindT Try.prog 52 = some (1, false) := by kernel_rfl
theorem kd53 : kindT Try.prog 53 = some (1, false) := by kernel_rfl
theorem td54 : tdesc Try.prog 54 = .int .u64 := by kernel_rfl
theorem ok54 : okT Try.prog 54 = true := by kernel_rfl
theorem zt54 : zeroT Try.prog 54 = [.int .u64 0] := by kernel_rfl
theorem kd54 : kindT Try.prog 54 = some (1, false) := by kernel_rfl
theorem td55 : tdesc Try.prog 55 = .array 4 1 4 [.int .u64 0, .int .u64 0, .int .u64 0, .int .u64 0] false := by kernel_rfl
theorem ok55 : okT Try.prog 55 = true := by kernel_rfl
theorem zt55 : zeroT Try.prog 55 = [.int .u64 0, .int .u64 0, .int .u64 0, .int .u64 0] := by kernel_rfl
theorem kd55 : kindT Try.prog 55 = some (4, true) := by kernel_rfl
theorem td56 : tdesc Try.prog 56 = .array 4 1 4 [.int .u64 0, .int .u64 0, .int .u64 0, .int .u64 0] false := by kernel_rfl
theorem ok56 : okT Try.prog 56 = true := by kernel_rfl
theorem zt56 : zeroT Try.prog 56 = [.int .u64 0, .int .u64 0, .int .u64 0, .int .u64 0] := by kernel_rfl
theorem kd56 : kindT Try.prog 56 = some (4, true) := by kernel_rfl
theorem kd58 : kindT Try.prog 58 = some (1, false) := by kernel_rfl
theorem kd59 : kindT Try.prog 59 = some (1, false) := by kernel_rfl
theorem kd60 : kindT Try.prog 60 = some (1, false) := by kernel_rfl
theorem kd61 : kindT Try.prog 61 = some (1, false) := by kernel_rfl
theorem kd62 : kindT Try.prog 62 = some (1, false) := by kernel_rfl
theorem kd63 : kindT Try.prog 63 = some (1, false) := by kernel_rfl
theorem kd64 : kindT Try.prog 64 = some (1, false) := by kernel_rfl
theorem td65 : tdesc Try.prog 65 = .slice 73 6 112 [.bool false, .nil, .nil, .bool false, .nil, .nil] := by kernel_rfl
theorem ok65 : okT Try.prog 65 = true := by kernel_rfl
theorem zt65 : zeroT Try.prog 65 = [.nil] := by kernel_rfl
theorem kd65 : kindT Try.prog 65 = some (1, false) := by kernel_rfl
theorem kd66 : kindT Try.prog 66 = some (1, false) := by kernel_rfl
theorem kd67 : kindT Try.prog 67 = some (1, false) := by kernel_rfl
theorem kd68 : kindT Try.prog 68 = some (1, false) := by kernel_rfl
theorem td69 : tdesc Try.prog 69 = .slice 77 8 128 [.int .i64 0, .nil, .int .i64 0, .nil, .int .i64 0, .nil, .int .i64 0, .nil] := by kernel_rfl
theorem ok69 : okT Try.prog 69 = true := by kernel_rfl
theorem zt69 : zeroT Try.prog 69 = [.nil] := by kernel_rfl
theorem kd69 : kindT Try.prog 69 = some (1, false) := by kernel_rfl
theorem kd70 : kindT Try.prog 70 = some (1, false) := by kernel_rfl
theorem kd71 : kindT Try.prog 71 = some (1, false) := by kernel_rfl
theorem td72 : tdesc Try.prog 72 = .struct 6 [.bool false, .nil, .nil, .bool false, .nil, .nil] [(0, 3, true), (3, 3, true)] := by kernel_rfl
theorem ok72 : okT Try.prog 72 = true := by kernel_rfl
theorem zt72 : zeroT Try.prog 72 = [.bool false, .nil, .nil, .bool false, .nil, .nil] := by kernel_rfl
theorem kd72 : kindT Try.prog 72 = some (6, true) := by kernel_rfl
theorem td73 : tdesc Try.prog 73 = .struct 6 [.bool false, .nil, .nil, .bool false, .nil, .nil] [(0, 3, true), (3, 3, true)] := by kernel_rfl
theorem ok73 : okT Try.prog 73 = true := by kernel_rfl
theorem zt73 : zeroT Try.prog 73 = [.bool false, .nil, .nil, .bool false, .nil, .nil] := by kernel_rfl
theorem kd73 : kindT Try.prog 73 = some (6, true) := by kernel_rfl
theorem kd75 : kindT Try.prog 75 = some (1, false) := by kernel_rfl
theorem td76 : tdesc Try.prog 76 = .struct 8 [.int .i64 0, .nil, .int .i64 0, .nil, .int .i64 0, .nil, .int .i64 0, .nil] [(0, 4, true), (4, 4, true)] := by kernel_rfl
theorem ok76 : okT Try.prog 76 = true := by kernel_rfl
theorem zt76 : zeroT Try.prog 76 = [.int .i64 0, .nil, .int .i64 0, .nil, .int .i64 0, .nil, .int .i64 0, .nil] := by kernel_rfl
theorem kd76 : kindT Try.prog 76 = some (8, true) := by kernel_rfl
theorem td77 : tdesc Try.prog 77 = .struct 8 [.int .i64 0, .nil, .int .i64 0, .nil, .int .i64 0, .nil, .int .i64 0, .nil] [(0, 4, true), (4, 4, true)] := by kernel_rfl
theorem ok77 : okT Try.prog 77 = true := by kernel_rfl
theorem zt77 : zeroT Try.prog 77 = [.int .i64 0, .nil, .int .i64 0, .nil, .int .i64 0, .nil, .int .i64 0, .nil] := by kernel_rfl
theorem kd77 : kindT Try.prog 77 = some (8, true) := by kernel_rfl
theorem kd79 : kindT Try.prog 79 = some (1, false) := by kernel_rfl
theorem kd80 : kindT Try.prog 80 = some (1, false) := by kernel_rfl
theorem kd81 : kindT Try.prog 81 = some (1, false) := by kernel_rfl
theorem kd82 : kindT Try.prog 82 = some (1, false) := by kernel_rfl
theorem kd83 : kindT Try.prog 83 = some (1, false) := by kernel_rfl
theorem kd84 : kindT Try.prog 84 = some (1, false) := by kernel_rfl
theorem kd85 : kindT Try.prog 85 = some (1, false) := by kernel_rfl
theorem kd86 : kindT Try.prog 86 = some (1, false) := by kernel_rfl
theorem kd87 : kindT Try.prog 87 = some (1, false) := by kernel_rfl
theorem kd88 : kindT Try.prog 88 = some (1, false) := by kernel_rfl
theorem kd89 : kindT Try.prog 89 = some (1, false) := by kernel_rfl
theorem kd90 : kindT Try.prog 90 = some (1, false) := by kernel_rfl
theorem kd91 : kindT Try.prog 91 = some (1, false) := by kernel_rfl
theorem kd92 : kindT Try.prog 92 = some (1, false) := by kernel_rfl
theorem kd93 : kindT Try.prog 93 = some (1, false) := by kernel_rfl
theorem kd95 : kindT Try.prog 95 = some (1, false) := by kernel_rfl
theorem kd97 : kindT Try.prog 97 = some (1, false) := by kernel_rfl
theorem kd98 : kindT Try.prog 98 = some (1, false) := by kernel_rfl
theorem kd99 : kindT Try.prog 99 = some (1, false) := by kernel_rfl
theorem kd101 : kindT Try.prog 101 = some (1, false) := by kernel_rfl
theorem kd102 : kindT Try.prog 102 = some (1, false) := by kernel_rfl
theorem kd103 : kindT Try.prog 103 = some (1, false) := by kernel_rfl
theorem kd104 : kindT Try.prog 104 = some (1, false) := by kernel_rfl
theorem td105 : tdesc Try.prog 105 = .int .u32 := by kernel_rfl
theorem ok105 : okT Try.prog 105 = true := by kernel_rfl
theorem zt105 : zeroT Try.prog 105 = [.int .u32 0] := by kernel_rfl
theorem kd105 : kindT Try.prog 105 = some (1, false) := by kernel_rfl
theorem td106 : tdesc Try.prog 106 = .int .u64 := by kernel_rfl
theorem ok106 : okT Try.prog 106 = true := by kernel_rfl
theorem zt106 : zeroT Try.prog 106 = [.int .u64 0] := by kernel_rfl
theorem kd106 : kindT Try.prog 106 = some (1, false) := by kernel_rfl
theorem kd107 : kindT Try.prog 107 = some (1, false) := by kernel_rfl
theorem kd109 : kindT Try.prog 109 = some (1, false) := by kernel_rfl
theorem kd110 : kindT Try.prog 110 = some (1, false) := by kernel_rfl
theorem kd111 : kindT Try.prog 111 = some (1, false) := by kernel_rfl
theorem kd112 : kindT Try.prog 112 = some (1, false) := by kernel_rfl
theorem kd113 : kindT Try.prog 113 = some (1, false) := by kernel_rfl
theorem kd114 : kindT Try.prog 114 = some (1, false) := by kernel_rfl
theorem kd115 : kindT Try.prog 115 = some (1, false) := by kernel_rfl
theorem kd116 : kindT Try.prog 116 = some (1, false) := by kernel_rfl
theorem kd117 : kindT Try.prog 117 = some (1, false) := by kernel_rfl
theorem kd118 : kindT Try.prog 118 = some (1, false) := by kernel_rfl
theorem kd119 : kindT Try.prog 119 = some (1, false) := by kernel_rfl
theorem kd120 : kindT Try.prog 120 = some (1, false) := by kernel_rfl
theorem td121 : tdesc Try.prog 121 = .slice 3 1 8 [.int .i64 0] := by kernel_rfl
theorem ok121 : okT Try.prog 121 = true := by kernel_rfl
theorem zt121 : zeroT Try.prog 121 = [.nil] := by kernel_rfl
theorem kd121 : kindT Try.prog 121 = some (1, false) := by kernel_rfl
theorem kd122 : kindT Try.prog 122 = some (1, false) := by kernel_rfl
theorem kd123 : kindT Try.prog 123 = some (1, false) := by kernel_rfl
theorem kd124 : kindT Try.prog 124 = some (1, false) := by kernel_rfl
theorem kd125 : kindT Try.prog 125 = some (1, false) := by kernel_rfl
theorem kd126 : kindT Try.prog 126 = some (1, false) := by kernel_rfl
theorem kd127 : kindT Try.prog 127 = some (1, false) := by kernel_rfl
theorem kd128 : kindT Try.prog 128 = some (1, false) := by kernel_rfl
theorem kd129 : kindT Try.prog 129 = some (1, false) := by kernel_rfl
theorem kd130 : kindT Try.prog 130 = some (1, false) := by kernel_rfl
theorem kd131 : kindT Try.prog 131 = some (1, false) := by kernel_rfl
theorem kd132 : kindT Try.prog 132 = some (1, false) := by kernel_rfl
theorem kd133 : kindT Try.prog 133 = some (1, false) := by kernel_rfl
theorem kd134 : kindT Try.prog 134 = some (1, false) := by kernel_rfl
theorem kd135 : kindT Try.prog 135 = some (1, false) := by kernel_rfl
theorem kd136 : kindT Try.prog 136 = some (1, false) := by kernel_rfl
theorem kd137 : kindT Try.prog 137 = some (1, false) := by kernel_rfl
theorem kd138 : kindT Try.prog 138 = some (1, false) := by kernel_rfl
theorem kd140 : kindT Try.prog 140 = some (1, false) := by kernel_rfl
theorem kd142 : kindT Try.prog 142 = some (1, false) := by kernel_rfl
theorem kd144 : kindT Try.prog 144 = some (1, false) := by kernel_rfl
theorem kd145 : kindT Try.prog 145 = some (1, false) := by kernel_rfl
theorem kd146 : kindT Try.prog 146 = some (1, false) := by kernel_rfl
theorem kd148 : kindT Try.prog 148 = some (1, false) := by kernel_rfl
theorem kd149 : kindT Try.prog 149 = some (1, false) := by kernel_rfl
theorem kd151 : kindT Try.prog 151 = some (1, false) := by kernel_rfl
theorem kd152 : kindT Try.prog 152 = some (1, false) := by kernel_rfl
theorem kd153 : kindT Try.prog 153 = some (1, false) := by kernel_rfl
theorem kd154 : kindT Try.prog 154 = some (1, false) := by kernel_rfl
theorem kd155 : kindT Try.prog 155 = some (1, false) := by kernel_rfl
theorem kd156 : kindT Try.prog 156 = some (1, false) := by kernel_rfl
theorem kd157 : kindT Try.prog 157 = some (1, false) := by kernel_rfl
theorem kd158 : kindT Try.prog 158 = some (1, false) := by kernel_rfl
theorem kd160 : kindT Try.prog 160 = some (1, false) := by kernel_rfl
theorem td161 : tdesc Try.prog 161 = .slice 5 1 1 [.int .u8 0] := by kernel_rfl
theorem ok161 : okT Try.prog 161 = true := by kernel_rfl
theorem zt161 : zeroT Try.prog 161 = [.nil] := by kernel_rfl
theorem kd161 : kindT Try.prog 161 = some (1, false) := by kernel_rfl
theorem kd162 : kindT Try.prog 162 = some (1, false) := by kernel_rfl
theorem kd164 : kindT Try.prog 164 = some (1, false) := by kernel_rfl
theorem kd166 : kindT Try.prog 166 = some (1, false) := by kernel_rfl
theorem kd167 : kindT Try.prog 167 = some (1, false) := by kernel_rfl
theorem kd169 : kindT Try.prog 169 = some (1, false) := by kernel_rfl
theorem kd170 : kindT Try.prog 170 = some (1, false) := by kernel_rfl
theorem kd171 : kindT Try.prog 171 = some (1, false) := by kernel_rfl
theorem kd172 : kindT Try.prog 172 = some (1, false) := by kernel_rfl
theorem kd173 : kindT Try.prog 173 = some (1, false) := by kernel_rfl
theorem kd174 : kindT Try.prog 174 = some (1, false) := by kernel_rfl
theorem kd175 : kindT Try.prog 175 = some (1, false) := by kernel_rfl
theorem kd176 : kindT Try.prog 176 = some (1, false) := by kernel_rfl
theorem kd177 : kindT Try.prog 177 = some (1, false) := by kernel_rfl
theorem kd178 : kindT Try.prog 178 = some (1, false) := by kernel_rfl
theorem kd179 : kindT Try.prog 179 = some (1, false) := by kernel_rfl
theorem kd180 : kindT Try.prog 180 = some (1, false) := by kernel_rfl
theorem kd182 : kindT Try.prog 182 = some (1, false) := by kernel_rfl
theorem kd183 : kindT Try.prog 183 = some (1, false) := by kernel_rfl
theorem td184 : tdesc Try.prog 184 = .struct 4 [.any, .any, .any, .str ⟨#[]⟩] [(0, 1, false), (1, 1, false), (2, 1, false), (3, 1, false)] := by kernel_rfl
theorem ok184 : okT Try.prog 184 = true := by kernel_rfl
theorem zt184 : zeroT Try.prog 184 = [.any, .any, .any, .str ⟨#[]⟩] := by kernel_rfl
theorem kd184 : kindT Try.prog 184 = some (4, true) := by kernel_rfl
theorem td185 : tdesc Try.prog 185 = .struct 4 [.any, .any, .any, .str ⟨#[]⟩] [(0, 1, false), (1, 1, false), (2, 1, false), (3, 1, false)] := by kernel_rfl
theorem ok185 : okT Try.prog 185 = true := by kernel_rfl
theorem zt185 : zeroT Try.prog 185 = [.any, .any, .any, .str ⟨#[]⟩] := by kernel_rfl
theorem kd185 : kindT Try.prog 185 = some (4, true) := by kernel_rfl
theorem kd189 : kindT Try.prog 189 = some (1, false) := by kernel_rfl
theorem td190 : tdesc Try.prog 190 = .int .u8 := by kernel_rfl
theorem ok190 : okT Try.prog 190 = true := by kernel_rfl
theorem zt190 : zeroT Try.prog 190 = [.int .u8 0] := by kernel_rfl
theorem kd190 : kindT Try.prog 190 = some (1, false) := by kernel_rfl
theorem td191 : tdesc Try.prog 191 = .int .u8 := by kernel_rfl
theorem ok191 : okT Try.prog 191 = true := by kernel_rfl
theorem zt191 : zeroT Try.prog 191 = [.int .u8 0] := by kernel_rfl
theorem kd191 : kindT Try.prog 191 = some (1, false) := by kernel_rfl
theorem kd192 : kindT Try.prog 192 = some (1, false) := by kernel_rfl
theorem kd193 : kindT Try.prog 193 = some (1, false) := by kernel_rfl
theorem td194 : tdesc Try.prog 194 = .int .i32 := by kernel_rfl
theorem ok194 : okT Try.prog 194 = true := by kernel_rfl
theorem zt194 : zeroT Try.prog 194 = [.int .i32 0] := by kernel_rfl
theorem kd194 : kindT Try.prog 194 = some (1, false) := by kernel_rfl
theorem td195 : tdesc Try.prog 195 = .int .i32 := by kernel_rfl
theorem ok195 : okT Try.prog 195 = true := by kernel_rfl
theorem zt195 : zeroT Try.prog 195 = [.int .i32 0] := by kernel_rfl
theorem kd195 : kindT Try.prog 195 = some (1, false) := by kernel_rfl
theorem td196 : tdesc Try.prog 196 = .struct 11 [.int .u64 0, .int .u64 0, .int .u32 0, .int .u8 0, .int .u8 0, .int .u8 0, .int .u8 0, .any, .any, .int .i32 0, .int .i32 0] [(0, 1, false), (1, 1, false), (2, 1, false), (3, 1, false), (4, 1, false), (5, 1, false), (6, 1, false), (7, 1, false), (8, 1, false), (9, 1, false), (10, 1, false)] := by kernel_rfl
theorem ok196 : okT Try.prog 196 = true := by kernel_rfl
theorem zt196 : zeroT Try.prog 196 = [.int .u64 0, .int .u64 0, .int .u32 0, .int .u8 0, .int .u8 0, .int .u8 0, .int .u8 0, .any, .any, .int .i32 0, .int .i32 0] := by kernel_rfl
theorem kd196 : kindT Try.prog 196 = some (11, true) := by kernel_rfl
theorem td197 : tdesc Try.prog 197 = .struct 11 [.int .u64 0, .int .u64 0, .int .u32 0, .int .u8 0, .int .u8 0, .int .u8 0, .int .u8 0, .any, .any, .int .i32 0, .int .i32 0] [(0, 1, false), (1, 1, false), (2, 1, false), (3, 1, false), (4, 1, false), (5, 1, false), (6, 1, false), (7, 1, false), (8, 1, false), (9, 1, false), (10, 1, false)] := by kernel_rfl
theorem ok197 : okT Try.prog 197 = true := by kernel_rfl
theorem zt197 : zeroT Try.prog 197 = [.int .u64 0, .int .u64 0, .int .u32 0, .int .u8 0, .int .u8 0, .int .u8 0, .int .u8 0, .any, .any, .int .i32 0, .int .i32 0] := by kernel_rfl
theorem kd197 : kindT Try.prog 197 = some (11, true) := by kernel_rfl
theorem kd198 : kindT Try.prog 198 = some (1, false) := by kernel_rfl
attribute [simp] kd1 td2 ok2 zt2 kd2 td3 ok3 zt3 kd3 td4 ok4 zt4 kd4 td5 ok5 zt5 kd5 td6 ok6 zt6 kd6 td7 ok7 zt7 kd7 td8 ok8 zt8 kd8 td9 ok9 zt9 kd9 td10 ok10 zt10 kd10 td11 ok11 zt11 kd11 td12 ok12 zt12 kd12 td13 ok13 zt13 kd13 td14 ok14 zt14 kd14 kd15 kd16 kd17 td18 ok18 zt18 kd18 td19 ok19 zt19 kd19 kd20 td21 ok21 zt21 kd21 td22 ok22 zt22 kd22 td23 ok23 zt23 kd23 td24 ok24 zt24 kd24 td25 ok25 zt25 kd25 td26 ok26 zt26 kd26 td27 ok27 zt27 kd27 kd28 td29 ok29 zt29 kd29 td30 ok30 zt30 kd30 td31 ok31 zt31 kd31 td32 ok32 zt32 kd32 td33 ok33 zt33 kd33 td34 ok34 zt34 kd34 kd35 kd36 kd37 kd38 kd39 kd40 kd41 kd42 kd43 kd44 kd45 kd46 td47 ok47 zt47 kd47 kd49 kd50 kd51 kd52 kd53 td54 ok54 zt54 kd54 td55 ok55 zt55 kd55 td56 ok56 zt56 kd56 kd58 kd59 kd60 kd61 kd62 kd63 kd64 td65 ok65 zt65 kd65 kd66 kd67 kd68 td69 ok69 zt69 kd69 kd70 kd71 td72 ok72 zt72 kd72 td73 ok73 zt73 kd73 kd75 td76 ok76 zt76 kd76 td77 ok77 zt77 kd77 kd79 kd80 kd81 kd82 kd83 kd84 kd85 kd86 kd87 kd88 kd89 kd90 kd91 kd92 kd93 kd95 kd97 kd98 kd99 kd101 kd102 kd103 kd104 td105 ok105 zt105 kd105 td106 ok106 zt106 kd106 kd107 kd109 kd110 kd111 kd112 kd113 kd114 kd115 kd116 kd117 kd118 kd119 kd120 td121 ok121 zt121 kd121 kd122 kd123 kd124 kd125 kd126 kd127 kd128 kd129 kd130 kd131 kd132 kd133 kd134 kd135 kd136 kd137 kd138 kd140 kd142 kd144 kd145 kd146 kd148 kd149 kd151 kd152 kd153 kd154 kd155 kd156 kd157 kd158 kd160 td161 ok161 zt161 kd161 kd162 kd164 kd166 kd167 kd169 kd170 kd171 kd172 kd173 kd174 kd175 kd176 kd177 kd178 kd179 kd180 kd182 kd183 td184 ok184 zt184 kd184 td185 ok185 zt185 kd185 kd189 td190 ok190 zt190 kd190 td191 ok191 zt191 kd191 kd192 kd193 td194 ok194 zt194 kd194 td195 ok195 zt195 kd195 td196 ok196 zt196 kd196 td197 ok197 zt197 kd197 kd198
theorem w64_eq (n : Int) : IntKind.i64.wrap n = wrap64 n := by
  unfold wrap64; simp [IntKind.wrap, IntKind.signed, IntKind.bits]; omega
theorem w32_eq (n : Int) : IntKind.u32.wrap n = n % 4294967296 := by
  simp [IntKind.wrap, IntKind.signed, IntKind.bits]
theorem w64u (n : Int) : IntKind.u64.wrap (n % 4294967296) = n % 4294967296 := by
  simp [IntKind.wrap, IntKind.signed, IntKind.bits]; omega
theorem w64m (n : Int) : wrap64 (n % 4294967296) = n % 4294967296 := by unfold wrap64; omega
attribute [simp] w64u w64m
theorem get_rd (l : List Int) (f : Int → AV) (i : Int) (h0 : 0 ≤ i) (h1 : i < l.length) : (l.map f)[i.toNat]? = some (f (rd l i)) := by
  obtain ⟨n, rfl⟩ := Int.eq_ofNat_of_zero_le h0
  have : n < l.length := by omega
  simp [rd, this]
noncomputable def SV121 : List AV → Option AV
  | [x0] => (unI .u32 x0).bind fun a0 => (pick fun k => nat_trim.f k a0).map fun r => (rowI .u32 r)
  | _ => none
noncomputable def SV148 : List AV → Option AV
  | [x0, x1] => (unI .u32 x0).bind fun a0 => (unI .u32 x1).bind fun a1 => (pick fun k => nat_cmp.f k a0 a1).map fun r => (.int .i64 r)
  | _ => none
noncomputable def SV163 : List AV → Option AV
  | [x0, x1, x2] => (unI .u32 x0).bind fun a0 => (unN .u64 x1).bind fun a1 => (unN .u64 x2).bind fun a2 => (pick fun k => nat_guess.f k a0 a1 a2).map fun r => (.int .u64 r)
  | _ => none
noncomputable def SV166 : List AV → Option AV
  | [x0] => (unN .u32 x0).bind fun a0 => (bits_Len32.f a0).map fun r => (.int .i64 r)
  | _ => none
noncomputable def SV161 : List AV → Option AV
  | [x0] => (unN .u32 x0).bind fun a0 => (bits_LeadingZeros32.f a0).map fun r => (.int .i64 r)
  | _ => none
noncomputable def SV130 : List AV → Option AV
  | [x0] => (unI .u32 x0).bind fun a0 => (api_Nat_uint32.f a0).map fun r => (rowI .u32 r)
  | _ => none
noncomputable def SV75 : List AV → Option AV
  | [x0, x1] => (unI .u32 x0).bind fun a0 => (unI .u32 x1).bind fun a1 => (pick fun k => nat_Add.f k a0 a1).map fun r => (rowI .u32 r)
  | _ => none
noncomputable def SV153 : List AV → Option AV
  | [x0, x1] => (unI .u32 x0).bind fun a0 => (unI .u32 x1).bind fun a1 => (pick fun k => nat_sub.f k a0 a1).map fun r => (rowI .u32 r)
  | _ => none
noncomputable def SV143 : List AV → Option AV
  | [x0, x1] => (unI .u32 x0).bind fun a0 => (unI .u32 x1).bind fun a1 => (pick fun k => nat_Sub.f k a0 a1).map fun r => (.tup [(rowI .u32 r.1), (.bool r.2)])
  | _ => none
noncomputable def SV109 : List AV → Option AV
  | [x0, x1] => (unI .u32 x0).bind fun a0 => (unI .u32 x1).bind fun a1 => (pick fun k => nat_Mul.f k a0 a1).map fun r => (rowI .u32 r)
  | _ => none
noncomputable def SV87 : List AV → Option AV
  | [x0] => (unN .u64 x0).bind fun a0 => (pick fun k => nat_Of.f k a0).map fun r => (rowI .u32 r)
  | _ => none
noncomputable def SV85 : List AV → Option AV
  | [x0] => (unI .u32 x0).bind fun a0 => (pick fun k => nat_Trim.f k a0).map fun r => (rowI .u32 r)
  | _ => none
noncomputable def SV152 : List AV → Option AV
  | [x0, x1] => (unI .u32 x0).bind fun a0 => (unI .u32 x1).bind fun a1 => (pick fun k => nat_long.f k a0 a1).map fun r => (.tup [(rowI .u32 r.1), (rowI .u32 r.2)])
  | _ => none
noncomputable def SV142 : List AV → Option AV
  | [x0, x1] => (unI .u32 x0).bind fun a0 => (unI .u32 x1).bind fun a1 => (pick fun k => nat_divmod.f k a0 a1).map fun r => (.tup [(rowI .u32 r.1), (rowI .u32 r.2)])
  | _ => none
noncomputable def SV119 : List AV → Option AV
  | [x0, x1] => (unI .u32 x0).bind fun a0 => (unI .u32 x1).bind fun a1 => (pick fun k => nat_DivMod.f k a0 a1).map fun r => (.tup [(rowI .u32 r.1), (rowI .u32 r.2.1), (.int .i64 r.2.2)])
  | _ => none
noncomputable def SV128 : List AV → Option AV
  | [x0, x1] => (unI .u32 x0).bind fun a0 => (unI .u32 x1).bind fun a1 => (pick fun k => nat_Gcd.f k a0 a1).map fun r => (rowI .u32 r)
  | _ => none
noncomputable def SV147 : List AV → Option AV
  | [x0] => (unI .u32 x0).bind fun a0 => (pick fun k => nat_show.f k a0).map fun r => (.str r)
  | _ => none
noncomputable def SV134 : List AV → Option AV
  | [x0] => (unI .u32 x0).bind fun a0 => (pick fun k => nat_Show.f k a0).map fun r => (.str r)
  | _ => none
noncomputable def SV138 : List AV → Option AV
  | [x0, x1] => (unI .u32 x0).bind fun a0 => (unI .u32 x1).bind fun a1 => (pick fun k => nat_Cmp.f k a0 a1).map fun r => (.int .i64 r)
  | _ => none
noncomputable def SV154 : List AV → Option AV
  | [x0] => (unI .u32 x0).bind fun a0 => (pick fun k => nat_size.f k a0).map fun r => (.int .i64 r)
  | _ => none
noncomputable def SV144 : List AV → Option AV
  | [x0] => (unI .u32 x0).bind fun a0 => (pick fun k => nat_Bits.f k a0).map fun r => (.int .i64 r)
  | _ => none
noncomputable def SV94 : List AV → Option AV
  | [x0] => (unI .i64 x0).bind fun a0 => (pick fun k => zelligeref03_Trim.f k a0).map fun r => (rowI .i64 r)
  | _ => none
noncomputable def SV70 : List AV → Option AV
  | [x0] => (unI .u32 x0).bind fun a0 => (pick fun k => zelligeref03_Of.f k a0).map fun r => (rowI .i64 r)
  | _ => none
noncomputable def SV135 : List AV → Option AV
  | [x0, x1] => (unI .i64 x0).bind fun a0 => (unI .i64 x1).bind fun a1 => (pick fun k => zelligeref03_Cmp.f k a0 a1).map fun r => (.int .i64 r)
  | _ => none
noncomputable def SV122 : List AV → Option AV
  | [x0] => (unI .i64 x0).bind fun a0 => (pick fun k => zelligeref03_Nat.f k a0).map fun r => (rowI .u32 r)
  | _ => none
noncomputable def SV76 : List AV → Option AV
  | [x0, x1] => (unI .u32 x0).bind fun a0 => (unI .i64 x1).bind fun a1 => (pick fun k => zelligeref03_Same.f k a0 a1).map fun r => (.bool r)
  | _ => none
noncomputable def SV117 : List AV → Option AV
  | [x0, x1] => (unI .i64 x0).bind fun a0 => (unI .i64 x1).bind fun a1 => (pick fun k => zelligeref03_Add.f k a0 a1).map fun r => (rowI .i64 r)
  | _ => none
noncomputable def SV118 : List AV → Option AV
  | [x0, x1] => (unI .i64 x0).bind fun a0 => (unI .i64 x1).bind fun a1 => (pick fun k => zelligeref03_Mul.f k a0 a1).map fun r => (rowI .i64 r)
  | _ => none
noncomputable def SV136 : List AV → Option AV
  | [x0, x1] => (unI .i64 x0).bind fun a0 => (unI .i64 x1).bind fun a1 => (pick fun k => zelligeref03_Sub.f k a0 a1).map fun r => (rowI .i64 r)
  | _ => none
noncomputable def SV123 : List AV → Option AV
  | [x0, x1] => (unI .i64 x0).bind fun a0 => (unI .i64 x1).bind fun a1 => (pick fun k => zelligeref03_DivMod.f k a0 a1).map fun r => (.tup [(rowI .i64 r.1), (rowI .i64 r.2)])
  | _ => none
noncomputable def SV145 : List AV → Option AV
  | [x0] => (unI .i64 x0).bind fun a0 => (pick fun k => zelligeref03_Half.f k a0).map fun r => (rowI .i64 r)
  | _ => none
noncomputable def SV129 : List AV → Option AV
  | [x0, x1] => (unI .i64 x0).bind fun a0 => (unI .i64 x1).bind fun a1 => (pick fun k => zelligeref03_Gcd.f k a0 a1).map fun r => (rowI .i64 r)
  | _ => none
noncomputable def SV86 : List AV → Option AV
  | [x0, x1] => (unB x0).bind fun a0 => (unI .u32 x1).bind fun a1 => (pick fun k => whole_norm.f k a0 a1).map fun r => (.agg [(.bool r.1), (rowI .u32 r.2)])
  | _ => none
noncomputable def SV127 : List AV → Option AV
  | [.agg [x0, x1]] => (unB x0).bind fun a0 => (unI .u32 x1).bind fun a1 => (pick fun k => whole_Norm.f k a0 a1).map fun r => (.agg [(.bool r.1), (rowI .u32 r.2)])
  | _ => none
noncomputable def SV120 : List AV → Option AV
  | [.agg [x0, x1], .agg [x2, x3]] => (unB x0).bind fun a0 => (unI .u32 x1).bind fun a1 => (unB x2).bind fun a2 => (unI .u32 x3).bind fun a3 => (pick fun k => whole_add.f k a0 a1 a2 a3).map fun r => (.agg [(.bool r.1), (rowI .u32 r.2)])
  | _ => none
noncomputable def SV74 : List AV → Option AV
  | [.agg [x0, x1], .agg [x2, x3]] => (unB x0).bind fun a0 => (unI .u32 x1).bind fun a1 => (unB x2).bind fun a2 => (unI .u32 x3).bind fun a3 => (pick fun k => whole_Add.f k a0 a1 a2 a3).map fun r => (.agg [(.bool r.1), (rowI .u32 r.2)])
  | _ => none
noncomputable def SV126 : List AV → Option AV
  | [.agg [x0, x1]] => (unB x0).bind fun a0 => (unI .u32 x1).bind fun a1 => (pick fun k => whole_neg.f k a0 a1).map fun r => (.agg [(.bool r.1), (rowI .u32 r.2)])
  | _ => none
noncomputable def SV82 : List AV → Option AV
  | [.agg [x0, x1]] => (unB x0).bind fun a0 => (unI .u32 x1).bind fun a1 => (pick fun k => whole_Neg.f k a0 a1).map fun r => (.agg [(.bool r.1), (rowI .u32 r.2)])
  | _ => none
noncomputable def SV108 : List AV → Option AV
  | [.agg [x0, x1], .agg [x2, x3]] => (unB x0).bind fun a0 => (unI .u32 x1).bind fun a1 => (unB x2).bind fun a2 => (unI .u32 x3).bind fun a3 => (pick fun k => whole_Mul.f k a0 a1 a2 a3).map fun r => (.agg [(.bool r.1), (rowI .u32 r.2)])
  | _ => none
noncomputable def SV125 : List AV → Option AV
  | [.agg [x0, x1]] => (unB x0).bind fun a0 => (unI .u32 x1).bind fun a1 => (pick fun k => whole_sign.f k a0 a1).map fun r => (.int .i64 r)
  | _ => none
noncomputable def SV81 : List AV → Option AV
  | [.agg [x0, x1]] => (unB x0).bind fun a0 => (unI .u32 x1).bind fun a1 => (pick fun k => whole_Sign.f k a0 a1).map fun r => (.int .i64 r)
  | _ => none
noncomputable def SV110 : List AV → Option AV
  | [.agg [x0, x1], .agg [x2, x3]] => (unB x0).bind fun a0 => (unI .u32 x1).bind fun a1 => (unB x2).bind fun a2 => (unI .u32 x3).bind fun a3 => (pick fun k => whole_Cmp.f k a0 a1 a2 a3).map fun r => (.int .i64 r)
  | _ => none
noncomputable def SV37 : List AV → Option AV
  | [x0] => (unN .i64 x0).bind fun a0 => (pick fun k => whole_Of.f k a0).map fun r => (.agg [(.bool r.1), (rowI .u32 r.2)])
  | _ => none
noncomputable def SV95 : List AV → Option AV
  | [.agg [x0, x1]] => (unB x0).bind fun a0 => (unI .u32 x1).bind fun a1 => (pick fun k => whole_Show.f k a0 a1).map fun r => (.str r)
  | _ => none
noncomputable def SV72 : List AV → Option AV
  | [.agg [x0, x1], .agg [x2, x3]] => (unB x0).bind fun a0 => (unI .u32 x1).bind fun a1 => (unB x2).bind fun a2 => (unI .u32 x3).bind fun a3 => (pick fun k => whole_Floor.f k a0 a1 a2 a3).map fun r => (.tup [(.agg [(.bool r.1), (rowI .u32 r.2.1)]), (.agg [(.bool r.2.2.1), (rowI .u32 r.2.2.2.1)]), (.int .i64 r.2.2.2.2)])
  | _ => none
noncomputable def SV93 : List AV → Option AV
  | [x0, x1] => (unN .i64 x0).bind fun a0 => (unI .i64 x1).bind fun a1 => (zelligeref04_make1.f a0 a1).map fun r => (.agg [(.int .i64 r.1), (rowI .i64 r.2)])
  | _ => none
noncomputable def SV24 : List AV → Option AV
  | [.agg [x0, x1]] => (unB x0).bind fun a0 => (unI .u32 x1).bind fun a1 => (pick fun k => zelligeref04_Of.f k a0 a1).map fun r => (.agg [(.int .i64 r.1), (rowI .i64 r.2)])
  | _ => none
noncomputable def SV22 : List AV → Option AV
  | [x0] => (unN .i64 x0).bind fun a0 => (pick fun k => zelligeref04_Long.f k a0).map fun r => (.agg [(.int .i64 r.1), (rowI .i64 r.2)])
  | _ => none
noncomputable def SV25 : List AV → Option AV
  | [.agg [x0, x1], .agg [x2, x3]] => (unB x0).bind fun a0 => (unI .u32 x1).bind fun a1 => (unN .i64 x2).bind fun a2 => (unI .i64 x3).bind fun a3 => (pick fun k => zelligeref04_Same.f k a0 a1 a2 a3).map fun r => (.bool r)
  | _ => none
noncomputable def SV97 : List AV → Option AV
  | [.agg [x0, x1], .agg [x2, x3]] => (unN .i64 x0).bind fun a0 => (unI .i64 x1).bind fun a1 => (unN .i64 x2).bind fun a2 => (unI .i64 x3).bind fun a3 => (pick fun k => zelligeref04_Add.f k a0 a1 a2 a3).map fun r => (.agg [(.int .i64 r.1), (rowI .i64 r.2)])
  | _ => none
noncomputable def SV80 : List AV → Option AV
  | [.agg [x0, x1]] => (unN .i64 x0).bind fun a0 => (unI .i64 x1).bind fun a1 => (zelligeref04_Neg.f a0 a1).map fun r => (.agg [(.int .i64 r.1), (rowI .i64 r.2)])
  | _ => none
noncomputable def SV124 : List AV → Option AV
  | [.agg [x0, x1], .agg [x2, x3]] => (unN .i64 x0).bind fun a0 => (unI .i64 x1).bind fun a1 => (unN .i64 x2).bind fun a2 => (unI .i64 x3).bind fun a3 => (pick fun k => zelligeref04_Sub.f k a0 a1 a2 a3).map fun r => (.agg [(.int .i64 r.1), (rowI .i64 r.2)])
  | _ => none
noncomputable def SV79 : List AV → Option AV
  | [.agg [x0, x1], .agg [x2, x3]] => (unN .i64 x0).bind fun a0 => (unI .i64 x1).bind fun a1 => (unN .i64 x2).bind fun a2 => (unI .i64 x3).bind fun a3 => (pick fun k => zelligeref04_Mul.f k a0 a1 a2 a3).map fun r => (.agg [(.int .i64 r.1), (rowI .i64 r.2)])
  | _ => none
noncomputable def SV78 : List AV → Option AV
  | [.agg [x0, x1], .agg [x2, x3]] => (unN .i64 x0).bind fun a0 => (unI .i64 x1).bind fun a1 => (unN .i64 x2).bind fun a2 => (unI .i64 x3).bind fun a3 => (pick fun k => zelligeref04_Cmp.f k a0 a1 a2 a3).map fun r => (.int .i64 r)
  | _ => none
noncomputable def SV77 : List AV → Option AV
  | [.agg [x0, x1], .agg [x2, x3]] => (unN .i64 x0).bind fun a0 => (unI .i64 x1).bind fun a1 => (unN .i64 x2).bind fun a2 => (unI .i64 x3).bind fun a3 => (pick fun k => zelligeref04_Floor.f k a0 a1 a2 a3).map fun r => (.tup [(.agg [(.int .i64 r.1), (rowI .i64 r.2.1)]), (.agg [(.int .i64 r.2.2.1), (rowI .i64 r.2.2.2)])])
  | _ => none
noncomputable def SV : FuncId → List AV → Option AV
  | 121 => SV121
  | 148 => SV148
  | 163 => SV163
  | 166 => SV166
  | 161 => SV161
  | 130 => SV130
  | 75 => SV75
  | 153 => SV153
  | 143 => SV143
  | 109 => SV109
  | 87 => SV87
  | 85 => SV85
  | 152 => SV152
  | 142 => SV142
  | 119 => SV119
  | 128 => SV128
  | 147 => SV147
  | 134 => SV134
  | 138 => SV138
  | 154 => SV154
  | 144 => SV144
  | 94 => SV94
  | 70 => SV70
  | 135 => SV135
  | 122 => SV122
  | 76 => SV76
  | 117 => SV117
  | 118 => SV118
  | 136 => SV136
  | 123 => SV123
  | 145 => SV145
  | 129 => SV129
  | 86 => SV86
  | 127 => SV127
  | 120 => SV120
  | 74 => SV74
  | 126 => SV126
  | 82 => SV82
  | 108 => SV108
  | 125 => SV125
  | 81 => SV81
  | 110 => SV110
  | 37 => SV37
  | 95 => SV95
  | 72 => SV72
  | 93 => SV93
  | 24 => SV24
  | 22 => SV22
  | 25 => SV25
  | 97 => SV97
  | 80 => SV80
  | 124 => SV124
  | 79 => SV79
  | 78 => SV78
  | 77 => SV77
  | _ => fun _ => none
attribute [simp] SV SV121 SV148 SV163 SV166 SV161 SV130 SV75 SV153 SV143 SV109 SV87 SV85 SV152 SV142 SV119 SV128 SV147 SV134 SV138 SV154 SV144 SV94 SV70 SV135 SV122 SV76 SV117 SV118 SV136 SV123 SV145 SV129 SV86 SV127 SV120 SV74 SV126 SV82 SV108 SV125 SV81 SV110 SV37 SV95 SV72 SV93 SV24 SV22 SV25 SV97 SV80 SV124 SV79 SV78 SV77
noncomputable def SR130 : List AV → List Blk → List Bool → Option (AV × List Blk × List Bool)
  | [x], [], [] => (unI .u32 x).bind fun l => (api_Nat_uint32.f l).map fun r => (.own 1 0 r.length 1, [.gone, .arr (r.map (.int .u32))], [false, false])
  | _, _, _ => none
noncomputable def SR151 : List AV → List Blk → List Bool → Option (AV × List Blk × List Bool)
  | [.own 0 0 n 1, .int .u32 b], [.arr cs], [false] => (unC .u32 cs).bind fun l => if n ≤ l.length then (pick fun k => nat_short.f k (l.take n) b).map fun r => (.int .u32 r.1, [.arr (r.2.map (.int .u32) ++ (l.drop n).map (.int .u32))], [false]) else none
  | _, _, _ => none
noncomputable def SR162 : List AV → List Blk → List Bool → Option (AV × List Blk × List Bool)
  | [x, .int .i64 b], [], [] => (unI .u32 x).bind fun l => (pick fun k => nat_shift.f k l b).map fun r => (.own 2 0 r.length 1, [.gone, .arr [.int .u32 (r.getLast?.getD 0)], .arr (r.map (.int .u32))], [false, false, false])
  | _, _, _ => none
noncomputable def SR121 : List AV → List Blk → List Bool → Option (AV × List Blk × List Bool)
  | [.row n cs], [], [] => (SV121 [.row n cs]).map fun r => (r, [], [])
  | [.own 0 0 n 1], [.arr cs], [false] => (unC .u32 cs).bind fun l => if n ≤ l.length then (pick fun k => nat_trim.f k (l.take n)).map fun r => (.own 0 0 r.length 1, [.arr cs], [false]) else none
  | _, _, _ => none
noncomputable def SR164 : List AV → List Blk → List Bool → Option (AV × List Blk × List Bool)
  | [.own 0 o n 1, .own 1 0 m 1, .int .u64 q], [.arr cs, .arr ds], [false, false] => (unC .u32 cs).bind fun u => (unC .u32 ds).bind fun v => if o + n ≤ u.length ∧ m ≤ v.length then (pick fun k => nat_off.f k ((u.drop o).take n) (v.take m) q).map fun r => (.bool r.1, [.arr ((u.take o).map (.int .u32) ++ (r.2.map (.int .u32) ++ (u.drop (o + n)).map (.int .u32))), .arr ds], [false, false]) else none
  | _, _, _ => none
noncomputable def SR165 : List AV → List Blk → List Bool → Option (AV × List Blk × List Bool)
  | [.own 0 o n 1, .own 1 0 m 1], [.arr cs, .arr ds], [false, false] => (unC .u32 cs).bind fun u => (unC .u32 ds).bind fun v => if o + n ≤ u.length ∧ m ≤ v.length then (pick fun k => nat_back.f k ((u.drop o).take n) (v.take m)).map fun r => (.tup [], [.arr ((u.take o).map (.int .u32) ++ (r.map (.int .u32) ++ (u.drop (o + n)).map (.int .u32))), .arr ds], [false, false]) else none
  | _, _, _ => none
noncomputable def SR155 : List AV → List Blk → List Bool → Option (AV × List Blk × List Bool)
  | [.own 0 0 n 1], [.arr cs], [false] => (unC .u8 cs).bind fun l => if n ≤ l.length then (pick fun k => slices_Reverse_byte_byte.f k (l.take n)).map fun r => (.tup [], [.arr (r.map (.int .u8) ++ (l.drop n).map (.int .u8))], [false]) else none
  | _, _, _ => none
noncomputable def SR : FuncId → List AV → List Blk → List Bool → Option (AV × List Blk × List Bool)
  | 130 => SR130
  | 151 => SR151
  | 162 => SR162
  | 121 => SR121
  | 164 => SR164
  | 165 => SR165
  | 155 => SR155
  | _ => fun _ _ _ => none
attribute [simp] SR130 SR151 SR162 SR121 SR164 SR165 SR155
theorem isBytes_map : ∀ (l : List Int), isBytes (l.map (.int .u8)) = some l
  | [] => rfl
  | a :: l => by simp [isBytes, isBytes_map l]
attribute [simp] isBytes_map
def keepT (l : List (Nat × List Nat)) (i : Nat) : List Nat := ((l.find? (·.1 == i)).map (·.2)).getD []
def depT (l : List (Nat × List (List Nat × List Nat × Bool))) (i : Nat) : List (List Nat × List Nat × Bool) := ((l.find? (·.1 == i)).map (·.2)).getD []
noncomputable def mkE (ref L : List FuncId) (kt : List (Nat × List Nat)) (dt : List (Nat × List (List Nat × List Nat × Bool))) : Env := ⟨Try.prog, fun f => ref.contains f, fun f xs => if L.contains f then SV f (xs.map wk) else none, fun f xs h z => if L.contains f then SR f xs h z else none, keepT kt, depT dt⟩
theorem mk_P {ref L : List FuncId} {kt : List (Nat × List Nat)} {dt : List (Nat × List (List Nat × List Nat × Bool))} : (mkE ref L kt dt).P = Try.prog := rfl
theorem mk_ref {ref L : List FuncId} {kt : List (Nat × List Nat)} {dt : List (Nat × List (List Nat × List Nat × Bool))} {f : FuncId} : (mkE ref L kt dt).ref f = ref.contains f := rfl
theorem mk_call {ref L : List FuncId} {kt : List (Nat × List Nat)} {dt : List (Nat × List (List Nat × List Nat × Bool))} {f : FuncId} {xs : List AV} : (mkE ref L kt dt).call f xs = if L.contains f then SV f (xs.map wk) else none := rfl
theorem mk_callR {ref L : List FuncId} {kt : List (Nat × List Nat)} {dt : List (Nat × List (List Nat × List Nat × Bool))} {f : FuncId} {xs : List AV} {h : List Blk} {z : List Bool} : (mkE ref L kt dt).callR f xs h z = if L.contains f then SR f xs h z else none := rfl
theorem mk_keep {ref L : List FuncId} {kt : List (Nat × List Nat)} {dt : List (Nat × List (List Nat × List Nat × Bool))} {i : Nat} : (mkE ref L kt dt).keep i = keepT kt i := rfl
theorem sh_shl (k : IntKind) (a b : Int) : shiftA .shl k a b = if b < 0 then none else some (.int k (shl k a b)) := rfl
theorem sh_shr (k : IntKind) (a b : Int) : shiftA .shr k a b = if b < 0 then none else some (.int k (shr k a b)) := by
  unfold shiftA shr; split
  · rfl
  · rw [Int.fdiv_eq_ediv_of_nonneg]; exact Int.le_of_lt (Int.pow_pos (by decide))
theorem shl32 (a : Int) : shl .u64 a 32 = IntKind.u64.wrap (a * 4294967296) := rfl
theorem shr32 (a : Int) : shr .u64 a 32 = a / 4294967296 := rfl
theorem shr63 (a : Int) : shr .u64 a 63 = a / 9223372036854775808 := rfl
theorem shr16 (a : Int) : shr .u32 a 16 = a / 65536 := rfl
theorem shr8 (a : Int) : shr .u32 a 8 = a / 256 := rfl
attribute [simp] shr16 shr8 sh_shl sh_shr shl32 shr32 shr63
theorem mk_dep {ref L : List FuncId} {kt : List (Nat × List Nat)} {dt : List (Nat × List (List Nat × List Nat × Bool))} {i : Nat} : (mkE ref L kt dt).dep i = depT dt i := rfl
theorem depT_nil (i : Nat) : depT [] i = [] := rfl
theorem depT_cons (a i : Nat) (x : List (List Nat × List Nat × Bool)) (l : List (Nat × List (List Nat × List Nat × Bool))) : depT ((a, x) :: l) i = if a = i then x else depT l i := by
  unfold depT
  by_cases h : a = i
  · simp [h]
  · simp [h]
theorem baSize (a : Array UInt8) : (ByteArray.mk a).size = a.size := rfl
attribute [simp] depT_nil depT_cons baSize mk_dep Op.operands bneT bneF w64_eq w32_eq ltT ltF leT leF nltT nltF nleT nleF app1 app4 app8 mk4 mk8 maxS fr rowI List.replicate mk_P mk_ref mk_call mk_callR mk_keep unI unC unC_map beqT beqF fdivP take_map IntKind.bits List.filter_cons List.filter_nil List.take_of_length_le List.map_append List.getElem?_append_left List.getElem?_append_right List.set_append_left List.set_append_right wk wk1 wk2 SR unN unB unS keepT
theorem get_rd0 (l : List Int) (f : Int → AV) (h1 : (0 : Int) < l.length) : (l.map f)[0]? = some (f (rd l 0)) := get_rd l f 0 (Int.le_refl _) h1
theorem unC_td (k : IntKind) (l : List Int) (n o : Nat) : unC k (((l.map (.int k)).drop o).take n) = some ((l.drop o).take n) := by
  rw [← List.map_drop, ← List.map_take, unC_map]
theorem unC_apps (k : IntKind) : ∀ (a b : List AV), unC k (a ++ b) = (unC k a).bind fun l => (unC k b).map (l ++ ·)
  | [], b => by simp [unC]
  | c :: a, b => by
    cases c <;> simp only [List.cons_append, unC] <;> try rfl
    split
    · rw [unC_apps k a b]; cases unC k a <;> cases unC k b <;> simp
    · rfl
theorem unC_take (k : IntKind) (l : List Int) (n : Nat) : unC k ((l.map (.int k)).take n) = some (l.take n) := by rw [← List.map_take, unC_map]
theorem unC_drop (k : IntKind) (l : List Int) (n : Nat) : unC k ((l.map (.int k)).drop n) = some (l.drop n) := by rw [← List.map_drop, unC_map]
theorem take_app2 {α : Type} (a b c : List α) : (a ++ (b ++ c)).take (a.length + b.length) = a ++ b := by
  rw [← List.append_assoc, List.take_append_of_le_length (by simp), List.take_of_length_le (by simp)]
theorem take_mapp {α β : Type} (f : α → β) (l : List α) (m : List β) : (l.map f ++ m).take l.length = l.map f := by
  rw [List.take_append_of_le_length (by simp), List.take_of_length_le (by simp)]
attribute [simp] take_mapp take_app2 unC_td unC_apps unC_take unC_drop
theorem bt_get (d : Array UInt8) (i : Int) (h0 : 0 ≤ i) (h1 : i < d.size) : d[i.toNat]? = some (UInt8.ofNat (bt ⟨d⟩ i).toNat) := by
  have h : i.toNat < d.size := by omega
  have e : bt ⟨d⟩ i = ((d[i.toNat]'h).toNat : Int) := by
    unfold bt; rw [dif_pos (show i.toNat < (ByteArray.mk d).size from h)]; rfl
  rw [e]; simp [h]
theorem bt_nat (b : ByteArray) (i : Int) : ((UInt8.ofNat (bt b i).toNat).toNat : Int) = bt b i := by
  obtain ⟨h0, h1⟩ := bt_range b i
  simp; omega
theorem lbt_get (d : List UInt8) (i : Int) (h0 : 0 ≤ i) (h1 : i < d.length) : d[i.toNat]? = some (UInt8.ofNat (bt ⟨d.toArray⟩ i).toNat) := by
  have := bt_get d.toArray i h0 (by simpa using h1)
  simpa using this
theorem w8_eq (n : Int) : IntKind.u8.wrap n = n % 256 := by
  simp [IntKind.wrap, IntKind.signed, IntKind.bits]
theorem w64_24 : wrap64 24 = 24 := by unfold wrap64; rfl
theorem w64_8 : wrap64 8 = 8 := by unfold wrap64; rfl
attribute [simp high] lbt_get bt_get
theorem bt_max (b : ByteArray) (i : Int) : max (bt b i) 0 % 256 = bt b i := by
  obtain ⟨h0, h1⟩ := bt_range b i
  omega
attribute [simp] bt_max w64_24 w64_8 w8_eq bt_nat
theorem get_app (l : List Int) (m : List AV) (f : Int → AV) (i : Int) (h0 : 0 ≤ i) (h1 : i < l.length) : (l.map f ++ m)[i.toNat]? = some (f (rd l i)) := by
  rw [List.getElem?_append_left (by simp; omega)]; exact get_rd l f i h0 h1
theorem get_app2 (a l : List Int) (m : List AV) (f g : Int → AV) (i : Int) (h0 : 0 ≤ i) (h1 : i < l.length) : (a.map g ++ (l.map f ++ m))[a.length + i.toNat]? = some (f (rd l i)) := by
  rw [List.getElem?_append_right (by simp)]; simpa using get_app l m f i h0 h1
theorem set_app2 (a : List Int) (l m : List AV) (g : Int → AV) (i : Nat) (v : AV) (h1 : i < l.length) : (a.map g ++ (l ++ m)).set (a.length + i) v = a.map g ++ (l.set i v ++ m) := by
  rw [List.set_append_right _ _ (by simp)]; simp only [List.length_map, Nat.add_sub_cancel_left]; rw [List.set_append_left _ _ h1]
attribute [simp high] get_app get_app2 set_app2 get_rd0 get_rd List.getElem?_cons_zero List.getElem?_cons_succ
theorem short_l0_len : ∀ (k : Nat) (l : List Int) (a b i : Int) (r : Int × List Int), nat_short.l0 k l a b i = some r → r.2.length = l.length := by
  intro k
  induction k with
  | zero => intro l a b i r h; simp [nat_short.l0] at h
  | succ k ih =>
    intro l a b i r h
    simp only [nat_short.l0] at h
    repeat' split at h
    all_goals first | (simp only [reduceCtorEq] at h; done) | (with_reducible obtain rfl := Option.some.inj h; rfl) | (rw [ih _ _ _ _ _ h]; simp)
theorem short_len {k : Nat} {l : List Int} {a : Int} {r : Int × List Int} (h : nat_short.f k l a = some r) : r.2.length = l.length := short_l0_len k l a _ _ r h
theorem rev_l0_len : ∀ (k : Nat) (l : List Int) (a b : Int) (r : List Int), slices_Reverse_byte_byte.l0 k l a b = some r → r.length = l.length := by
  intro k
  induction k with
  | zero => intro l a b r h; simp [slices_Reverse_byte_byte.l0] at h
  | succ k ih =>
    intro l a b r h
    simp only [slices_Reverse_byte_byte.l0] at h
    repeat' split at h
    all_goals first | (simp only [reduceCtorEq] at h; done) | (with_reducible obtain rfl := Option.some.inj h; rfl) | (rw [ih _ _ _ _ h]; simp)
theorem rev_len {k : Nat} {l r : List Int} (h : slices_Reverse_byte_byte.f k l = some r) : r.length = l.length := rev_l0_len k l _ _ r h
theorem off_l0_len : ∀ (k : Nat) (l v : List Int) (a b c d e : Int) (r : Bool × List Int), nat_off.l0 k l v a b c d e = some r → r.2.length = l.length := by
  intro k
  induction k with
  | zero => intro l v a b c d e r h; simp [nat_off.l0] at h
  | succ k ih =>
    intro l v a b c d e r h
    simp only [nat_off.l0] at h
    repeat' split at h
    all_goals first | (simp only [reduceCtorEq] at h; done) | (with_reducible obtain rfl := Option.some.inj h; rfl) | (rw [ih _ _ _ _ _ _ _ _ h]; simp)
theorem off_len {k : Nat} {l v : List Int} {a : Int} {r : Bool × List Int} (h : nat_off.f k l v a = some r) : r.2.length = l.length := off_l0_len k l v a _ _ _ _ r h
theorem back_l0_len : ∀ (k : Nat) (l v : List Int) (a b c : Int) (r : List Int), nat_back.l0 k l v a b c = some r → r.length = l.length := by
  intro k
  induction k with
  | zero => intro l v a b c r h; simp [nat_back.l0] at h
  | succ k ih =>
    intro l v a b c r h
    simp only [nat_back.l0] at h
    repeat' split at h
    all_goals first | (simp only [reduceCtorEq] at h; done) | (with_reducible obtain rfl := Option.some.inj h; rfl) | (rw [ih _ _ _ _ _ _ h]; simp)
theorem back_len {k : Nat} {l v : List Int} {r : List Int} (h : nat_back.f k l v = some r) : r.length = l.length := back_l0_len k l v _ _ _ r h
theorem offX_out {k : Nat} {u v : List Int} {lo hi q : Int} {r : Bool × List Int} (h : nat_offX.f k u lo hi v q = some r) : 0 ≤ lo ∧ lo < hi ∧ hi ≤ u.length ∧ ∃ b, (pick fun k => nat_off.f k ((u.drop lo.toNat).take (hi.toNat - lo.toNat)) v q) = some b ∧ b.2.length = hi.toNat - lo.toNat ∧ r = (b.1, u.take lo.toNat ++ b.2 ++ u.drop hi.toNat) := by
  unfold nat_offX.f at h
  split at h
  · rename_i c
    obtain ⟨b, e, h⟩ := Option.bind_eq_some_iff.1 h
    rw [List.drop_take] at e
    split at h
    · rename_i cl
      exact ⟨c.1, c.2.1, c.2.2, b, pick_of (fun k r h => nat_off.mono _ _ _ k r h) e, cl, (Option.some.inj h).symm⟩
    · cases h
  · cases h
theorem backX_out {k : Nat} {u v : List Int} {lo hi : Int} {r : List Int} (h : nat_backX.f k u lo hi v = some r) : 0 ≤ lo ∧ lo < hi ∧ hi ≤ u.length ∧ ∃ b, (pick fun k => nat_back.f k ((u.drop lo.toNat).take (hi.toNat - lo.toNat)) v) = some b ∧ b.length = hi.toNat - lo.toNat ∧ r = u.take lo.toNat ++ b ++ u.drop hi.toNat := by
  unfold nat_backX.f at h
  split at h
  · rename_i c
    obtain ⟨b, e, h⟩ := Option.bind_eq_some_iff.1 h
    rw [List.drop_take] at e
    split at h
    · rename_i cl
      exact ⟨c.1, c.2.1, c.2.2, b, pick_of (fun k r h => nat_back.mono _ _ k r h) e, cl, (Option.some.inj h).symm⟩
    · cases h
  · cases h
theorem trim_l0_pre : ∀ (k : Nat) (l r : List Int), nat_trim.l0 k l = some r → ∃ n, n ≤ l.length ∧ r = l.take n := by
  intro k
  induction k with
  | zero => intro l r h; simp [nat_trim.l0] at h
  | succ k ih =>
    intro l r h
    simp only [nat_trim.l0] at h
    repeat' split at h
    all_goals first | (simp only [reduceCtorEq] at h; done) | (with_reducible obtain rfl := Option.some.inj h; exact ⟨_, Nat.le_refl _, by simp⟩) | (obtain ⟨n, hn, rfl⟩ := ih _ _ h; exact ⟨n, by simp at hn; omega, by rw [List.take_take, Nat.min_eq_left]; simp at hn; omega⟩)
theorem trim_pre {k : Nat} {l r : List Int} (h : nat_trim.f k l = some r) : ∃ t, l = r ++ t := by
  obtain ⟨n, _, rfl⟩ := trim_l0_pre k l r h
  exact ⟨l.drop n, (List.take_append_drop n l).symm⟩
end Go.Proofs.Ytdaggnflamacgaa.ZRat
/- What the walks give: functions' meanings hold. -/
namespace Go.Proofs.Ytdaggnflamacgaa.ZRat
open Go.RowKit Go.Proofs.Ytdaggnflamacgaa.Wd
open Go Go.Proofs.Ytdaggnflamacgaa.Ab Go.Proofs
set_option linter.unusedSimpArgs false
set_option linter.unusedVariables false
theorem mixed : Try.prog.follows .mixedOrders = true := by kernel_rfl
def GoodV (f : FuncId) : Prop := ∀ xs r, SV f xs = some r → OkV Try.prog f xs r
def GoodR (f : FuncId) : Prop := ∀ xs h z v h' z', SR f xs h z = some (v, h', z') → OkR Try.prog f xs h z v h' z'
theorem all_nil {p : FuncId → Prop} : ∀ f ∈ ([] : List FuncId), p f := fun f h => by cases h
theorem all_cons {p : FuncId → Prop} {a : FuncId} {l : List FuncId} (h : p a) (t : ∀ f ∈ l, p f) : ∀ f ∈ a :: l, p f := fun f hf => by
  rcases List.mem_cons.1 hf with e | e
  · exact e ▸ h
  · exact t f e
theorem mkE_ok {ref L : List FuncId} {kt : List (Nat × List Nat)} {dt : List (Nat × List (List Nat × List Nat × Bool))} (hV : ∀ f ∈ L, GoodV f) (hR : ∀ f ∈ L, GoodR f) : EnvOk (mkE ref L kt dt) Try.prog := by
  refine ⟨rfl, fun f xs r h => ?_, fun f xs h z v h' z' hr => ?_⟩
  · simp only [mk_call] at h
    split at h
    · rename_i hc; exact OkV.wkA (hV f (by simpa using hc) _ _ h)
    · cases h
  · simp only [mk_callR] at hr
    split at hr
    · rename_i hc; exact hR f (by simpa using hc) _ _ _ _ _ _ hr
    · cases hr
theorem unB_eq {x : AV} {b : Bool} (h : unB x = some b) : x = .bool b := by cases x <;> simp only [unB, reduceCtorEq] at h; cases h; rfl
theorem unS_eq {x : AV} {b : ByteArray} (h : unS x = some b) : x = .str b := by cases x <;> simp only [unS, reduceCtorEq] at h; cases h; rfl
theorem unN_eq {k : IntKind} {x : AV} {n : Int} (h : unN k x = some n) : x = .int k n := by
  cases x <;> simp only [unN, reduceCtorEq] at h
  split at h
  · rename_i e; subst e; cases h; rfl
  · cases h
theorem okR_ofV {P : Program} {f : FuncId} {n m : Nat} {cs ds : List AV} (h : OkV P f [.row n cs] (.row m ds)) : OkR P f [.row n cs] [] [] (.row m ds) [] [] :=
  ⟨h.1, fun K ρ S w args H ha => (h.2 S w args H.sb ⟨ha.1, fun j c hj => by
    obtain ⟨v, hv, hp⟩ := ha.2 j c hj
    refine ⟨v, hv, ?_⟩
    cases j with
    | zero => simp at hj; subst hj; exact hp
    | succ j => simp at hj⟩).mono fun e w' ⟨v, S', he, hv, X⟩ => ⟨v, ρ, S', he, hv, (H.later X).1, (H.later X).2⟩⟩
end Go.Proofs.Ytdaggnflamacgaa.ZRat
namespace Go.Proofs.Ytdaggnflamacgaa.ZRat
open Go.RowKit Go.Proofs.Ytdaggnflamacgaa.Wd
open Go Go.Proofs.Ytdaggnflamacgaa.Ab Go.Proofs
set_option linter.unusedSimpArgs false
set_option linter.unusedVariables false
set_option maxHeartbeats 4000000
set_option maxRecDepth 10000
noncomputable def E121 : Env := mkE [] [] [(1, [0])] []
theorem n121_ls (r : (List Int)) (k : Nat) : (∀ (x0 : List Int), nat_trim.l0 k x0 = some r → AEnds E121 (finW Try.prog Try.f121.results) 0 (atLoop Try.f121 1) ⟨fr 21 [(0, (rowI .u32 x0))], [], []⟩ (rowI .u32 r)) := by
  induction k using Nat.strongRecOn with
  | _ k ih =>
  intro x0 h
  cases k with
  | zero => simp [nat_trim.l0] at h
  | succ k1 =>
  simp only [nat_trim.l0] at h
  simp only [Try.f121, atLoop, seek, firstR, reduceIte, Option.getD_some, Nat.reduceEqDiff]
  rcases ite_some h with ⟨c2, h⟩ | ⟨c2, h⟩
  · rcases ite_some h with ⟨c3, h⟩ | ⟨c3, h⟩
    · rcases ite_some h with ⟨c4, h⟩ | ⟨c4, h⟩
      · rcases ite_some h with ⟨c5, h⟩ | ⟨c5, h⟩
        · rcases ite_some h with ⟨c6, h⟩ | ⟨c6, h⟩
          · simp (maxSteps := 2000000) (disch := (first | omega | (simp only [List.length_append, List.length_map, List.length_cons, List.length_nil, List.length_set, List.length_replicate, List.length_take, List.size_toArray]; omega))) [E121, c2, c3, c4, c5, c6]
            refine AEnds.againS ((ih k1 (by omega)) _  h) ?_
            simp only [E121, firstR, mk_keep, keepT, List.find?, Nat.reduceBEq, Option.map_some, Option.getD_some]
            simp (maxSteps := 2000000) (disch := (first | omega | (simp only [List.length_append, List.length_map, List.length_cons, List.length_nil, List.length_set, List.length_replicate, List.length_take, List.size_toArray]; omega))) [E121, c2, c3, c4, c5, c6]
            try omega
          · cases h
        · obtain rfl := Option.some.inj h
          simp (maxSteps := 2000000) (disch := (first | omega | (simp only [List.length_append, List.length_map, List.length_cons, List.length_nil, List.length_set, List.length_replicate, List.length_take, List.size_toArray]; omega))) [E121, c2, c3, c4, c5]
          try omega
      · cases h
    · cases h
  · obtain rfl := Option.some.inj h
    simp (maxSteps := 2000000) (disch := (first | omega | (simp only [List.length_append, List.length_map, List.length_cons, List.length_nil, List.length_set, List.length_replicate, List.length_take, List.size_toArray]; omega))) [E121, c2]
    try omega
theorem n121_run (k : Nat) (l0 : List Int) (r : (List Int)) (h : nat_trim.f k l0 = some r) : AEnds E121 (finW Try.prog Try.f121.results) 0 [.code (Try.f121.body.getD .skip)] (startA Try.f121 [(rowI .u32 l0)] [] []) (rowI .u32 r) := by
  unfold nat_trim.f at h
  simp only [Try.f121, Option.getD_some, startA]
  simp (maxSteps := 2000000) (disch := (first | omega | (simp only [List.length_append, List.length_map, List.length_cons, List.length_nil, List.length_set, List.length_replicate, List.length_take, List.size_toArray]; omega))) [E121]
  refine AEnds.loopS ((n121_ls _ _) _  h) ?_
  simp only [E121, firstR, mk_keep, keepT, List.find?, Nat.reduceBEq, Option.map_some, Option.getD_some]
  simp (maxSteps := 2000000) (disch := (first | omega | (simp only [List.length_append, List.length_map, List.length_cons, List.length_nil, List.length_set, List.length_replicate, List.length_take, List.size_toArray]; omega))) [E121]
  try omega
theorem fit121 : Fits Try.prog E121.ref E121.dep Try.f121 = true := by kernel_rfl
theorem good121 : GoodV 121 := by
  intro xs r h
  simp only [SV] at h
  unfold SV121 at h
  split at h
  · obtain ⟨a0, h0, h⟩ := Option.bind_eq_some_iff.1 h
    obtain ⟨q, hq, rfl⟩ := Option.map_eq_some_iff.1 h
    obtain ⟨k, hk⟩ := of_pick hq
    obtain rfl := unI_eq h0
    exact okW_ends (mkE_ok all_nil all_nil) mixed Try.func121 rfl fit121 (n121_run k _  _ hk)
  · cases h
noncomputable def E121R : Env := mkE [] [] [(1, [0])] []
theorem n121R_ls (B : List AV) (r : (List Int)) (k : Nat) : (∀ (x0 : List Int) (T : List AV), B = x0.map (.int .u32) ++ T → nat_trim.l0 k x0 = some r → AEnds E121R (finR Try.prog Try.f121.results) 1 (atLoop Try.f121 1) ⟨fr 21 [(0, .own 0 0 x0.length 1)], [.arr B], [false]⟩ (.own 0 0 r.length 1, [.arr B], [false])) := by
  induction k using Nat.strongRecOn with
  | _ k ih =>
  intro x0 T hB h
  subst hB
  cases k with
  | zero => simp [nat_trim.l0] at h
  | succ k1 =>
  simp only [nat_trim.l0] at h
  simp only [Try.f121, atLoop, seek, firstR, reduceIte, Option.getD_some, Nat.reduceEqDiff]
  rcases ite_some h with ⟨c2, h⟩ | ⟨c2, h⟩
  · rcases ite_some h with ⟨c3, h⟩ | ⟨c3, h⟩
    · rcases ite_some h with ⟨c4, h⟩ | ⟨c4, h⟩
      · rcases ite_some h with ⟨c5, h⟩ | ⟨c5, h⟩
        · rcases ite_some h with ⟨c6, h⟩ | ⟨c6, h⟩
          · simp (maxSteps := 2000000) (disch := (first | omega | (simp only [List.length_append, List.length_map, List.length_cons, List.length_nil, List.length_set, List.length_replicate, List.length_take, List.size_toArray]; omega))) [E121R, c2, c3, c4, c5, c6]
            refine AEnds.againS (ih k1 (by omega) (x0.take (wrap64 ((x0.length : Int) - 1)).toNat) ((x0.drop (wrap64 ((x0.length : Int) - 1)).toNat).map (.int .u32) ++ T) ?_ h) ?_
            · rw [← List.append_assoc, ← List.map_append, List.take_append_drop]
            simp only [E121R, firstR, mk_keep, keepT, List.find?, Nat.reduceBEq, Option.map_some, Option.getD_some]
            simp (maxSteps := 2000000) (disch := (first | omega | (simp only [List.length_append, List.length_map, List.length_cons, List.length_nil, List.length_set, List.length_replicate, List.length_take, List.size_toArray]; omega))) [E121R, c2, c3, c4, c5, c6]
            try omega
          · cases h
        · obtain rfl := Option.some.inj h
          simp (maxSteps := 2000000) (disch := (first | omega | (simp only [List.length_append, List.length_map, List.length_cons, List.length_nil, List.length_set, List.length_replicate, List.length_take, List.size_toArray]; omega))) [E121R, c2, c3, c4, c5]
      · cases h
    · cases h
  · obtain rfl := Option.some.inj h
    simp (maxSteps := 2000000) (disch := (first | omega | (simp only [List.length_append, List.length_map, List.length_cons, List.length_nil, List.length_set, List.length_replicate, List.length_take, List.size_toArray]; omega))) [E121R, c2]
theorem n121R_run (T : List AV) (k : Nat) (l0 : List Int) (r : (List Int)) (h : nat_trim.f k l0 = some r) : AEnds E121R (finR Try.prog Try.f121.results) 1 [.code (Try.f121.body.getD .skip)] (startA Try.f121 [.own 0 0 l0.length 1] [.arr (l0.map (.int .u32) ++ T)] [false]) (.own 0 0 r.length 1, [.arr (l0.map (.int .u32) ++ T)], [false]) := by
  unfold nat_trim.f at h
  simp only [Try.f121, Option.getD_some, startA]
  simp (maxSteps := 2000000) (disch := (first | omega | (simp only [List.length_append, List.length_map, List.length_cons, List.length_nil, List.length_set, List.length_replicate, List.length_take, List.size_toArray]; omega))) [E121R]
  refine AEnds.loopS (n121R_ls _ _ _ _ T rfl h) ?_
  simp only [E121R, firstR, mk_keep, keepT, List.find?, Nat.reduceBEq, Option.map_some, Option.getD_some]
  simp (maxSteps := 2000000) (disch := (first | omega | (simp only [List.length_append, List.length_map, List.length_cons, List.length_nil, List.length_set, List.length_replicate, List.length_take, List.size_toArray]; omega))) [E121R]
theorem goodR121x (hV : GoodV 121) : GoodR 121 := by
  intro xs h z v h' z' hr
  simp only [SR] at hr
  unfold SR121 at hr
  split at hr
  · rename_i n cs
    obtain ⟨q, hq, e⟩ := Option.map_eq_some_iff.1 hr
    cases e
    have := hV [.row n cs] _ (by simp only [SV]; exact hq)
    unfold SV121 at hq
    obtain ⟨l, hl, hq⟩ := Option.bind_eq_some_iff.1 hq
    obtain ⟨q, hq, rfl⟩ := Option.map_eq_some_iff.1 hq
    exact okR_ofV this
  · rename_i n cs
    obtain ⟨l, hl, hr⟩ := Option.bind_eq_some_iff.1 hr
    split at hr
    · rename_i hn
      obtain ⟨q, hq, e⟩ := Option.map_eq_some_iff.1 hr
      obtain ⟨k, hk⟩ := of_pick hq
      have := n121R_run ((l.drop n).map (.int .u32)) k (l.take n) q hk
      rw [← List.map_append, List.take_append_drop, List.length_take, Nat.min_eq_left hn, ← unC_eq hl, e] at this
      exact okR_ends (mkE_ok all_nil all_nil) mixed Try.func121 rfl (by kernel_rfl : Fits Try.prog E121R.ref E121R.dep Try.f121 = true) this
    · cases hr
  · cases hr

theorem goodR121 : GoodR 121 := goodR121x good121
end Go.Proofs.Ytdaggnflamacgaa.ZRat
namespace Go.Proofs.Ytdaggnflamacgaa.ZRat
open Go.RowKit Go.Proofs.Ytdaggnflamacgaa.Wd
open Go Go.Proofs.Ytdaggnflamacgaa.Ab Go.Proofs
set_option linter.unusedSimpArgs false
set_option linter.unusedVariables false
set_option maxHeartbeats 4000000
set_option maxRecDepth 10000
noncomputable def E148 : Env := mkE [] [121] [(7, [0, 1, 5])] []
theorem n148_ls (r : (Int)) (k : Nat) : (∀ (x0 : List Int) (x1 : List Int) (x5 : Int), nat_cmp.l0 k x0 x1 x5 = some r → AEnds E148 (finW Try.prog Try.f148.results) 0 (atLoop Try.f148 7) ⟨fr 47 [(0, (rowI .u32 x0)), (1, (rowI .u32 x1)), (5, (.int .i64 x5))], [], []⟩ (.int .i64 r)) := by
  induction k using Nat.strongRecOn with
  | _ k ih =>
  intro x0 x1 x5 h
  cases k with
  | zero => simp [nat_cmp.l0] at h
  | succ k1 =>
  simp only [nat_cmp.l0] at h
  simp only [Try.f148, atLoop, seek, firstR, reduceIte, Option.getD_some, Nat.reduceEqDiff]
  rcases ite_some h with ⟨c2, h⟩ | ⟨c2, h⟩
  · rcases ite_some h with ⟨c3, h⟩ | ⟨c3, h⟩
    · rcases ite_some h with ⟨c4, h⟩ | ⟨c4, h⟩
      · rcases ite_some h with ⟨c5, h⟩ | ⟨c5, h⟩
        · rcases ite_some h with ⟨c6, h⟩ | ⟨c6, h⟩
          · obtain rfl := Option.some.inj h
            simp (maxSteps := 2000000) (disch := (first | omega | (simp only [List.length_append, List.length_map, List.length_cons, List.length_nil, List.length_set, List.length_replicate, List.length_take, List.size_toArray]; omega))) [E148, c2, c3, c4, c5, c6]
            try omega
          · rcases ite_some h with ⟨c7, h⟩ | ⟨c7, h⟩
            · obtain rfl := Option.some.inj h
              simp (maxSteps := 2000000) (disch := (first | omega | (simp only [List.length_append, List.length_map, List.length_cons, List.length_nil, List.length_set, List.length_replicate, List.length_take, List.size_toArray]; omega))) [E148, c2, c3, c4, c5, c6, c7]
              try omega
            · simp (maxSteps := 2000000) (disch := (first | omega | (simp only [List.length_append, List.length_map, List.length_cons, List.length_nil, List.length_set, List.length_replicate, List.length_take, List.size_toArray]; omega))) [E148, c2, c3, c4, c5, c6, c7]
              refine AEnds.againS ((ih k1 (by omega)) _ _ _  h) ?_
              simp only [E148, firstR, mk_keep, keepT, List.find?, Nat.reduceBEq, Option.map_some, Option.getD_some]
              simp (maxSteps := 2000000) (disch := (first | omega | (simp only [List.length_append, List.length_map, List.length_cons, List.length_nil, List.length_set, List.length_replicate, List.length_take, List.size_toArray]; omega))) [E148, c2, c3, c4, c5, c6, c7]
              try omega
        · cases h
      · cases h
    · cases h
  · obtain rfl := Option.some.inj h
    simp (maxSteps := 2000000) (disch := (first | omega | (simp only [List.length_append, List.length_map, List.length_cons, List.length_nil, List.length_set, List.length_replicate, List.length_take, List.size_toArray]; omega))) [E148, c2]
    try omega
theorem n148_run (k : Nat) (l0 : List Int) (l1 : List Int) (r : (Int)) (h : nat_cmp.f k l0 l1 = some r) : AEnds E148 (finW Try.prog Try.f148.results) 0 [.code (Try.f148.body.getD .skip)] (startA Try.f148 [(rowI .u32 l0), (rowI .u32 l1)] [] []) (.int .i64 r) := by
  unfold nat_cmp.f at h
  simp only [Try.f148, Option.getD_some, startA]
  obtain ⟨t8, e9, h⟩ := Option.bind_eq_some_iff.1 h
  have p10 := pick_of (fun k r h => nat_trim.mono _  k r h) e9
  obtain ⟨t11, e12, h⟩ := Option.bind_eq_some_iff.1 h
  have p13 := pick_of (fun k r h => nat_trim.mono _  k r h) e12
  rcases ite_some h with ⟨c14, h⟩ | ⟨c14, h⟩
  · simp (maxSteps := 2000000) (disch := (first | omega | (simp only [List.length_append, List.length_map, List.length_cons, List.length_nil, List.length_set, List.length_replicate, List.length_take, List.size_toArray]; omega))) [E148, p10, p13, c14]
    refine AEnds.loopS ((n148_ls _ _) _ _ _  h) ?_
    simp only [E148, firstR, mk_keep, keepT, List.find?, Nat.reduceBEq, Option.map_some, Option.getD_some]
    simp (maxSteps := 2000000) (disch := (first | omega | (simp only [List.length_append, List.length_map, List.length_cons, List.length_nil, List.length_set, List.length_replicate, List.length_take, List.size_toArray]; omega))) [E148, p10, p13, c14]
    try omega
  · rcases ite_some h with ⟨c15, h⟩ | ⟨c15, h⟩
    · obtain rfl := Option.some.inj h
      simp (maxSteps := 2000000) (disch := (first | omega | (simp only [List.length_append, List.length_map, List.length_cons, List.length_nil, List.length_set, List.length_replicate, List.length_take, List.size_toArray]; omega))) [E148, p10, p13, c14, c15]
      try omega
    · obtain rfl := Option.some.inj h
      simp (maxSteps := 2000000) (disch := (first | omega | (simp only [List.length_append, List.length_map, List.length_cons, List.length_nil, List.length_set, List.length_replicate, List.length_take, List.size_toArray]; omega))) [E148, p10, p13, c14, c15]
      try omega
theorem fit148 : Fits Try.prog E148.ref E148.dep Try.f148 = true := by kernel_rfl
theorem good148 : GoodV 148 := by
  intro xs r h
  simp only [SV] at h
  unfold SV148 at h
  split at h
  · obtain ⟨a0, h0, h⟩ := Option.bind_eq_some_iff.1 h
    obtain ⟨a1, h1, h⟩ := Option.bind_eq_some_iff.1 h
    obtain ⟨q, hq, rfl⟩ := Option.map_eq_some_iff.1 h
    obtain ⟨k, hk⟩ := of_pick hq
    obtain rfl := unI_eq h0
    obtain rfl := unI_eq h1
    exact okW_ends (mkE_ok (all_cons good121 all_nil) (all_cons goodR121 all_nil)) mixed Try.func148 rfl fit148 (n148_run k _ _  _ hk)
  · cases h
theorem goodR148 : GoodR 148 := fun _ _ _ _ _ _ h => by simp [SR] at h
end Go.Proofs.Ytdaggnflamacgaa.ZRat
namespace Go.Proofs.Ytdaggnflamacgaa.ZRat
open Go.RowKit Go.Proofs.Ytdaggnflamacgaa.Wd
open Go Go.Proofs.Ytdaggnflamacgaa.Ab Go.Proofs
set_option linter.unusedSimpArgs false
set_option linter.unusedVariables false
set_option maxHeartbeats 4000000
set_option maxRecDepth 10000
noncomputable def E163 : Env := mkE [] [] [(4, [0, 1, 2, 7, 9, 10])] []
theorem n163_ls (r : (Int)) (k : Nat) : (∀ (x0 : List Int) (x1 : Int) (x2 : Int) (x7 : Int) (x9 : Int) (x10 : Int), nat_guess.l0 k x0 x1 x2 x7 x9 x10 = some r → AEnds E163 (finW Try.prog Try.f163.results) 0 (atLoop Try.f163 4) ⟨fr 58 [(0, (rowI .u32 x0)), (1, (.int .u64 x1)), (2, (.int .u64 x2)), (7, (.int .i64 x7)), (9, (.int .u64 x9)), (10, (.int .u64 x10))], [], []⟩ (.int .u64 r)) := by
  induction k using Nat.strongRecOn with
  | _ k ih =>
  intro x0 x1 x2 x7 x9 x10 h
  cases k with
  | zero => simp [nat_guess.l0] at h
  | succ k1 =>
  simp only [nat_guess.l0] at h
  simp only [Try.f163, atLoop, seek, firstR, reduceIte, Option.getD_some, Nat.reduceEqDiff]
  rcases ite_some h with ⟨c2, h⟩ | ⟨c2, h⟩
  · cases k1 with
    | zero => simp [nat_guess.j1] at h
    | succ k3 =>
    simp only [nat_guess.j1] at h
    rcases ite_some h with ⟨c4, h⟩ | ⟨c4, h⟩
    · rcases ite_some h with ⟨c5, h⟩ | ⟨c5, h⟩
      · obtain rfl := Option.some.inj h
        simp (maxSteps := 2000000) (disch := (first | omega | (simp only [List.length_append, List.length_map, List.length_cons, List.length_nil, List.length_set, List.length_replicate, List.length_take, List.size_toArray]; omega))) [E163, c2, c5]
        try omega
      · simp (maxSteps := 2000000) (disch := (first | omega | (simp only [List.length_append, List.length_map, List.length_cons, List.length_nil, List.length_set, List.length_replicate, List.length_take, List.size_toArray]; omega))) [E163, c2, c5]
        refine AEnds.againS ((ih k3 (by omega)) _ _ _ _ _ _  h) ?_
        simp only [E163, firstR, mk_keep, keepT, List.find?, Nat.reduceBEq, Option.map_some, Option.getD_some]
        simp (maxSteps := 2000000) (disch := (first | omega | (simp only [List.length_append, List.length_map, List.length_cons, List.length_nil, List.length_set, List.length_replicate, List.length_take, List.size_toArray]; omega))) [E163, c2, c5]
        try omega
    · simp at c4
  · rcases ite_some h with ⟨c6, h⟩ | ⟨c6, h⟩
    · rcases ite_some h with ⟨c7, h⟩ | ⟨c7, h⟩
      · cases k1 with
        | zero => simp [nat_guess.j1] at h
        | succ k8 =>
        simp only [nat_guess.j1] at h
        rcases ite_some h with ⟨c9, h⟩ | ⟨c9, h⟩
        · simp only [decide_eq_true_eq] at c9
          rcases ite_some h with ⟨c10, h⟩ | ⟨c10, h⟩
          · obtain rfl := Option.some.inj h
            simp (maxSteps := 2000000) (disch := (first | omega | (simp only [List.length_append, List.length_map, List.length_cons, List.length_nil, List.length_set, List.length_replicate, List.length_take, List.size_toArray]; omega))) [E163, c2, c6, c7, c9, c10]
            try omega
          · simp (maxSteps := 2000000) (disch := (first | omega | (simp only [List.length_append, List.length_map, List.length_cons, List.length_nil, List.length_set, List.length_replicate, List.length_take, List.size_toArray]; omega))) [E163, c2, c6, c7, c9, c10]
            refine AEnds.againS ((ih k8 (by omega)) _ _ _ _ _ _  h) ?_
            simp only [E163, firstR, mk_keep, keepT, List.find?, Nat.reduceBEq, Option.map_some, Option.getD_some]
            simp (maxSteps := 2000000) (disch := (first | omega | (simp only [List.length_append, List.length_map, List.length_cons, List.length_nil, List.length_set, List.length_replicate, List.length_take, List.size_toArray]; omega))) [E163, c2, c6, c7, c9, c10]
            try omega
        · simp only [decide_eq_true_eq] at c9
          obtain rfl := Option.some.inj h
          simp (maxSteps := 2000000) (disch := (first | omega | (simp only [List.length_append, List.length_map, List.length_cons, List.length_nil, List.length_set, List.length_replicate, List.length_take, List.size_toArray]; omega))) [E163, c2, c6, c7, c9]
          try omega
      · cases h
    · cases h
theorem n163_run (k : Nat) (l0 : List Int) (a1 : Int) (a2 : Int) (r : (Int)) (h : nat_guess.f k l0 a1 a2 = some r) : AEnds E163 (finW Try.prog Try.f163.results) 0 [.code (Try.f163.body.getD .skip)] (startA Try.f163 [(rowI .u32 l0), (.int .u64 a1), (.int .u64 a2)] [] []) (.int .u64 r) := by
  unfold nat_guess.f at h
  simp only [Try.f163, Option.getD_some, startA]
  rcases ite_some h with ⟨c11, h⟩ | ⟨c11, h⟩
  · rcases ite_some h with ⟨c12, h⟩ | ⟨c12, h⟩
    · rcases ite_some h with ⟨c13, h⟩ | ⟨c13, h⟩
      · rcases ite_some h with ⟨c14, h⟩ | ⟨c14, h⟩
        · rcases ite_some h with ⟨c15, h⟩ | ⟨c15, h⟩
          · cases h
          · simp (maxSteps := 2000000) (disch := (first | omega | (simp only [List.length_append, List.length_map, List.length_cons, List.length_nil, List.length_set, List.length_replicate, List.length_take, List.size_toArray]; omega))) [E163, c11, c12, c13, c14, c15]
            refine AEnds.loopS ((n163_ls _ _) _ _ _ _ _ _  h) ?_
            simp only [E163, firstR, mk_keep, keepT, List.find?, Nat.reduceBEq, Option.map_some, Option.getD_some]
            simp (maxSteps := 2000000) (disch := (first | omega | (simp only [List.length_append, List.length_map, List.length_cons, List.length_nil, List.length_set, List.length_replicate, List.length_take, List.size_toArray]; omega))) [E163, c11, c12, c13, c14, c15]
            try omega
        · cases h
      · cases h
    · cases h
  · cases h
theorem fit163 : Fits Try.prog E163.ref E163.dep Try.f163 = true := by kernel_rfl
theorem good163 : GoodV 163 := by
  intro xs r h
  simp only [SV] at h
  unfold SV163 at h
  split at h
  · obtain ⟨a0, h0, h⟩ := Option.bind_eq_some_iff.1 h
    obtain ⟨a1, h1, h⟩ := Option.bind_eq_some_iff.1 h
    obtain ⟨a2, h2, h⟩ := Option.bind_eq_some_iff.1 h
    obtain ⟨q, hq, rfl⟩ := Option.map_eq_some_iff.1 h
    obtain ⟨k, hk⟩ := of_pick hq
    obtain rfl := unI_eq h0
    obtain rfl := unN_eq h1
    obtain rfl := unN_eq h2
    exact okW_ends (mkE_ok all_nil all_nil) mixed Try.func163 rfl fit163 (n163_run k _ _ _  _ hk)
  · cases h
theorem goodR163 : GoodR 163 := fun _ _ _ _ _ _ h => by simp [SR] at h
end Go.Proofs.Ytdaggnflamacgaa.ZRat
namespace Go.Proofs.Ytdaggnflamacgaa.ZRat
open Go.RowKit Go.Proofs.Ytdaggnflamacgaa.Wd
open Go Go.Proofs.Ytdaggnflamacgaa.Ab Go.Proofs
set_option linter.unusedSimpArgs false
set_option linter.unusedVariables false
set_option maxHeartbeats 4000000
set_option maxRecDepth 10000
noncomputable def E166 : Env := mkE [] [] [] []
theorem n166_run (k : Nat) (a0 : Int) (r : (Int)) (h : bits_Len32.f  a0 = some r) : AEnds E166 (finW Try.prog Try.f166.results) 0 [.code (Try.f166.body.getD .skip)] (startA Try.f166 [(.int .u32 a0)] [] []) (.int .i64 r) := by
  unfold bits_Len32.f at h
  simp only [Try.f166, Option.getD_some, startA]
  rcases ite_some h with ⟨c1, h⟩ | ⟨c1, h⟩
  · rcases ite_some h with ⟨c2, h⟩ | ⟨c2, h⟩
    · rcases ite_some h with ⟨c3, h⟩ | ⟨c3, h⟩
      · rcases ite_some h with ⟨c4, h⟩ | ⟨c4, h⟩
        · obtain rfl := Option.some.inj h
          simp (maxSteps := 2000000) (disch := (first | omega | (simp only [List.length_append, List.length_map, List.length_cons, List.length_nil, List.length_set, List.length_replicate, List.length_take, List.size_toArray]; omega))) [E166, c1, c2, c3, c4]
          try omega
        · cases h
      · cases h
    · rcases ite_some h with ⟨c5, h⟩ | ⟨c5, h⟩
      · rcases ite_some h with ⟨c6, h⟩ | ⟨c6, h⟩
        · obtain rfl := Option.some.inj h
          simp (maxSteps := 2000000) (disch := (first | omega | (simp only [List.length_append, List.length_map, List.length_cons, List.length_nil, List.length_set, List.length_replicate, List.length_take, List.size_toArray]; omega))) [E166, c1, c2, c5, c6]
          try omega
        · cases h
      · cases h
  · rcases ite_some h with ⟨c7, h⟩ | ⟨c7, h⟩
    · rcases ite_some h with ⟨c8, h⟩ | ⟨c8, h⟩
      · rcases ite_some h with ⟨c9, h⟩ | ⟨c9, h⟩
        · obtain rfl := Option.some.inj h
          simp (maxSteps := 2000000) (disch := (first | omega | (simp only [List.length_append, List.length_map, List.length_cons, List.length_nil, List.length_set, List.length_replicate, List.length_take, List.size_toArray]; omega))) [E166, c1, c7, c8, c9]
          try omega
        · cases h
      · cases h
    · rcases ite_some h with ⟨c10, h⟩ | ⟨c10, h⟩
      · rcases ite_some h with ⟨c11, h⟩ | ⟨c11, h⟩
        · obtain rfl := Option.some.inj h
          simp (maxSteps := 2000000) (disch := (first | omega | (simp only [List.length_append, List.length_map, List.length_cons, List.length_nil, List.length_set, List.length_replicate, List.length_take, List.size_toArray]; omega))) [E166, c1, c7, c10, c11]
          try omega
        · cases h
      · cases h
theorem fit166 : Fits Try.prog E166.ref E166.dep Try.f166 = true := by kernel_rfl
theorem good166 : GoodV 166 := by
  intro xs r h
  simp only [SV] at h
  unfold SV166 at h
  split at h
  · obtain ⟨a0, h0, h⟩ := Option.bind_eq_some_iff.1 h
    obtain ⟨q, hq, rfl⟩ := Option.map_eq_some_iff.1 h
    obtain rfl := unN_eq h0
    exact okW_ends (mkE_ok all_nil all_nil) mixed Try.func166 rfl fit166 (n166_run 0 _  _ hq)
  · cases h
theorem goodR166 : GoodR 166 := fun _ _ _ _ _ _ h => by simp [SR] at h
end Go.Proofs.Ytdaggnflamacgaa.ZRat
namespace Go.Proofs.Ytdaggnflamacgaa.ZRat
open Go.RowKit Go.Proofs.Ytdaggnflamacgaa.Wd
open Go Go.Proofs.Ytdaggnflamacgaa.Ab Go.Proofs
set_option linter.unusedSimpArgs false
set_option linter.unusedVariables false
set_option maxHeartbeats 4000000
set_option maxRecDepth 10000
noncomputable def E161 : Env := mkE [] [166] [] []
theorem n161_run (k : Nat) (a0 : Int) (r : (Int)) (h : bits_LeadingZeros32.f  a0 = some r) : AEnds E161 (finW Try.prog Try.f161.results) 0 [.code (Try.f161.body.getD .skip)] (startA Try.f161 [(.int .u32 a0)] [] []) (.int .i64 r) := by
  unfold bits_LeadingZeros32.f at h
  simp only [Try.f161, Option.getD_some, startA]
  obtain ⟨t1, e2, h⟩ := Option.bind_eq_some_iff.1 h
  obtain rfl := Option.some.inj h
  simp (maxSteps := 2000000) (disch := (first | omega | (simp only [List.length_append, List.length_map, List.length_cons, List.length_nil, List.length_set, List.length_replicate, List.length_take, List.size_toArray]; omega))) [E161, e2]
  try omega
theorem fit161 : Fits Try.prog E161.ref E161.dep Try.f161 = true := by kernel_rfl
theorem good161 : GoodV 161 := by
  intro xs r h
  simp only [SV] at h
  unfold SV161 at h
  split at h
  · obtain ⟨a0, h0, h⟩ := Option.bind_eq_some_iff.1 h
    obtain ⟨q, hq, rfl⟩ := Option.map_eq_some_iff.1 h
    obtain rfl := unN_eq h0
    exact okW_ends (mkE_ok (all_cons good166 all_nil) (all_cons goodR166 all_nil)) mixed Try.func161 rfl fit161 (n161_run 0 _  _ hq)
  · cases h
theorem goodR161 : GoodR 161 := fun _ _ _ _ _ _ h => by simp [SR] at h
end Go.Proofs.Ytdaggnflamacgaa.ZRat
namespace Go.Proofs.Ytdaggnflamacgaa.ZRat
open Go.RowKit Go.Proofs.Ytdaggnflamacgaa.Wd
open Go Go.Proofs.Ytdaggnflamacgaa.Ab Go.Proofs
set_option linter.unusedSimpArgs false
set_option linter.unusedVariables false
set_option maxHeartbeats 4000000
set_option maxRecDepth 10000
noncomputable def E0 : Env := mkE [] [] [] []
theorem E0_ok : EnvOk E0 Try.prog := ⟨rfl, fun f xs r h => by simp [E0] at h, fun f xs h z r h' z' h => by simp [E0] at h⟩
theorem clone_fit : Fits Try.prog E0.ref E0.dep Try.f130 = true := by kernel_rfl
theorem clone_pos (l : List Int) (h0 : 0 < l.length) (h1 : l.length < 35184372088832) : OkR Try.prog 130 [rowI .u32 l] [] [] (.own 1 0 l.length 1) [.gone, .arr (l.map (.int .u32))] [false, false] := by
  refine okR_ends E0_ok mixed Try.func130 rfl clone_fit ?_
  simp only [Try.f130, startA]
  simp (maxSteps := 2000000) (disch := omega) [E0, nilQ, nilOp, h0]
theorem wpl_step {P : Program} {ops : Array Oper} {Q : Exit → Act → World → Prop} {a : Act} {w : World} {rest : List Oper} {o : Oper} (hw : Region.wanted o (yielded ops a.tmps) = true) (h : o.wp P a w (wpList P ops Q rest) Q) : wpList P ops Q (o :: rest) a w := by
  unfold wpList; rw [if_pos hw]; exact .inl h
theorem wpl_value {P : Program} {ops : Array Oper} {Q : Exit → Act → World → Prop} {a : Act} {w : World} {rest : List Oper} {o : Oper} {v : Value} (hw : Region.wanted o (yielded ops a.tmps) = true) (hr : (execOp a.eval o).run P w = .ok (.value v) w) (h : wpList P ops Q rest (a.put o.dst v) w) : wpList P ops Q (o :: rest) a w :=
  wpl_step hw (by unfold Oper.wp; rw [hr, Oper.upon_value]; exact h)
theorem clone_zero : OkR Try.prog 130 [.row 0 []] [] [] (.own 1 0 0 1) [.gone, .arr []] [false, false] := by
  refine ⟨(Fits.body Try.func130 clone_fit).1, fun K ρ S w args H ha => ?_⟩
  have R0 := start_rel H ha Try.f130
  refine calls_of_wp Try.func130 rfl ?_
  refine wp_seq (region_sound (s' := ⟨(startA Try.f130 [.row 0 []] [] []).tmps.set 2 .nil, [], []⟩) E0_ok mixed (fun h => by cases h) ?h0 R0 (fun ρ1 S1 a1 w1 R1 X1 => ?_))
  case h0 => simp [Try.f130, startA, runRegion, runL, stepA, E0]
  refine wp_seq (wp_seq (wp_region_list ?_))
  refine wpl_value rfl (v := a1.eval (.tmp 0)) rfl ?_
  have R2 := R1.put (v := .row 0 []) (Ext.refl _ _ _ _) R1.mem (by have := R1.look (.tmp 0); simpa [Try.f130, startA] using this) (some 3)
  obtain ⟨A, cap, hv, _, _⟩ := row_of (n := 0) (cs := []) (by have := R2.look (.tmp 3); simpa [Try.f130, startA] using this)
  refine wpl_value rfl (v := .bool A.isNone) ?h2 ?_
  case h2 =>
    have hz : (a1.put (some 3) (a1.eval (.tmp 0))).eval (.const (.slice none 0 0)) = .slice none 0 0 := rfl
    simp only [execOp, Sem.run_bind, hv, hz, run_eqGuard (.inr (.inr (.inr ⟨A, 0, cap, rfl⟩))), Result.andThen_ok, Lib.run_eql_slice_nil w1 23 105 A 0 cap 0 0 Try.underlying23, Sem.run_pure]
  have R3 := R2.put (v := .bool A.isNone) (u := .bool A.isNone) (Ext.refl _ _ _ _) R2.mem (by simp only [V3, V2, V1, P1]) (some 4)
  generalize (a1.put (some 3) (a1.eval (.tmp 0))).put (some 4) (.bool A.isNone) = a3 at R3 ⊢
  refine wp_cond (t := A.isNone) (bool_of (by have := R3.look (.tmp 4); simpa [Try.f130, startA] using this)) ?_
  cases A with
  | none =>
    refine wp_seq (region_sound (s' := ⟨((((startA Try.f130 [.row 0 []] [] []).tmps.set 2 .nil).set 3 (.row 0 [])).set 4 (.bool true)).set 2 .nil, [], []⟩) E0_ok mixed (fun h => by cases h) ?h3 R3 (fun ρ4 S4 a4 w4 R4 X4 => wp_ret ?_))
    case h3 => simp [Try.f130, startA, runRegion, runL, stepA, E0]
    obtain ⟨u, g1, g2⟩ := results_of (P := Try.prog) R4 (fn := Try.f130) (vs := [.nil]) (by simp [Try.f130, startA])
    have hu := nil_of g2
    subst hu
    have X := X1.trans X4
    have hno : ∀ (i b n : Nat), (if i = 0 then Ab.Loc.gone else if i = 1 then .virt else .free) ≠ .at b n := by
      intro i b n h
      split at h
      · cases h
      · split at h <;> cases h
    have HH : Heap K (fun i => if i = 0 then .gone else if i = 1 then .virt else .free) S4 [.gone, .arr []] [false, false] w4 := by
      refine ⟨fun i => ?_, fun i j b n m h _ => (hno _ _ _ h).elim, fun i b n h => (hno _ _ _ h).elim, fun i b n h => (hno _ _ _ h).elim, rfl, R4.mem.sb, R4.mem.kb⟩
      match i with
      | 0 => exact rfl
      | 1 => exact .inl ⟨rfl, rfl⟩
      | n + 2 => exact rfl
    exact ⟨R4.dfr, _, g1, _, (fun i => if i = 0 then .gone else if i = 1 then .virt else .free), S4, rfl, ⟨rfl, none, rfl⟩, HH,
      ⟨X.os, X.tape, X.output, X.size, X.kept, X.ss, X.new, X.same, fun id => .inl (H.free (Nat.zero_le _))⟩⟩
  | some x =>
    refine wp_skip ?_
    refine wp_seq (region_sound (s' := ⟨((((((startA Try.f130 [.row 0 []] [] []).tmps.set 2 .nil).set 3 (.row 0 [])).set 4 (.bool false)).set 5 (.own 0 0 0 1)).set 6 (.row 0 [])).set 7 (.own 1 0 0 1) |>.set 2 (.own 1 0 0 1), [.gone, .arr []], [false, false]⟩) E0_ok mixed (fun h => by cases h) ?h4 R3 (fun ρ4 S4 a4 w4 R4 X4 => wp_ret ?_))
    case h4 => simp [Try.f130, startA, runRegion, runL, stepA, E0]
    obtain ⟨u, g1, g2⟩ := results_of (P := Try.prog) R4 (fn := Try.f130) (vs := [.own 1 0 0 1]) (by simp [Try.f130, startA])
    exact ⟨R4.dfr, _, g1, _, ρ4, S4, rfl, g2, R4.mem, X1.trans X4⟩
theorem clone_ok (l : List Int) (h1 : l.length < 35184372088832) : OkR Try.prog 130 [rowI .u32 l] [] [] (.own 1 0 l.length 1) [.gone, .arr (l.map (.int .u32))] [false, false] := by
  cases l with
  | nil => exact clone_zero
  | cons a l => exact clone_pos _ (by simp) h1
theorem goodR130 : GoodR 130 := by
  intro xs h z v h' z' hr
  simp only [SR] at hr
  unfold SR130 at hr
  split at hr
  · obtain ⟨l, hl, hr⟩ := Option.bind_eq_some_iff.1 hr
    obtain ⟨m, hm, e⟩ := Option.map_eq_some_iff.1 hr
    cases e
    rw [unI_eq hl]
    unfold api_Nat_uint32.f at hm
    split at hm
    · cases hm; exact clone_ok _ ‹_›
    · cases hm
  · cases hr
theorem good130 : GoodV 130 := by
  intro xs r hr
  simp only [SV] at hr
  unfold SV130 at hr
  split at hr
  · obtain ⟨l, hl, hr⟩ := Option.bind_eq_some_iff.1 hr
    obtain ⟨m, hm, rfl⟩ := Option.map_eq_some_iff.1 hr
    rw [unI_eq hl]
    unfold api_Nat_uint32.f at hm
    split at hm
    · cases hm
      exact (clone_ok _ ‹_›).val (fs := [1]) (by simp)
    · cases hm
  · cases hr
end Go.Proofs.Ytdaggnflamacgaa.ZRat
namespace Go.Proofs.Ytdaggnflamacgaa.ZRat
open Go.RowKit Go.Proofs.Ytdaggnflamacgaa.Wd
open Go Go.Proofs.Ytdaggnflamacgaa.Ab Go.Proofs
set_option linter.unusedSimpArgs false
set_option linter.unusedVariables false
set_option maxHeartbeats 4000000
set_option maxRecDepth 10000
noncomputable def E155 : Env := mkE [] [] [(1, [0, 2, 3])] []
theorem n155_ls (tl : List Int) (r : (List Int)) (k : Nat) : (∀ (x0 : List Int) (x2 : Int) (x3 : Int), slices_Reverse_byte_byte.l0 k x0 x2 x3 = some r → AEnds E155 (finR Try.prog Try.f155.results) 1 (atLoop Try.f155 1) ⟨fr 28 [(0, .own 0 0 x0.length 1), (2, (.int .i64 x2)), (3, (.int .i64 x3))], [.arr ((x0 ++ tl).map (.int .u8))], [false]⟩ (.tup [], [.arr (r.map (.int .u8) ++ tl.map (.int .u8))], [false])) := by
  induction k using Nat.strongRecOn with
  | _ k ih =>
  intro x0 x2 x3 h
  cases k with
  | zero => simp [slices_Reverse_byte_byte.l0] at h
  | succ k1 =>
  simp only [slices_Reverse_byte_byte.l0] at h
  simp only [Try.f155, atLoop, seek, firstR, reduceIte, Option.getD_some, Nat.reduceEqDiff]
  rcases ite_some h with ⟨c2, h⟩ | ⟨c2, h⟩
  · rcases ite_some h with ⟨c3, h⟩ | ⟨c3, h⟩
    · rcases ite_some h with ⟨c4, h⟩ | ⟨c4, h⟩
      · rcases ite_some h with ⟨c5, h⟩ | ⟨c5, h⟩
        · rcases ite_some h with ⟨c6, h⟩ | ⟨c6, h⟩
          · simp (maxSteps := 2000000) (disch := (first | omega | (simp only [List.length_append, List.length_map, List.length_cons, List.length_nil, List.length_set, List.length_replicate, List.length_take, List.size_toArray]; omega))) [E155, c2, c3, c4, c5, c6]
            refine AEnds.againS ((ih k1 (by omega)) _ _ _  h) ?_
            simp only [E155, firstR, mk_keep, keepT, List.find?, Nat.reduceBEq, Option.map_some, Option.getD_some]
            simp (maxSteps := 2000000) (disch := (first | omega | (simp only [List.length_append, List.length_map, List.length_cons, List.length_nil, List.length_set, List.length_replicate, List.length_take, List.size_toArray]; omega))) [E155, c2, c3, c4, c5, c6]
            try omega
          · cases h
        · cases h
      · cases h
    · cases h
  · obtain rfl := Option.some.inj h
    simp (maxSteps := 2000000) (disch := (first | omega | (simp only [List.length_append, List.length_map, List.length_cons, List.length_nil, List.length_set, List.length_replicate, List.length_take, List.size_toArray]; omega))) [E155, c2]
    try omega
theorem n155_run (tl : List Int) (k : Nat) (l0 : List Int) (r : (List Int)) (h : slices_Reverse_byte_byte.f k l0 = some r) : AEnds E155 (finR Try.prog Try.f155.results) 1 [.code (Try.f155.body.getD .skip)] (startA Try.f155 [(.own 0 0 l0.length 1)] [.arr ((l0 ++ tl).map (.int .u8))] [false]) (.tup [], [.arr (r.map (.int .u8) ++ tl.map (.int .u8))], [false]) := by
  unfold slices_Reverse_byte_byte.f at h
  simp only [Try.f155, Option.getD_some, startA]
  simp (maxSteps := 2000000) (disch := (first | omega | (simp only [List.length_append, List.length_map, List.length_cons, List.length_nil, List.length_set, List.length_replicate, List.length_take, List.size_toArray]; omega))) [E155]
  refine AEnds.loopS ((n155_ls tl _ _) _ _ _  h) ?_
  simp only [E155, firstR, mk_keep, keepT, List.find?, Nat.reduceBEq, Option.map_some, Option.getD_some]
  simp (maxSteps := 2000000) (disch := (first | omega | (simp only [List.length_append, List.length_map, List.length_cons, List.length_nil, List.length_set, List.length_replicate, List.length_take, List.size_toArray]; omega))) [E155]
  try omega
theorem goodR155 : GoodR 155 := by
  intro xs h z v h' z' hr
  simp only [SR] at hr
  unfold SR155 at hr
  split at hr
  · rename_i n cs
    obtain ⟨l, hl, hr⟩ := Option.bind_eq_some_iff.1 hr
    split at hr
    · rename_i hn
      obtain ⟨q, hq, e⟩ := Option.map_eq_some_iff.1 hr
      obtain ⟨k, hk⟩ := of_pick hq
      have := n155_run (l.drop n) k (l.take n) q hk
      rw [List.take_append_drop, List.length_take, Nat.min_eq_left hn, ← unC_eq hl, e] at this
      exact okR_ends (mkE_ok all_nil all_nil) mixed Try.func155 rfl (by kernel_rfl : Fits Try.prog E155.ref E155.dep Try.f155 = true) this
    · cases hr
  · cases hr
theorem good155 : GoodV 155 := fun _ _ h => by simp [SV] at h
end Go.Proofs.Ytdaggnflamacgaa.ZRat
namespace Go.Proofs.Ytdaggnflamacgaa.ZRat
open Go.RowKit Go.Proofs.Ytdaggnflamacgaa.Wd
open Go Go.Proofs.Ytdaggnflamacgaa.Ab Go.Proofs
set_option linter.unusedSimpArgs false
set_option linter.unusedVariables false
set_option maxHeartbeats 4000000
set_option maxRecDepth 10000
noncomputable def E151 : Env := mkE [] [] [(3, [0, 1, 5, 6])] []
theorem n151_ls (tl : List Int) (r : (Int × List Int)) (k : Nat) : (∀ (x0 : List Int) (x1 : Int) (x5 : Int) (x6 : Int), nat_short.l0 k x0 x1 x5 x6 = some r → AEnds E151 (finR Try.prog Try.f151.results) 1 (atLoop Try.f151 3) ⟨fr 36 [(0, .own 0 0 x0.length 1), (1, (.int .u32 x1)), (5, (.int .u64 x5)), (6, (.int .i64 x6))], [.arr ((x0 ++ tl).map (.int .u32))], [false]⟩ (.int .u32 r.1, [.arr (r.2.map (.int .u32) ++ tl.map (.int .u32))], [false])) := by
  induction k using Nat.strongRecOn with
  | _ k ih =>
  intro x0 x1 x5 x6 h
  cases k with
  | zero => simp [nat_short.l0] at h
  | succ k1 =>
  simp only [nat_short.l0] at h
  simp only [Try.f151, atLoop, seek, firstR, reduceIte, Option.getD_some, Nat.reduceEqDiff]
  rcases ite_some h with ⟨c2, h⟩ | ⟨c2, h⟩
  · rcases ite_some h with ⟨c3, h⟩ | ⟨c3, h⟩
    · rcases ite_some h with ⟨c4, h⟩ | ⟨c4, h⟩
      · rcases ite_some h with ⟨c5, h⟩ | ⟨c5, h⟩
        · cases h
        · simp (maxSteps := 2000000) (disch := (first | omega | (simp only [List.length_append, List.length_map, List.length_cons, List.length_nil, List.length_set, List.length_replicate, List.length_take, List.size_toArray]; omega))) [E151, c2, c3, c4, c5]
          refine AEnds.againS ((ih k1 (by omega)) _ _ _ _  h) ?_
          simp only [E151, firstR, mk_keep, keepT, List.find?, Nat.reduceBEq, Option.map_some, Option.getD_some]
          simp (maxSteps := 2000000) (disch := (first | omega | (simp only [List.length_append, List.length_map, List.length_cons, List.length_nil, List.length_set, List.length_replicate, List.length_take, List.size_toArray]; omega))) [E151, c2, c3, c4, c5]
          try omega
      · cases h
    · cases h
  · obtain rfl := Option.some.inj h
    simp (maxSteps := 2000000) (disch := (first | omega | (simp only [List.length_append, List.length_map, List.length_cons, List.length_nil, List.length_set, List.length_replicate, List.length_take, List.size_toArray]; omega))) [E151, c2]
    try omega
theorem n151_run (tl : List Int) (k : Nat) (l0 : List Int) (a1 : Int) (r : (Int × List Int)) (h : nat_short.f k l0 a1 = some r) : AEnds E151 (finR Try.prog Try.f151.results) 1 [.code (Try.f151.body.getD .skip)] (startA Try.f151 [(.own 0 0 l0.length 1), (.int .u32 a1)] [.arr ((l0 ++ tl).map (.int .u32))] [false]) (.int .u32 r.1, [.arr (r.2.map (.int .u32) ++ tl.map (.int .u32))], [false]) := by
  unfold nat_short.f at h
  simp only [Try.f151, Option.getD_some, startA]
  simp (maxSteps := 2000000) (disch := (first | omega | (simp only [List.length_append, List.length_map, List.length_cons, List.length_nil, List.length_set, List.length_replicate, List.length_take, List.size_toArray]; omega))) [E151]
  refine AEnds.loopS ((n151_ls tl _ _) _ _ _ _  h) ?_
  simp only [E151, firstR, mk_keep, keepT, List.find?, Nat.reduceBEq, Option.map_some, Option.getD_some]
  simp (maxSteps := 2000000) (disch := (first | omega | (simp only [List.length_append, List.length_map, List.length_cons, List.length_nil, List.length_set, List.length_replicate, List.length_take, List.size_toArray]; omega))) [E151]
  try omega
theorem goodR151 : GoodR 151 := by
  intro xs h z v h' z' hr
  simp only [SR] at hr
  unfold SR151 at hr
  split at hr
  · rename_i n b cs
    obtain ⟨l, hl, hr⟩ := Option.bind_eq_some_iff.1 hr
    split at hr
    · rename_i hn
      obtain ⟨q, hq, e⟩ := Option.map_eq_some_iff.1 hr
      obtain ⟨k, hk⟩ := of_pick hq
      have := n151_run (l.drop n) k (l.take n) b q hk
      rw [List.take_append_drop, List.length_take, Nat.min_eq_left hn, ← unC_eq hl, e] at this
      exact okR_ends (mkE_ok all_nil all_nil) mixed Try.func151 rfl (by kernel_rfl : Fits Try.prog E151.ref E151.dep Try.f151 = true) this
    · cases hr
  · cases hr
theorem good151 : GoodV 151 := fun _ _ h => by simp [SV] at h
end Go.Proofs.Ytdaggnflamacgaa.ZRat
namespace Go.Proofs.Ytdaggnflamacgaa.ZRat
open Go.RowKit Go.Proofs.Ytdaggnflamacgaa.Wd
open Go Go.Proofs.Ytdaggnflamacgaa.Ab Go.Proofs
set_option linter.unusedSimpArgs false
set_option linter.unusedVariables false
set_option maxHeartbeats 4000000
set_option maxRecDepth 10000
noncomputable def E162 : Env := mkE [] [] [(4, [1, 5, 6, 13, 14, 15])] []
theorem n162_ls (r : (List Int)) (k : Nat) : (∀ (x1 : Int) (x5 : List Int) (x6 : Int) (x13 : List Int) (x14 : Int) (x15 : Int), nat_shift.l0 k x1 x5 x6 x13 x14 x15 = some r → AEnds E162 (finR Try.prog Try.f162.results) 0 (atLoop Try.f162 4) ⟨fr 38 [(1, (.int .i64 x1)), (5, .own 0 0 x5.length 1), (6, (.int .u64 x6)), (13, (rowI .u32 x13)), (14, (.int .i64 x14)), (15, (.int .i64 x15))], [.arr ((x5).map (.int .u32))], [false]⟩ (.own 2 0 r.length 1, [.gone, .arr [.int .u32 (r.getLast?.getD 0)], .arr (r.map (.int .u32))], [false, false, false])) := by
  induction k using Nat.strongRecOn with
  | _ k ih =>
  intro x1 x5 x6 x13 x14 x15 h
  cases k with
  | zero => simp [nat_shift.l0] at h
  | succ k1 =>
  simp only [nat_shift.l0] at h
  simp only [Try.f162, atLoop, seek, firstR, reduceIte, Option.getD_some, Nat.reduceEqDiff]
  rcases ite_some h with ⟨c2, h⟩ | ⟨c2, h⟩
  · rcases ite_some h with ⟨c3, h⟩ | ⟨c3, h⟩
    · rcases ite_some h with ⟨c4, h⟩ | ⟨c4, h⟩
      · rcases ite_some h with ⟨c5, h⟩ | ⟨c5, h⟩
        · rcases ite_some h with ⟨c6, h⟩ | ⟨c6, h⟩
          · simp (maxSteps := 2000000) (disch := (first | omega | (simp only [List.length_append, List.length_map, List.length_cons, List.length_nil, List.length_set, List.length_replicate, List.length_take, List.size_toArray]; omega))) [E162, c2, c3, c4, c5, c6]
            refine AEnds.againS ((ih k1 (by omega)) _ _ _ _ _ _  h) ?_
            simp only [E162, firstR, mk_keep, keepT, List.find?, Nat.reduceBEq, Option.map_some, Option.getD_some]
            simp (maxSteps := 2000000) (disch := (first | omega | (simp only [List.length_append, List.length_map, List.length_cons, List.length_nil, List.length_set, List.length_replicate, List.length_take, List.size_toArray]; omega))) [E162, c2, c3, c4, c5, c6]
            try omega
          · cases h
        · cases h
      · cases h
    · cases h
  · rcases ite_some h with ⟨c7, h⟩ | ⟨c7, h⟩
    · obtain rfl := Option.some.inj h
      simp (maxSteps := 2000000) (disch := (first | omega | (simp only [List.length_append, List.length_map, List.length_cons, List.length_nil, List.length_set, List.length_replicate, List.length_take, List.size_toArray]; omega))) [E162, c2, c7]
      try omega
    · cases h
theorem n162_run (k : Nat) (l0 : List Int) (a1 : Int) (r : (List Int)) (h : nat_shift.f k l0 a1 = some r) : AEnds E162 (finR Try.prog Try.f162.results) 0 [.code (Try.f162.body.getD .skip)] (startA Try.f162 [(rowI .u32 l0), (.int .i64 a1)] [] []) (.own 2 0 r.length 1, [.gone, .arr [.int .u32 (r.getLast?.getD 0)], .arr (r.map (.int .u32))], [false, false, false]) := by
  unfold nat_shift.f at h
  simp only [Try.f162, Option.getD_some, startA]
  rcases ite_some h with ⟨c8, h⟩ | ⟨c8, h⟩
  · rcases ite_some h with ⟨c9, h⟩ | ⟨c9, h⟩
    · simp (maxSteps := 2000000) (disch := (first | omega | (simp only [List.length_append, List.length_map, List.length_cons, List.length_nil, List.length_set, List.length_replicate, List.length_take, List.size_toArray]; omega))) [E162, c8, c9]
      refine AEnds.loopS ((n162_ls _ _) _ _ _ _ _ _  h) ?_
      simp only [E162, firstR, mk_keep, keepT, List.find?, Nat.reduceBEq, Option.map_some, Option.getD_some]
      simp (maxSteps := 2000000) (disch := (first | omega | (simp only [List.length_append, List.length_map, List.length_cons, List.length_nil, List.length_set, List.length_replicate, List.length_take, List.size_toArray]; omega))) [E162, c8, c9]
      try omega
    · cases h
  · cases h
theorem goodR162 : GoodR 162 := by
  intro xs h z v h' z' hr
  simp only [SR] at hr
  unfold SR162 at hr
  split at hr
  · obtain ⟨l, hl, hr⟩ := Option.bind_eq_some_iff.1 hr
    obtain ⟨q, hq, e⟩ := Option.map_eq_some_iff.1 hr
    obtain ⟨k, hk⟩ := of_pick hq
    obtain rfl := unI_eq hl
    have := n162_run k _ _ q hk
    rw [e] at this
    exact okR_ends (mkE_ok all_nil all_nil) mixed Try.func162 rfl (by kernel_rfl : Fits Try.prog E162.ref E162.dep Try.f162 = true) this
  · cases hr
theorem good162 : GoodV 162 := fun _ _ h => by simp [SV] at h
end Go.Proofs.Ytdaggnflamacgaa.ZRat
namespace Go.Proofs.Ytdaggnflamacgaa.ZRat
open Go.RowKit Go.Proofs.Ytdaggnflamacgaa.Wd
open Go Go.Proofs.Ytdaggnflamacgaa.Ab Go.Proofs
set_option linter.unusedSimpArgs false
set_option linter.unusedVariables false
set_option maxHeartbeats 4000000
set_option maxRecDepth 10000
noncomputable def E164 : Env := mkE [] [] [(3, [0, 1, 2, 7, 8, 12, 13])] []
theorem n164_ls (A : List Int) (C : List Int) (tl : List Int) (r : (Bool × List Int)) (k : Nat) : (∀ (x0 : List Int) (x1 : List Int) (x2 : Int) (x7 : Int) (x8 : Int) (x12 : Int) (x13 : Int), nat_off.l0 k x0 x1 x2 x7 x8 x12 x13 = some r → AEnds E164 (finR Try.prog Try.f164.results) 2 (atLoop Try.f164 3) ⟨fr 52 [(0, .own 0 A.length x0.length 1), (1, .own 1 0 x1.length 1), (2, (.int .u64 x2)), (7, (.int .u64 x7)), (8, (.int .u64 x8)), (12, (.int .i64 x12)), (13, (.int .i64 x13))], [.arr ((A ++ x0 ++ C).map (.int .u32)), .arr ((x1 ++ tl).map (.int .u32))], [false, false]⟩ (.bool r.1, [.arr (A.map (.int .u32) ++ (r.2.map (.int .u32) ++ C.map (.int .u32))), .arr (x1.map (.int .u32) ++ tl.map (.int .u32))], [false, false])) := by
  induction k using Nat.strongRecOn with
  | _ k ih =>
  intro x0 x1 x2 x7 x8 x12 x13 h
  cases k with
  | zero => simp [nat_off.l0] at h
  | succ k1 =>
  simp only [nat_off.l0] at h
  simp only [Try.f164, atLoop, seek, firstR, reduceIte, Option.getD_some, Nat.reduceEqDiff]
  rcases ite_some h with ⟨c2, h⟩ | ⟨c2, h⟩
  · rcases ite_some h with ⟨c3, h⟩ | ⟨c3, h⟩
    · rcases ite_some h with ⟨c4, h⟩ | ⟨c4, h⟩
      · rcases ite_some h with ⟨c5, h⟩ | ⟨c5, h⟩
        · simp (maxSteps := 2000000) (disch := (first | omega | (simp only [List.length_append, List.length_map, List.length_cons, List.length_nil, List.length_set, List.length_replicate, List.length_take, List.size_toArray]; omega))) [E164, c2, c3, c4, c5]
          refine AEnds.againS ((ih k1 (by omega)) _ _ _ _ _ _ _  h) ?_
          simp only [E164, firstR, mk_keep, keepT, List.find?, Nat.reduceBEq, Option.map_some, Option.getD_some]
          simp (maxSteps := 2000000) (disch := (first | omega | (simp only [List.length_append, List.length_map, List.length_cons, List.length_nil, List.length_set, List.length_replicate, List.length_take, List.size_toArray]; omega))) [E164, c2, c3, c4, c5]
          try omega
        · cases h
      · cases h
    · rcases ite_some h with ⟨c6, h⟩ | ⟨c6, h⟩
      · rcases ite_some h with ⟨c7, h⟩ | ⟨c7, h⟩
        · simp (maxSteps := 2000000) (disch := (first | omega | (simp only [List.length_append, List.length_map, List.length_cons, List.length_nil, List.length_set, List.length_replicate, List.length_take, List.size_toArray]; omega))) [E164, c2, c3, c6, c7]
          refine AEnds.againS ((ih k1 (by omega)) _ _ _ _ _ _ _  h) ?_
          simp only [E164, firstR, mk_keep, keepT, List.find?, Nat.reduceBEq, Option.map_some, Option.getD_some]
          simp (maxSteps := 2000000) (disch := (first | omega | (simp only [List.length_append, List.length_map, List.length_cons, List.length_nil, List.length_set, List.length_replicate, List.length_take, List.size_toArray]; omega))) [E164, c2, c3, c6, c7]
          try omega
        · cases h
      · cases h
  · obtain rfl := Option.some.inj h
    simp (maxSteps := 2000000) (disch := (first | omega | (simp only [List.length_append, List.length_map, List.length_cons, List.length_nil, List.length_set, List.length_replicate, List.length_take, List.size_toArray]; omega))) [E164, c2]
    try omega
theorem n164_run (A : List Int) (C : List Int) (tl : List Int) (k : Nat) (l0 : List Int) (l1 : List Int) (a2 : Int) (r : (Bool × List Int)) (h : nat_off.f k l0 l1 a2 = some r) : AEnds E164 (finR Try.prog Try.f164.results) 2 [.code (Try.f164.body.getD .skip)] (startA Try.f164 [(.own 0 A.length l0.length 1), (.own 1 0 l1.length 1), (.int .u64 a2)] [.arr ((A ++ l0 ++ C).map (.int .u32)), .arr ((l1 ++ tl).map (.int .u32))] [false, false]) (.bool r.1, [.arr (A.map (.int .u32) ++ (r.2.map (.int .u32) ++ C.map (.int .u32))), .arr (l1.map (.int .u32) ++ tl.map (.int .u32))], [false, false]) := by
  unfold nat_off.f at h
  simp only [Try.f164, Option.getD_some, startA]
  simp (maxSteps := 2000000) (disch := (first | omega | (simp only [List.length_append, List.length_map, List.length_cons, List.length_nil, List.length_set, List.length_replicate, List.length_take, List.size_toArray]; omega))) [E164]
  refine AEnds.loopS ((n164_ls A C tl _ _) _ _ _ _ _ _ _  h) ?_
  simp only [E164, firstR, mk_keep, keepT, List.find?, Nat.reduceBEq, Option.map_some, Option.getD_some]
  simp (maxSteps := 2000000) (disch := (first | omega | (simp only [List.length_append, List.length_map, List.length_cons, List.length_nil, List.length_set, List.length_replicate, List.length_take, List.size_toArray]; omega))) [E164]
  try omega
theorem win3off (u : List Int) (o n : Nat) : u.take o ++ (u.drop o).take n ++ u.drop (o + n) = u := by
  rw [List.append_assoc, ← List.drop_drop, List.take_append_drop, List.take_append_drop]
theorem goodR164 : GoodR 164 := by
  intro xs h z v h' z' hr
  simp only [SR] at hr
  unfold SR164 at hr
  split at hr
  · rename_i o n m q cs ds
    obtain ⟨u, hu, hr⟩ := Option.bind_eq_some_iff.1 hr
    obtain ⟨x, hx, hr⟩ := Option.bind_eq_some_iff.1 hr
    split at hr
    · rename_i hn
      obtain ⟨p, hp, e⟩ := Option.map_eq_some_iff.1 hr
      obtain ⟨k, hk⟩ := of_pick hp
      have := n164_run (u.take o) (u.drop (o + n)) (x.drop m) k ((u.drop o).take n) (x.take m) q p hk
      rw [← List.map_append (l₁ := x.take m), List.take_append_drop, win3off u o n, List.length_take, Nat.min_eq_left (by omega), List.length_take, List.length_drop, Nat.min_eq_left (by omega), List.length_take, Nat.min_eq_left (by omega), ← unC_eq hu, ← unC_eq hx, e] at this
      exact okR_ends (mkE_ok all_nil all_nil) mixed Try.func164 rfl (by kernel_rfl : Fits Try.prog E164.ref E164.dep Try.f164 = true) this
    · cases hr
  · cases hr
theorem good164 : GoodV 164 := fun _ _ h => by simp [SV] at h
end Go.Proofs.Ytdaggnflamacgaa.ZRat
namespace Go.Proofs.Ytdaggnflamacgaa.ZRat
open Go.RowKit Go.Proofs.Ytdaggnflamacgaa.Wd
open Go Go.Proofs.Ytdaggnflamacgaa.Ab Go.Proofs
set_option linter.unusedSimpArgs false
set_option linter.unusedVariables false
set_option maxHeartbeats 4000000
set_option maxRecDepth 10000
noncomputable def E165 : Env := mkE [] [] [(2, [0, 1, 4, 7, 8])] []
theorem n165_ls (A : List Int) (C : List Int) (tl : List Int) (r : (List Int)) (k : Nat) : (∀ (x0 : List Int) (x1 : List Int) (x4 : Int) (x7 : Int) (x8 : Int), nat_back.l0 k x0 x1 x4 x7 x8 = some r → AEnds E165 (finR Try.prog Try.f165.results) 2 (atLoop Try.f165 2) ⟨fr 37 [(0, .own 0 A.length x0.length 1), (1, .own 1 0 x1.length 1), (4, (.int .u64 x4)), (7, (.int .i64 x7)), (8, (.int .i64 x8))], [.arr ((A ++ x0 ++ C).map (.int .u32)), .arr ((x1 ++ tl).map (.int .u32))], [false, false]⟩ (.tup [], [.arr (A.map (.int .u32) ++ (r.map (.int .u32) ++ C.map (.int .u32))), .arr (x1.map (.int .u32) ++ tl.map (.int .u32))], [false, false])) := by
  induction k using Nat.strongRecOn with
  | _ k ih =>
  intro x0 x1 x4 x7 x8 h
  cases k with
  | zero => simp [nat_back.l0] at h
  | succ k1 =>
  simp only [nat_back.l0] at h
  simp only [Try.f165, atLoop, seek, firstR, reduceIte, Option.getD_some, Nat.reduceEqDiff]
  rcases ite_some h with ⟨c2, h⟩ | ⟨c2, h⟩
  · rcases ite_some h with ⟨c3, h⟩ | ⟨c3, h⟩
    · rcases ite_some h with ⟨c4, h⟩ | ⟨c4, h⟩
      · rcases ite_some h with ⟨c5, h⟩ | ⟨c5, h⟩
        · simp (maxSteps := 2000000) (disch := (first | omega | (simp only [List.length_append, List.length_map, List.length_cons, List.length_nil, List.length_set, List.length_replicate, List.length_take, List.size_toArray]; omega))) [E165, c2, c3, c4, c5]
          refine AEnds.againS ((ih k1 (by omega)) _ _ _ _ _  h) ?_
          simp only [E165, firstR, mk_keep, keepT, List.find?, Nat.reduceBEq, Option.map_some, Option.getD_some]
          simp (maxSteps := 2000000) (disch := (first | omega | (simp only [List.length_append, List.length_map, List.length_cons, List.length_nil, List.length_set, List.length_replicate, List.length_take, List.size_toArray]; omega))) [E165, c2, c3, c4, c5]
          try omega
        · simp (maxSteps := 2000000) (disch := (first | omega | (simp only [List.length_append, List.length_map, List.length_cons, List.length_nil, List.length_set, List.length_replicate, List.length_take, List.size_toArray]; omega))) [E165, c2, c3, c4, c5]
          refine AEnds.againS ((ih k1 (by omega)) _ _ _ _ _  h) ?_
          simp only [E165, firstR, mk_keep, keepT, List.find?, Nat.reduceBEq, Option.map_some, Option.getD_some]
          simp (maxSteps := 2000000) (disch := (first | omega | (simp only [List.length_append, List.length_map, List.length_cons, List.length_nil, List.length_set, List.length_replicate, List.length_take, List.size_toArray]; omega))) [E165, c2, c3, c4, c5]
          try omega
      · cases h
    · cases h
  · obtain rfl := Option.some.inj h
    simp (maxSteps := 2000000) (disch := (first | omega | (simp only [List.length_append, List.length_map, List.length_cons, List.length_nil, List.length_set, List.length_replicate, List.length_take, List.size_toArray]; omega))) [E165, c2]
    try omega
theorem n165_run (A : List Int) (C : List Int) (tl : List Int) (k : Nat) (l0 : List Int) (l1 : List Int) (r : (List Int)) (h : nat_back.f k l0 l1 = some r) : AEnds E165 (finR Try.prog Try.f165.results) 2 [.code (Try.f165.body.getD .skip)] (startA Try.f165 [(.own 0 A.length l0.length 1), (.own 1 0 l1.length 1)] [.arr ((A ++ l0 ++ C).map (.int .u32)), .arr ((l1 ++ tl).map (.int .u32))] [false, false]) (.tup [], [.arr (A.map (.int .u32) ++ (r.map (.int .u32) ++ C.map (.int .u32))), .arr (l1.map (.int .u32) ++ tl.map (.int .u32))], [false, false]) := by
  unfold nat_back.f at h
  simp only [Try.f165, Option.getD_some, startA]
  simp (maxSteps := 2000000) (disch := (first | omega | (simp only [List.length_append, List.length_map, List.length_cons, List.length_nil, List.length_set, List.length_replicate, List.length_take, List.size_toArray]; omega))) [E165]
  refine AEnds.loopS ((n165_ls A C tl _ _) _ _ _ _ _  h) ?_
  simp only [E165, firstR, mk_keep, keepT, List.find?, Nat.reduceBEq, Option.map_some, Option.getD_some]
  simp (maxSteps := 2000000) (disch := (first | omega | (simp only [List.length_append, List.length_map, List.length_cons, List.length_nil, List.length_set, List.length_replicate, List.length_take, List.size_toArray]; omega))) [E165]
  try omega
theorem win3back (u : List Int) (o n : Nat) : u.take o ++ (u.drop o).take n ++ u.drop (o + n) = u := by
  rw [List.append_assoc, ← List.drop_drop, List.take_append_drop, List.take_append_drop]
theorem goodR165 : GoodR 165 := by
  intro xs h z v h' z' hr
  simp only [SR] at hr
  unfold SR165 at hr
  split at hr
  · rename_i o n m cs ds
    obtain ⟨u, hu, hr⟩ := Option.bind_eq_some_iff.1 hr
    obtain ⟨x, hx, hr⟩ := Option.bind_eq_some_iff.1 hr
    split at hr
    · rename_i hn
      obtain ⟨p, hp, e⟩ := Option.map_eq_some_iff.1 hr
      obtain ⟨k, hk⟩ := of_pick hp
      have := n165_run (u.take o) (u.drop (o + n)) (x.drop m) k ((u.drop o).take n) (x.take m) p hk
      rw [← List.map_append (l₁ := x.take m), List.take_append_drop, win3back u o n, List.length_take, Nat.min_eq_left (by omega), List.length_take, List.length_drop, Nat.min_eq_left (by omega), List.length_take, Nat.min_eq_left (by omega), ← unC_eq hu, ← unC_eq hx, e] at this
      exact okR_ends (mkE_ok all_nil all_nil) mixed Try.func165 rfl (by kernel_rfl : Fits Try.prog E165.ref E165.dep Try.f165 = true) this
    · cases hr
  · cases hr
theorem good165 : GoodV 165 := fun _ _ h => by simp [SV] at h
end Go.Proofs.Ytdaggnflamacgaa.ZRat
namespace Go.Proofs.Ytdaggnflamacgaa.ZRat
open Go.RowKit Go.Proofs.Ytdaggnflamacgaa.Wd
open Go Go.Proofs.Ytdaggnflamacgaa.Ab Go.Proofs
set_option linter.unusedSimpArgs false
set_option linter.unusedVariables false
set_option maxHeartbeats 4000000
set_option maxRecDepth 10000
noncomputable def E75 : Env := mkE [] [121] [(6, [1, 5, 6, 20, 21, 22])] []
theorem n75_ls (r : (List Int)) (k : Nat) : (∀ (x1 : List Int) (x5 : List Int) (x6 : Int) (x20 : List Int) (x21 : Int) (x22 : Int), nat_Add.l0 k x1 x5 x6 x20 x21 x22 = some r → AEnds E75 (finW Try.prog Try.f75.results) 0 (atLoop Try.f75 6) ⟨fr 56 [(1, (rowI .u32 x1)), (5, .own 0 0 x5.length 1), (6, (.int .u64 x6)), (20, (rowI .u32 x20)), (21, (.int .i64 x21)), (22, (.int .i64 x22))], [.arr ((x5).map (.int .u32))], [false]⟩ (rowI .u32 r)) := by
  induction k using Nat.strongRecOn with
  | _ k ih =>
  intro x1 x5 x6 x20 x21 x22 h
  cases k with
  | zero => simp [nat_Add.l0] at h
  | succ k1 =>
  simp only [nat_Add.l0] at h
  simp only [Try.f75, atLoop, seek, firstR, reduceIte, Option.getD_some, Nat.reduceEqDiff]
  rcases ite_some h with ⟨c2, h⟩ | ⟨c2, h⟩
  · rcases ite_some h with ⟨c3, h⟩ | ⟨c3, h⟩
    · rcases ite_some h with ⟨c4, h⟩ | ⟨c4, h⟩
      · rcases ite_some h with ⟨c5, h⟩ | ⟨c5, h⟩
        · rcases ite_some h with ⟨c6, h⟩ | ⟨c6, h⟩
          · simp (maxSteps := 2000000) (disch := (first | omega | (simp only [List.length_append, List.length_map, List.length_cons, List.length_nil, List.length_set, List.length_replicate, List.length_take, List.size_toArray]; omega))) [E75, c2, c3, c4, c5, c6]
            refine AEnds.againS ((ih k1 (by omega)) _ _ _ _ _ _  h) ?_
            simp only [E75, firstR, mk_keep, keepT, List.find?, Nat.reduceBEq, Option.map_some, Option.getD_some]
            simp (maxSteps := 2000000) (disch := (first | omega | (simp only [List.length_append, List.length_map, List.length_cons, List.length_nil, List.length_set, List.length_replicate, List.length_take, List.size_toArray]; omega))) [E75, c2, c3, c4, c5, c6]
            try omega
          · cases h
        · rcases ite_some h with ⟨c7, h⟩ | ⟨c7, h⟩
          · simp (maxSteps := 2000000) (disch := (first | omega | (simp only [List.length_append, List.length_map, List.length_cons, List.length_nil, List.length_set, List.length_replicate, List.length_take, List.size_toArray]; omega))) [E75, c2, c3, c4, c5, c7]
            refine AEnds.againS ((ih k1 (by omega)) _ _ _ _ _ _  h) ?_
            simp only [E75, firstR, mk_keep, keepT, List.find?, Nat.reduceBEq, Option.map_some, Option.getD_some]
            simp (maxSteps := 2000000) (disch := (first | omega | (simp only [List.length_append, List.length_map, List.length_cons, List.length_nil, List.length_set, List.length_replicate, List.length_take, List.size_toArray]; omega))) [E75, c2, c3, c4, c5, c7]
            try omega
          · cases h
      · cases h
    · cases h
  · rcases ite_some h with ⟨c8, h⟩ | ⟨c8, h⟩
    · obtain ⟨t9, e10, h⟩ := Option.bind_eq_some_iff.1 h
      have p11 := pick_of (fun k r h => nat_trim.mono _  k r h) e10
      obtain rfl := Option.some.inj h
      simp (maxSteps := 2000000) (disch := (first | omega | (simp only [List.length_append, List.length_map, List.length_cons, List.length_nil, List.length_set, List.length_replicate, List.length_take, List.size_toArray]; omega))) [E75, c2, c8, p11]
      try omega
    · cases h
theorem n75_run (k : Nat) (l0 : List Int) (l1 : List Int) (r : (List Int)) (h : nat_Add.f k l0 l1 = some r) : AEnds E75 (finW Try.prog Try.f75.results) 0 [.code (Try.f75.body.getD .skip)] (startA Try.f75 [(rowI .u32 l0), (rowI .u32 l1)] [] []) (rowI .u32 r) := by
  unfold nat_Add.f at h
  simp only [Try.f75, Option.getD_some, startA]
  rcases ite_some h with ⟨c12, h⟩ | ⟨c12, h⟩
  · cases k with
    | zero => simp [nat_Add.j0] at h
    | succ k13 =>
    simp only [nat_Add.j0] at h
    rcases ite_some h with ⟨c14, h⟩ | ⟨c14, h⟩
    · rcases ite_some h with ⟨c15, h⟩ | ⟨c15, h⟩
      · simp (maxSteps := 2000000) (disch := (first | omega | (simp only [List.length_append, List.length_map, List.length_cons, List.length_nil, List.length_set, List.length_replicate, List.length_take, List.size_toArray]; omega))) [E75, c12, c14, c15]
        refine AEnds.loopS ((n75_ls _ _) _ _ _ _ _ _  h) ?_
        simp only [E75, firstR, mk_keep, keepT, List.find?, Nat.reduceBEq, Option.map_some, Option.getD_some]
        simp (maxSteps := 2000000) (disch := (first | omega | (simp only [List.length_append, List.length_map, List.length_cons, List.length_nil, List.length_set, List.length_replicate, List.length_take, List.size_toArray]; omega))) [E75, c12, c14, c15]
        try omega
      · cases h
    · cases h
  · cases k with
    | zero => simp [nat_Add.j0] at h
    | succ k16 =>
    simp only [nat_Add.j0] at h
    rcases ite_some h with ⟨c17, h⟩ | ⟨c17, h⟩
    · rcases ite_some h with ⟨c18, h⟩ | ⟨c18, h⟩
      · simp (maxSteps := 2000000) (disch := (first | omega | (simp only [List.length_append, List.length_map, List.length_cons, List.length_nil, List.length_set, List.length_replicate, List.length_take, List.size_toArray]; omega))) [E75, c12, c17, c18]
        refine AEnds.loopS ((n75_ls _ _) _ _ _ _ _ _  h) ?_
        simp only [E75, firstR, mk_keep, keepT, List.find?, Nat.reduceBEq, Option.map_some, Option.getD_some]
        simp (maxSteps := 2000000) (disch := (first | omega | (simp only [List.length_append, List.length_map, List.length_cons, List.length_nil, List.length_set, List.length_replicate, List.length_take, List.size_toArray]; omega))) [E75, c12, c17, c18]
        try omega
      · cases h
    · cases h
theorem fit75 : Fits Try.prog E75.ref E75.dep Try.f75 = true := by kernel_rfl
theorem good75 : GoodV 75 := by
  intro xs r h
  simp only [SV] at h
  unfold SV75 at h
  split at h
  · obtain ⟨a0, h0, h⟩ := Option.bind_eq_some_iff.1 h
    obtain ⟨a1, h1, h⟩ := Option.bind_eq_some_iff.1 h
    obtain ⟨q, hq, rfl⟩ := Option.map_eq_some_iff.1 h
    obtain ⟨k, hk⟩ := of_pick hq
    obtain rfl := unI_eq h0
    obtain rfl := unI_eq h1
    exact okW_ends (mkE_ok (all_cons good121 all_nil) (all_cons goodR121 all_nil)) mixed Try.func75 rfl fit75 (n75_run k _ _  _ hk)
  · cases h
theorem goodR75 : GoodR 75 := fun _ _ _ _ _ _ h => by simp [SR] at h
end Go.Proofs.Ytdaggnflamacgaa.ZRat
namespace Go.Proofs.Ytdaggnflamacgaa.ZRat
open Go.RowKit Go.Proofs.Ytdaggnflamacgaa.Wd
open Go Go.Proofs.Ytdaggnflamacgaa.Ab Go.Proofs
set_option linter.unusedSimpArgs false
set_option linter.unusedVariables false
set_option maxHeartbeats 4000000
set_option maxRecDepth 10000
noncomputable def E153 : Env := mkE [] [121] [(4, [1, 5, 6, 13, 14, 15])] []
theorem n153_ls (r : (List Int)) (k : Nat) : (∀ (x1 : List Int) (x5 : List Int) (x6 : Int) (x13 : List Int) (x14 : Int) (x15 : Int), nat_sub.l0 k x1 x5 x6 x13 x14 x15 = some r → AEnds E153 (finW Try.prog Try.f153.results) 0 (atLoop Try.f153 4) ⟨fr 45 [(1, (rowI .u32 x1)), (5, .own 0 0 x5.length 1), (6, (.int .u64 x6)), (13, (rowI .u32 x13)), (14, (.int .i64 x14)), (15, (.int .i64 x15))], [.arr ((x5).map (.int .u32))], [false]⟩ (rowI .u32 r)) := by
  induction k using Nat.strongRecOn with
  | _ k ih =>
  intro x1 x5 x6 x13 x14 x15 h
  cases k with
  | zero => simp [nat_sub.l0] at h
  | succ k1 =>
  simp only [nat_sub.l0] at h
  simp only [Try.f153, atLoop, seek, firstR, reduceIte, Option.getD_some, Nat.reduceEqDiff]
  rcases ite_some h with ⟨c2, h⟩ | ⟨c2, h⟩
  · rcases ite_some h with ⟨c3, h⟩ | ⟨c3, h⟩
    · rcases ite_some h with ⟨c4, h⟩ | ⟨c4, h⟩
      · rcases ite_some h with ⟨c5, h⟩ | ⟨c5, h⟩
        · rcases ite_some h with ⟨c6, h⟩ | ⟨c6, h⟩
          · simp (maxSteps := 2000000) (disch := (first | omega | (simp only [List.length_append, List.length_map, List.length_cons, List.length_nil, List.length_set, List.length_replicate, List.length_take, List.size_toArray]; omega))) [E153, c2, c3, c4, c5, c6]
            refine AEnds.againS ((ih k1 (by omega)) _ _ _ _ _ _  h) ?_
            simp only [E153, firstR, mk_keep, keepT, List.find?, Nat.reduceBEq, Option.map_some, Option.getD_some]
            simp (maxSteps := 2000000) (disch := (first | omega | (simp only [List.length_append, List.length_map, List.length_cons, List.length_nil, List.length_set, List.length_replicate, List.length_take, List.size_toArray]; omega))) [E153, c2, c3, c4, c5, c6]
            try omega
          · cases h
        · rcases ite_some h with ⟨c7, h⟩ | ⟨c7, h⟩
          · simp (maxSteps := 2000000) (disch := (first | omega | (simp only [List.length_append, List.length_map, List.length_cons, List.length_nil, List.length_set, List.length_replicate, List.length_take, List.size_toArray]; omega))) [E153, c2, c3, c4, c5, c7]
            refine AEnds.againS ((ih k1 (by omega)) _ _ _ _ _ _  h) ?_
            simp only [E153, firstR, mk_keep, keepT, List.find?, Nat.reduceBEq, Option.map_some, Option.getD_some]
            simp (maxSteps := 2000000) (disch := (first | omega | (simp only [List.length_append, List.length_map, List.length_cons, List.length_nil, List.length_set, List.length_replicate, List.length_take, List.size_toArray]; omega))) [E153, c2, c3, c4, c5, c7]
            try omega
          · cases h
      · cases h
    · cases h
  · obtain ⟨t8, e9, h⟩ := Option.bind_eq_some_iff.1 h
    have p10 := pick_of (fun k r h => nat_trim.mono _  k r h) e9
    obtain rfl := Option.some.inj h
    simp (maxSteps := 2000000) (disch := (first | omega | (simp only [List.length_append, List.length_map, List.length_cons, List.length_nil, List.length_set, List.length_replicate, List.length_take, List.size_toArray]; omega))) [E153, c2, p10]
    try omega
theorem n153_run (k : Nat) (l0 : List Int) (l1 : List Int) (r : (List Int)) (h : nat_sub.f k l0 l1 = some r) : AEnds E153 (finW Try.prog Try.f153.results) 0 [.code (Try.f153.body.getD .skip)] (startA Try.f153 [(rowI .u32 l0), (rowI .u32 l1)] [] []) (rowI .u32 r) := by
  unfold nat_sub.f at h
  simp only [Try.f153, Option.getD_some, startA]
  rcases ite_some h with ⟨c11, h⟩ | ⟨c11, h⟩
  · rcases ite_some h with ⟨c12, h⟩ | ⟨c12, h⟩
    · simp (maxSteps := 2000000) (disch := (first | omega | (simp only [List.length_append, List.length_map, List.length_cons, List.length_nil, List.length_set, List.length_replicate, List.length_take, List.size_toArray]; omega))) [E153, c11, c12]
      refine AEnds.loopS ((n153_ls _ _) _ _ _ _ _ _  h) ?_
      simp only [E153, firstR, mk_keep, keepT, List.find?, Nat.reduceBEq, Option.map_some, Option.getD_some]
      simp (maxSteps := 2000000) (disch := (first | omega | (simp only [List.length_append, List.length_map, List.length_cons, List.length_nil, List.length_set, List.length_replicate, List.length_take, List.size_toArray]; omega))) [E153, c11, c12]
      try omega
    · cases h
  · cases h
theorem fit153 : Fits Try.prog E153.ref E153.dep Try.f153 = true := by kernel_rfl
theorem good153 : GoodV 153 := by
  intro xs r h
  simp only [SV] at h
  unfold SV153 at h
  split at h
  · obtain ⟨a0, h0, h⟩ := Option.bind_eq_some_iff.1 h
    obtain ⟨a1, h1, h⟩ := Option.bind_eq_some_iff.1 h
    obtain ⟨q, hq, rfl⟩ := Option.map_eq_some_iff.1 h
    obtain ⟨k, hk⟩ := of_pick hq
    obtain rfl := unI_eq h0
    obtain rfl := unI_eq h1
    exact okW_ends (mkE_ok (all_cons good121 all_nil) (all_cons goodR121 all_nil)) mixed Try.func153 rfl fit153 (n153_run k _ _  _ hk)
  · cases h
theorem goodR153 : GoodR 153 := fun _ _ _ _ _ _ h => by simp [SR] at h
end Go.Proofs.Ytdaggnflamacgaa.ZRat
namespace Go.Proofs.Ytdaggnflamacgaa.ZRat
open Go.RowKit Go.Proofs.Ytdaggnflamacgaa.Wd
open Go Go.Proofs.Ytdaggnflamacgaa.Ab Go.Proofs
set_option linter.unusedSimpArgs false
set_option linter.unusedVariables false
set_option maxHeartbeats 4000000
set_option maxRecDepth 10000
noncomputable def E143 : Env := mkE [] [121, 148, 153] [] []
theorem n143_run (k : Nat) (l0 : List Int) (l1 : List Int) (r : (List Int × Bool)) (h : nat_Sub.f k l0 l1 = some r) : AEnds E143 (finW Try.prog Try.f143.results) 0 [.code (Try.f143.body.getD .skip)] (startA Try.f143 [(rowI .u32 l0), (rowI .u32 l1)] [] []) (.tup [(rowI .u32 r.1), (.bool r.2)]) := by
  unfold nat_Sub.f at h
  simp only [Try.f143, Option.getD_some, startA]
  obtain ⟨t1, e2, h⟩ := Option.bind_eq_some_iff.1 h
  have p3 := pick_of (fun k r h => nat_trim.mono _  k r h) e2
  obtain ⟨t4, e5, h⟩ := Option.bind_eq_some_iff.1 h
  have p6 := pick_of (fun k r h => nat_cmp.mono _ _  k r h) e5
  rcases ite_some h with ⟨c7, h⟩ | ⟨c7, h⟩
  · obtain rfl := Option.some.inj h
    simp (maxSteps := 2000000) (disch := (first | omega | (simp only [List.length_append, List.length_map, List.length_cons, List.length_nil, List.length_set, List.length_replicate, List.length_take, List.size_toArray]; omega))) [E143, p3, p6, c7]
    try omega
  · obtain ⟨t8, e9, h⟩ := Option.bind_eq_some_iff.1 h
    have p10 := pick_of (fun k r h => nat_sub.mono _ _  k r h) e9
    obtain rfl := Option.some.inj h
    simp (maxSteps := 2000000) (disch := (first | omega | (simp only [List.length_append, List.length_map, List.length_cons, List.length_nil, List.length_set, List.length_replicate, List.length_take, List.size_toArray]; omega))) [E143, p3, p6, c7, p10]
    try omega
theorem fit143 : Fits Try.prog E143.ref E143.dep Try.f143 = true := by kernel_rfl
theorem good143 : GoodV 143 := by
  intro xs r h
  simp only [SV] at h
  unfold SV143 at h
  split at h
  · obtain ⟨a0, h0, h⟩ := Option.bind_eq_some_iff.1 h
    obtain ⟨a1, h1, h⟩ := Option.bind_eq_some_iff.1 h
    obtain ⟨q, hq, rfl⟩ := Option.map_eq_some_iff.1 h
    obtain ⟨k, hk⟩ := of_pick hq
    obtain rfl := unI_eq h0
    obtain rfl := unI_eq h1
    exact okW_ends (mkE_ok (all_cons good121 (all_cons good148 (all_cons good153 all_nil))) (all_cons goodR121 (all_cons goodR148 (all_cons goodR153 all_nil)))) mixed Try.func143 rfl fit143 (n143_run k _ _  _ hk)
  · cases h
theorem goodR143 : GoodR 143 := fun _ _ _ _ _ _ h => by simp [SR] at h
end Go.Proofs.Ytdaggnflamacgaa.ZRat
namespace Go.Proofs.Ytdaggnflamacgaa.ZRat
open Go.RowKit Go.Proofs.Ytdaggnflamacgaa.Wd
open Go Go.Proofs.Ytdaggnflamacgaa.Ab Go.Proofs
set_option linter.unusedSimpArgs false
set_option linter.unusedVariables false
set_option maxHeartbeats 4000000
set_option maxRecDepth 10000
noncomputable def E109 : Env := mkE [] [121] [(3, [1, 5, 17, 18, 19]), (7, [1, 5, 6, 7, 8, 17, 18, 19, 24, 25, 26])] []
theorem n109_ls (r : (List Int)) (k : Nat) : (∀ (x1 : List Int) (x5 : List Int) (x17 : List Int) (x18 : Int) (x19 : Int), nat_Mul.l0 k x1 x5 x17 x18 x19 = some r → AEnds E109 (finW Try.prog Try.f109.results) 0 (atLoop Try.f109 3) ⟨fr 67 [(1, (rowI .u32 x1)), (5, .own 0 0 x5.length 1), (17, (rowI .u32 x17)), (18, (.int .i64 x18)), (19, (.int .i64 x19))], [.arr ((x5).map (.int .u32))], [false]⟩ (rowI .u32 r)) ∧ (∀ (x1 : List Int) (x5 : List Int) (x6 : Int) (x7 : Int) (x8 : Int) (x17 : List Int) (x18 : Int) (x19 : Int) (x24 : List Int) (x25 : Int) (x26 : Int), nat_Mul.l1 k x1 x5 x6 x7 x8 x17 x18 x19 x24 x25 x26 = some r → AEnds E109 (finW Try.prog Try.f109.results) 0 (atLoop Try.f109 7) ⟨fr 67 [(1, (rowI .u32 x1)), (5, .own 0 0 x5.length 1), (6, (.int .i64 x6)), (7, (.int .u32 x7)), (8, (.int .u64 x8)), (17, (rowI .u32 x17)), (18, (.int .i64 x18)), (19, (.int .i64 x19)), (24, (rowI .u32 x24)), (25, (.int .i64 x25)), (26, (.int .i64 x26))], [.arr ((x5).map (.int .u32))], [false]⟩ (rowI .u32 r)) := by
  induction k using Nat.strongRecOn with
  | _ k ih =>
  refine ⟨?_, ?_⟩
  · intro x1 x5 x17 x18 x19 h
    cases k with
    | zero => simp [nat_Mul.l0] at h
    | succ k1 =>
    simp only [nat_Mul.l0] at h
    simp only [Try.f109, atLoop, seek, firstR, reduceIte, Option.getD_some, Nat.reduceEqDiff]
    rcases ite_some h with ⟨c2, h⟩ | ⟨c2, h⟩
    · rcases ite_some h with ⟨c3, h⟩ | ⟨c3, h⟩
      · rcases ite_some h with ⟨c4, h⟩ | ⟨c4, h⟩
        · simp (maxSteps := 2000000) (disch := (first | omega | (simp only [List.length_append, List.length_map, List.length_cons, List.length_nil, List.length_set, List.length_replicate, List.length_take, List.size_toArray]; omega))) [E109, c2, c3, c4]
          refine AEnds.loopS ((ih k1 (by omega)).2 _ _ _ _ _ _ _ _ _ _ _  h) ?_
          simp only [E109, firstR, mk_keep, keepT, List.find?, Nat.reduceBEq, Option.map_some, Option.getD_some]
          simp (maxSteps := 2000000) (disch := (first | omega | (simp only [List.length_append, List.length_map, List.length_cons, List.length_nil, List.length_set, List.length_replicate, List.length_take, List.size_toArray]; omega))) [E109, c2, c3, c4]
          try omega
        · cases h
      · cases h
    · obtain ⟨t5, e6, h⟩ := Option.bind_eq_some_iff.1 h
      have p7 := pick_of (fun k r h => nat_trim.mono _  k r h) e6
      obtain rfl := Option.some.inj h
      simp (maxSteps := 2000000) (disch := (first | omega | (simp only [List.length_append, List.length_map, List.length_cons, List.length_nil, List.length_set, List.length_replicate, List.length_take, List.size_toArray]; omega))) [E109, c2, p7]
      try omega
  · intro x1 x5 x6 x7 x8 x17 x18 x19 x24 x25 x26 h
    cases k with
    | zero => simp [nat_Mul.l1] at h
    | succ k8 =>
    simp only [nat_Mul.l1] at h
    simp only [Try.f109, atLoop, seek, firstR, reduceIte, Option.getD_some, Nat.reduceEqDiff]
    rcases ite_some h with ⟨c9, h⟩ | ⟨c9, h⟩
    · rcases ite_some h with ⟨c10, h⟩ | ⟨c10, h⟩
      · rcases ite_some h with ⟨c11, h⟩ | ⟨c11, h⟩
        · rcases ite_some h with ⟨c12, h⟩ | ⟨c12, h⟩
          · rcases ite_some h with ⟨c13, h⟩ | ⟨c13, h⟩
            · simp (maxSteps := 2000000) (disch := (first | omega | (simp only [List.length_append, List.length_map, List.length_cons, List.length_nil, List.length_set, List.length_replicate, List.length_take, List.size_toArray]; omega))) [E109, c9, c10, c11, c12, c13]
              refine AEnds.againS ((ih k8 (by omega)).2 _ _ _ _ _ _ _ _ _ _ _  h) ?_
              simp only [E109, firstR, mk_keep, keepT, List.find?, Nat.reduceBEq, Option.map_some, Option.getD_some]
              simp (maxSteps := 2000000) (disch := (first | omega | (simp only [List.length_append, List.length_map, List.length_cons, List.length_nil, List.length_set, List.length_replicate, List.length_take, List.size_toArray]; omega))) [E109, c9, c10, c11, c12, c13]
              try omega
            · cases h
          · cases h
        · cases h
      · cases h
    · rcases ite_some h with ⟨c14, h⟩ | ⟨c14, h⟩
      · rcases ite_some h with ⟨c15, h⟩ | ⟨c15, h⟩
        · simp (maxSteps := 2000000) (disch := (first | omega | (simp only [List.length_append, List.length_map, List.length_cons, List.length_nil, List.length_set, List.length_replicate, List.length_take, List.size_toArray]; omega))) [E109, c9, c14, c15]
          refine AEnds.againS ((ih k8 (by omega)).1 _ _ _ _ _  h) ?_
          simp only [E109, firstR, mk_keep, keepT, List.find?, Nat.reduceBEq, Option.map_some, Option.getD_some]
          simp (maxSteps := 2000000) (disch := (first | omega | (simp only [List.length_append, List.length_map, List.length_cons, List.length_nil, List.length_set, List.length_replicate, List.length_take, List.size_toArray]; omega))) [E109, c9, c14, c15]
          try omega
        · cases h
      · cases h
theorem n109_run (k : Nat) (l0 : List Int) (l1 : List Int) (r : (List Int)) (h : nat_Mul.f k l0 l1 = some r) : AEnds E109 (finW Try.prog Try.f109.results) 0 [.code (Try.f109.body.getD .skip)] (startA Try.f109 [(rowI .u32 l0), (rowI .u32 l1)] [] []) (rowI .u32 r) := by
  unfold nat_Mul.f at h
  simp only [Try.f109, Option.getD_some, startA]
  rcases ite_some h with ⟨c16, h⟩ | ⟨c16, h⟩
  · rcases ite_some h with ⟨c17, h⟩ | ⟨c17, h⟩
    · simp (maxSteps := 2000000) (disch := (first | omega | (simp only [List.length_append, List.length_map, List.length_cons, List.length_nil, List.length_set, List.length_replicate, List.length_take, List.size_toArray]; omega))) [E109, c16, c17]
      refine AEnds.loopS ((n109_ls _ _).1 _ _ _ _ _  h) ?_
      simp only [E109, firstR, mk_keep, keepT, List.find?, Nat.reduceBEq, Option.map_some, Option.getD_some]
      simp (maxSteps := 2000000) (disch := (first | omega | (simp only [List.length_append, List.length_map, List.length_cons, List.length_nil, List.length_set, List.length_replicate, List.length_take, List.size_toArray]; omega))) [E109, c16, c17]
      try omega
    · cases h
  · cases h
theorem fit109 : Fits Try.prog E109.ref E109.dep Try.f109 = true := by kernel_rfl
theorem good109 : GoodV 109 := by
  intro xs r h
  simp only [SV] at h
  unfold SV109 at h
  split at h
  · obtain ⟨a0, h0, h⟩ := Option.bind_eq_some_iff.1 h
    obtain ⟨a1, h1, h⟩ := Option.bind_eq_some_iff.1 h
    obtain ⟨q, hq, rfl⟩ := Option.map_eq_some_iff.1 h
    obtain ⟨k, hk⟩ := of_pick hq
    obtain rfl := unI_eq h0
    obtain rfl := unI_eq h1
    exact okW_ends (mkE_ok (all_cons good121 all_nil) (all_cons goodR121 all_nil)) mixed Try.func109 rfl fit109 (n109_run k _ _  _ hk)
  · cases h
theorem goodR109 : GoodR 109 := fun _ _ _ _ _ _ h => by simp [SR] at h
end Go.Proofs.Ytdaggnflamacgaa.ZRat
namespace Go.Proofs.Ytdaggnflamacgaa.ZRat
open Go.RowKit Go.Proofs.Ytdaggnflamacgaa.Wd
open Go Go.Proofs.Ytdaggnflamacgaa.Ab Go.Proofs
set_option linter.unusedSimpArgs false
set_option linter.unusedVariables false
set_option maxHeartbeats 4000000
set_option maxRecDepth 10000
noncomputable def E87 : Env := mkE [] [121, 130] [] []
theorem n87_run (k : Nat) (a0 : Int) (r : (List Int)) (h : nat_Of.f k a0 = some r) : AEnds E87 (finW Try.prog Try.f87.results) 0 [.code (Try.f87.body.getD .skip)] (startA Try.f87 [(.int .u64 a0)] [] []) (rowI .u32 r) := by
  unfold nat_Of.f at h
  simp only [Try.f87, Option.getD_some, startA]
  obtain ⟨t1, e2, h⟩ := Option.bind_eq_some_iff.1 h
  have p3 := pick_of (fun k r h => nat_trim.mono _  k r h) e2
  obtain ⟨t4, e5, h⟩ := Option.bind_eq_some_iff.1 h
  obtain rfl := Option.some.inj h
  simp (maxSteps := 2000000) (disch := (first | omega | (simp only [List.length_append, List.length_map, List.length_cons, List.length_nil, List.length_set, List.length_replicate, List.length_take, List.size_toArray]; omega))) [E87, p3, e5]
  try omega
theorem fit87 : Fits Try.prog E87.ref E87.dep Try.f87 = true := by kernel_rfl
theorem good87 : GoodV 87 := by
  intro xs r h
  simp only [SV] at h
  unfold SV87 at h
  split at h
  · obtain ⟨a0, h0, h⟩ := Option.bind_eq_some_iff.1 h
    obtain ⟨q, hq, rfl⟩ := Option.map_eq_some_iff.1 h
    obtain ⟨k, hk⟩ := of_pick hq
    obtain rfl := unN_eq h0
    exact okW_ends (mkE_ok (all_cons good121 (all_cons good130 all_nil)) (all_cons goodR121 (all_cons goodR130 all_nil))) mixed Try.func87 rfl fit87 (n87_run k _  _ hk)
  · cases h
theorem goodR87 : GoodR 87 := fun _ _ _ _ _ _ h => by simp [SR] at h
end Go.Proofs.Ytdaggnflamacgaa.ZRat
namespace Go.Proofs.Ytdaggnflamacgaa.ZRat
open Go.RowKit Go.Proofs.Ytdaggnflamacgaa.Wd
open Go Go.Proofs.Ytdaggnflamacgaa.Ab Go.Proofs
set_option linter.unusedSimpArgs false
set_option linter.unusedVariables false
set_option maxHeartbeats 4000000
set_option maxRecDepth 10000
noncomputable def E85 : Env := mkE [] [121, 130] [] []
theorem n85_run (k : Nat) (l0 : List Int) (r : (List Int)) (h : nat_Trim.f k l0 = some r) : AEnds E85 (finW Try.prog Try.f85.results) 0 [.code (Try.f85.body.getD .skip)] (startA Try.f85 [(rowI .u32 l0)] [] []) (rowI .u32 r) := by
  unfold nat_Trim.f at h
  simp only [Try.f85, Option.getD_some, startA]
  obtain ⟨t1, e2, h⟩ := Option.bind_eq_some_iff.1 h
  have p3 := pick_of (fun k r h => nat_trim.mono _  k r h) e2
  obtain ⟨t4, e5, h⟩ := Option.bind_eq_some_iff.1 h
  obtain rfl := Option.some.inj h
  simp (maxSteps := 2000000) (disch := (first | omega | (simp only [List.length_append, List.length_map, List.length_cons, List.length_nil, List.length_set, List.length_replicate, List.length_take, List.size_toArray]; omega))) [E85, p3, e5]
  try omega
theorem fit85 : Fits Try.prog E85.ref E85.dep Try.f85 = true := by kernel_rfl
theorem good85 : GoodV 85 := by
  intro xs r h
  simp only [SV] at h
  unfold SV85 at h
  split at h
  · obtain ⟨a0, h0, h⟩ := Option.bind_eq_some_iff.1 h
    obtain ⟨q, hq, rfl⟩ := Option.map_eq_some_iff.1 h
    obtain ⟨k, hk⟩ := of_pick hq
    obtain rfl := unI_eq h0
    exact okW_ends (mkE_ok (all_cons good121 (all_cons good130 all_nil)) (all_cons goodR121 (all_cons goodR130 all_nil))) mixed Try.func85 rfl fit85 (n85_run k _  _ hk)
  · cases h
theorem goodR85 : GoodR 85 := fun _ _ _ _ _ _ h => by simp [SR] at h
end Go.Proofs.Ytdaggnflamacgaa.ZRat
namespace Go.Proofs.Ytdaggnflamacgaa.ZRat
open Go.RowKit Go.Proofs.Ytdaggnflamacgaa.Wd
open Go Go.Proofs.Ytdaggnflamacgaa.Ab Go.Proofs
set_option linter.unusedSimpArgs false
set_option linter.unusedVariables false
set_option maxHeartbeats 4000000
set_option maxRecDepth 10000
noncomputable def E152 : Env := mkE [121, 162, 164, 165] [121, 161, 162, 163, 164, 165] [(7, [6, 7, 8, 9, 10, 11, 12, 13]), (18, [6, 10, 16, 17, 18])] []
theorem n152_ls (r : (List Int × List Int)) (k : Nat) : (∀ (tl : List Int) (x6 : Int) (x7 : List Int) (x8 : List Int) (x9 : Int) (x10 : List Int) (x11 : Int) (x12 : Int) (x13 : Int), nat_long.l0 k x6 x7 x8 x9 x10 x11 x12 x13 = some r → AEnds E152 (finW Try.prog Try.f152.results) 0 (atLoop Try.f152 7) ⟨fr 112 [(6, (.int .i64 x6)), (7, .own 0 0 x7.length 1), (8, .own 1 0 x8.length 1), (9, (.int .i64 x9)), (10, .own 2 0 x10.length 1), (11, (.int .u64 x11)), (12, (.int .u64 x12)), (13, (.int .i64 x13))], [.arr ((x7).map (.int .u32)), .arr ((x8 ++ tl).map (.int .u32)), .arr ((x10).map (.int .u32))], [false, false, false]⟩ (.tup [(rowI .u32 r.1), (rowI .u32 r.2)])) ∧ (∀ (tl : List Int) (x6 : Int) (x10 : List Int) (x16 : List Int) (x17 : Int) (x18 : Int), nat_long.l1 k x6 x10 x16 x17 x18 = some r → AEnds E152 (finW Try.prog Try.f152.results) 0 (atLoop Try.f152 18) ⟨fr 112 [(6, (.int .i64 x6)), (10, .own 0 0 x10.length 1), (16, .own 1 0 x16.length 1), (17, (.int .u64 x17)), (18, (.int .i64 x18))], [.arr ((x10).map (.int .u32)), .arr ((x16 ++ tl).map (.int .u32))], [false, false]⟩ (.tup [(rowI .u32 r.1), (rowI .u32 r.2)])) := by
  induction k using Nat.strongRecOn with
  | _ k ih =>
  refine ⟨?_, ?_⟩
  · intro tl x6 x7 x8 x9 x10 x11 x12 x13 h
    cases k with
    | zero => simp [nat_long.l0] at h
    | succ k1 =>
    simp only [nat_long.l0] at h
    simp only [Try.f152, atLoop, seek, firstR, reduceIte, Option.getD_some, Nat.reduceEqDiff]
    replace h := ite_some h
    rcases h with ⟨c2, h⟩ | ⟨c2, h⟩
    · replace h := ite_some h
      rcases h with ⟨c3, h⟩ | ⟨c3, h⟩
      · replace h := ite_some h
        rcases h with ⟨c4, h⟩ | ⟨c4, h⟩
        · replace h := ite_some h
          rcases h with ⟨c5, h⟩ | ⟨c5, h⟩
          · replace h := Option.bind_eq_some_iff.1 h
            obtain ⟨t6, e7, h⟩ := h
            have p8 := pick_of (fun k r h => nat_guess.mono _ _ _  k r h) e7
            simp only [List.drop_take] at p8
            replace h := Option.bind_eq_some_iff.1 h
            obtain ⟨t9, e10, h⟩ := h
            obtain ⟨q11a, q11b, q11c, t9b, q11p, q11l, rfl⟩ := offX_out e10
            have q11e := Nat.add_sub_of_le (Int.toNat_le_toNat (Int.le_of_lt q11b))
            try dsimp only at h
            replace h := ite_some h
            rcases h with ⟨c12, h⟩ | ⟨c12, h⟩
            · replace h := Option.bind_eq_some_iff.1 h
              obtain ⟨t13, e14, h⟩ := h
              obtain ⟨q15a, q15b, q15c, t13b, q15p, q15l, rfl⟩ := backX_out e14
              have q15e := Nat.add_sub_of_le (Int.toNat_le_toNat (Int.le_of_lt q15b))
              try dsimp only at h
              simp (maxSteps := 2000000) (disch := (first | omega | (simp only [List.length_append, List.length_map, List.length_cons, List.length_nil, List.length_set, List.length_replicate, List.length_take, List.size_toArray]; omega))) [E152, c2, c3, c4, c5, p8, q11p, q11l, q11e, c12, q15e] at q15p
              replace h := ite_some h
              rcases h with ⟨c16, h⟩ | ⟨c16, h⟩
              · simp (maxSteps := 2000000) (disch := (first | omega | (simp only [List.length_append, List.length_map, List.length_cons, List.length_nil, List.length_set, List.length_replicate, List.length_take, List.size_toArray]; omega))) [E152, c2, c3, c4, c5, p8, q11p, q11l, q11e, c12, q15p, q15l, q15e, c16]
                refine AEnds.againS ((ih k1 (by omega)).1 tl _ _ _ _ _ _ _ _  h) ?_
                simp only [E152, firstR, mk_keep, keepT, List.find?, Nat.reduceBEq, Option.map_some, Option.getD_some]
                simp (maxSteps := 2000000) (disch := (first | omega | (simp only [List.length_append, List.length_map, List.length_cons, List.length_nil, List.length_set, List.length_replicate, List.length_take, List.size_toArray]; omega))) [E152, c2, c3, c4, c5, p8, q11p, q11l, q11e, c12, q15p, q15l, q15e, c16]
                try omega
              · cases h
            · replace h := ite_some h
              rcases h with ⟨c17, h⟩ | ⟨c17, h⟩
              · simp (maxSteps := 2000000) (disch := (first | omega | (simp only [List.length_append, List.length_map, List.length_cons, List.length_nil, List.length_set, List.length_replicate, List.length_take, List.size_toArray]; omega))) [E152, c2, c3, c4, c5, p8, q11p, q11l, q11e, c12, c17]
                refine AEnds.againS ((ih k1 (by omega)).1 tl _ _ _ _ _ _ _ _  h) ?_
                simp only [E152, firstR, mk_keep, keepT, List.find?, Nat.reduceBEq, Option.map_some, Option.getD_some]
                simp (maxSteps := 2000000) (disch := (first | omega | (simp only [List.length_append, List.length_map, List.length_cons, List.length_nil, List.length_set, List.length_replicate, List.length_take, List.size_toArray]; omega))) [E152, c2, c3, c4, c5, p8, q11p, q11l, q11e, c12, c17]
                try omega
              · cases h
          · cases h
        · cases h
      · cases h
    · replace h := Option.bind_eq_some_iff.1 h
      obtain ⟨t18, e19, h⟩ := h
      have p20 := pick_of (fun k r h => nat_trim.mono _  k r h) e19
      obtain ⟨tlq21, q21⟩ := trim_pre e19
      subst q21
      simp (maxSteps := 2000000) (disch := (first | omega | (simp only [List.length_append, List.length_map, List.length_cons, List.length_nil, List.length_set, List.length_replicate, List.length_take, List.size_toArray]; omega))) [E152, c2, p20]
      refine AEnds.loopS ((ih k1 (by omega)).2 tlq21 _ _ _ _ _  h) ?_
      simp only [E152, firstR, mk_keep, keepT, List.find?, Nat.reduceBEq, Option.map_some, Option.getD_some]
      simp (maxSteps := 2000000) (disch := (first | omega | (simp only [List.length_append, List.length_map, List.length_cons, List.length_nil, List.length_set, List.length_replicate, List.length_take, List.size_toArray]; omega))) [E152, c2, p20]
      try omega
  · intro tl x6 x10 x16 x17 x18 h
    cases k with
    | zero => simp [nat_long.l1] at h
    | succ k22 =>
    simp only [nat_long.l1] at h
    simp only [Try.f152, atLoop, seek, firstR, reduceIte, Option.getD_some, Nat.reduceEqDiff]
    replace h := ite_some h
    rcases h with ⟨c23, h⟩ | ⟨c23, h⟩
    · replace h := ite_some h
      rcases h with ⟨c24, h⟩ | ⟨c24, h⟩
      · replace h := ite_some h
        rcases h with ⟨c25, h⟩ | ⟨c25, h⟩
        · replace h := ite_some h
          rcases h with ⟨c26, h⟩ | ⟨c26, h⟩
          · simp (maxSteps := 2000000) (disch := (first | omega | (simp only [List.length_append, List.length_map, List.length_cons, List.length_nil, List.length_set, List.length_replicate, List.length_take, List.size_toArray]; omega))) [E152, c23, c24, c25, c26]
            refine AEnds.againS ((ih k22 (by omega)).2 tl _ _ _ _ _  h) ?_
            simp only [E152, firstR, mk_keep, keepT, List.find?, Nat.reduceBEq, Option.map_some, Option.getD_some]
            simp (maxSteps := 2000000) (disch := (first | omega | (simp only [List.length_append, List.length_map, List.length_cons, List.length_nil, List.length_set, List.length_replicate, List.length_take, List.size_toArray]; omega))) [E152, c23, c24, c25, c26]
            try omega
          · cases h
        · cases h
      · cases h
    · replace h := Option.bind_eq_some_iff.1 h
      obtain ⟨t27, e28, h⟩ := h
      have p29 := pick_of (fun k r h => nat_trim.mono _  k r h) e28
      obtain ⟨tlq30, q30⟩ := trim_pre e28
      subst q30
      replace h := Option.bind_eq_some_iff.1 h
      obtain ⟨t31, e32, h⟩ := h
      have p33 := pick_of (fun k r h => nat_trim.mono _  k r h) e32
      obtain ⟨tlq34, q34⟩ := trim_pre e32
      subst q34
      obtain rfl := Option.some.inj h
      simp (maxSteps := 2000000) (disch := (first | omega | (simp only [List.length_append, List.length_map, List.length_cons, List.length_nil, List.length_set, List.length_replicate, List.length_take, List.size_toArray]; omega))) [E152, c23, p29, p33]
      try omega
theorem n152_run (k : Nat) (l0 : List Int) (l1 : List Int) (r : (List Int × List Int)) (h : nat_long.f k l0 l1 = some r) : AEnds E152 (finW Try.prog Try.f152.results) 0 [.code (Try.f152.body.getD .skip)] (startA Try.f152 [(rowI .u32 l0), (rowI .u32 l1)] [] []) (.tup [(rowI .u32 r.1), (rowI .u32 r.2)]) := by
  unfold nat_long.f at h
  simp only [Try.f152, Option.getD_some, startA]
  replace h := ite_some h
  rcases h with ⟨c35, h⟩ | ⟨c35, h⟩
  · replace h := ite_some h
    rcases h with ⟨c36, h⟩ | ⟨c36, h⟩
    · replace h := Option.bind_eq_some_iff.1 h
      obtain ⟨t37, e38, h⟩ := h
      replace h := Option.bind_eq_some_iff.1 h
      obtain ⟨t39, e40, h⟩ := h
      have p41 := pick_of (fun k r h => nat_shift.mono _ _  k r h) e40
      replace h := Option.bind_eq_some_iff.1 h
      obtain ⟨t42, e43, h⟩ := h
      have p44 := pick_of (fun k r h => nat_shift.mono _ _  k r h) e43
      replace h := Option.bind_eq_some_iff.1 h
      obtain ⟨t45, e46, h⟩ := h
      have p47 := pick_of (fun k r h => nat_trim.mono _  k r h) e46
      obtain ⟨tlq48, q48⟩ := trim_pre e46
      subst q48
      replace h := ite_some h
      rcases h with ⟨c49, h⟩ | ⟨c49, h⟩
      · replace h := ite_some h
        rcases h with ⟨c50, h⟩ | ⟨c50, h⟩
        · replace h := Option.bind_eq_some_iff.1 h
          obtain ⟨t51, e52, h⟩ := h
          obtain rfl := Option.some.inj e52
          replace h := ite_some h
          rcases h with ⟨c53, h⟩ | ⟨c53, h⟩
          · replace h := ite_some h
            rcases h with ⟨c54, h⟩ | ⟨c54, h⟩
            · replace h := ite_some h
              rcases h with ⟨c55, h⟩ | ⟨c55, h⟩
              · replace h := ite_some h
                rcases h with ⟨c56, h⟩ | ⟨c56, h⟩
                · simp (maxSteps := 2000000) (disch := (first | omega | (simp only [List.length_append, List.length_map, List.length_cons, List.length_nil, List.length_set, List.length_replicate, List.length_take, List.size_toArray]; omega))) [E152, c35, c36, e38, p41, p44, p47, c49, c50, c53, c54, c55, c56]
                  refine AEnds.loopS ((n152_ls _ _).1 tlq48 _ _ _ _ _ _ _ _  h) ?_
                  simp only [E152, firstR, mk_keep, keepT, List.find?, Nat.reduceBEq, Option.map_some, Option.getD_some]
                  simp (maxSteps := 2000000) (disch := (first | omega | (simp only [List.length_append, List.length_map, List.length_cons, List.length_nil, List.length_set, List.length_replicate, List.length_take, List.size_toArray]; omega))) [E152, c35, c36, e38, p41, p44, p47, c49, c50, c53, c54, c55, c56]
                  try omega
                · cases h
              · cases h
            · cases h
          · cases h
        · cases h
      · cases h
    · cases h
  · cases h
theorem fit152 : Fits Try.prog E152.ref E152.dep Try.f152 = true := by kernel_rfl
theorem good152 : GoodV 152 := by
  intro xs r h
  simp only [SV] at h
  unfold SV152 at h
  split at h
  · obtain ⟨a0, h0, h⟩ := Option.bind_eq_some_iff.1 h
    obtain ⟨a1, h1, h⟩ := Option.bind_eq_some_iff.1 h
    obtain ⟨q, hq, rfl⟩ := Option.map_eq_some_iff.1 h
    obtain ⟨k, hk⟩ := of_pick hq
    obtain rfl := unI_eq h0
    obtain rfl := unI_eq h1
    exact okW_ends (mkE_ok (all_cons good121 (all_cons good161 (all_cons good162 (all_cons good163 (all_cons good164 (all_cons good165 all_nil)))))) (all_cons goodR121 (all_cons goodR161 (all_cons goodR162 (all_cons goodR163 (all_cons goodR164 (all_cons goodR165 all_nil))))))) mixed Try.func152 rfl fit152 (n152_run k _ _  _ hk)
  · cases h
theorem goodR152 : GoodR 152 := fun _ _ _ _ _ _ h => by simp [SR] at h
end Go.Proofs.Ytdaggnflamacgaa.ZRat
namespace Go.Proofs.Ytdaggnflamacgaa.ZRat
open Go.RowKit Go.Proofs.Ytdaggnflamacgaa.Wd
open Go Go.Proofs.Ytdaggnflamacgaa.Ab Go.Proofs
set_option linter.unusedSimpArgs false
set_option linter.unusedVariables false
set_option maxHeartbeats 4000000
set_option maxRecDepth 10000
noncomputable def E142 : Env := mkE [130, 151] [121, 130, 148, 151, 152] [] []
theorem n142_run (k : Nat) (l0 : List Int) (l1 : List Int) (r : (List Int × List Int)) (h : nat_divmod.f k l0 l1 = some r) : AEnds E142 (finW Try.prog Try.f142.results) 0 [.code (Try.f142.body.getD .skip)] (startA Try.f142 [(rowI .u32 l0), (rowI .u32 l1)] [] []) (.tup [(rowI .u32 r.1), (rowI .u32 r.2)]) := by
  unfold nat_divmod.f at h
  simp only [Try.f142, Option.getD_some, startA]
  obtain ⟨t1, e2, h⟩ := Option.bind_eq_some_iff.1 h
  have p3 := pick_of (fun k r h => nat_cmp.mono _ _  k r h) e2
  rcases ite_some h with ⟨c4, h⟩ | ⟨c4, h⟩
  · obtain ⟨t5, e6, h⟩ := Option.bind_eq_some_iff.1 h
    obtain rfl := Option.some.inj h
    simp (maxSteps := 2000000) (disch := (first | omega | (simp only [List.length_append, List.length_map, List.length_cons, List.length_nil, List.length_set, List.length_replicate, List.length_take, List.size_toArray]; omega))) [E142, p3, c4, e6]
    try omega
  · rcases ite_some h with ⟨c7, h⟩ | ⟨c7, h⟩
    · obtain ⟨t8, e9, h⟩ := Option.bind_eq_some_iff.1 h
      rcases ite_some h with ⟨c10, h⟩ | ⟨c10, h⟩
      · obtain ⟨t11, e12, h⟩ := Option.bind_eq_some_iff.1 h
        have p13 := pick_of (fun k r h => nat_short.mono _ _  k r h) e12
        have q14 := short_len e12
        obtain ⟨t15, e16, h⟩ := Option.bind_eq_some_iff.1 h
        have p17 := pick_of (fun k r h => nat_trim.mono _  k r h) e16
        obtain ⟨t18, e19, h⟩ := Option.bind_eq_some_iff.1 h
        have p20 := pick_of (fun k r h => nat_trim.mono _  k r h) e19
        obtain rfl := Option.some.inj h
        simp (maxSteps := 2000000) (disch := (first | omega | (simp only [List.length_append, List.length_map, List.length_cons, List.length_nil, List.length_set, List.length_replicate, List.length_take, List.size_toArray]; omega))) [E142, p3, c4, c7, e9, c10, p13, q14, p17, p20]
        try omega
      · cases h
    · obtain ⟨t21, e22, h⟩ := Option.bind_eq_some_iff.1 h
      have p23 := pick_of (fun k r h => nat_long.mono _ _  k r h) e22
      obtain rfl := Option.some.inj h
      simp (maxSteps := 2000000) (disch := (first | omega | (simp only [List.length_append, List.length_map, List.length_cons, List.length_nil, List.length_set, List.length_replicate, List.length_take, List.size_toArray]; omega))) [E142, p3, c4, c7, p23]
      try omega
theorem fit142 : Fits Try.prog E142.ref E142.dep Try.f142 = true := by kernel_rfl
theorem good142 : GoodV 142 := by
  intro xs r h
  simp only [SV] at h
  unfold SV142 at h
  split at h
  · obtain ⟨a0, h0, h⟩ := Option.bind_eq_some_iff.1 h
    obtain ⟨a1, h1, h⟩ := Option.bind_eq_some_iff.1 h
    obtain ⟨q, hq, rfl⟩ := Option.map_eq_some_iff.1 h
    obtain ⟨k, hk⟩ := of_pick hq
    obtain rfl := unI_eq h0
    obtain rfl := unI_eq h1
    exact okW_ends (mkE_ok (all_cons good121 (all_cons good130 (all_cons good148 (all_cons good151 (all_cons good152 all_nil))))) (all_cons goodR121 (all_cons goodR130 (all_cons goodR148 (all_cons goodR151 (all_cons goodR152 all_nil)))))) mixed Try.func142 rfl fit142 (n142_run k _ _  _ hk)
  · cases h
theorem goodR142 : GoodR 142 := fun _ _ _ _ _ _ h => by simp [SR] at h
end Go.Proofs.Ytdaggnflamacgaa.ZRat
namespace Go.Proofs.Ytdaggnflamacgaa.ZRat
open Go.RowKit Go.Proofs.Ytdaggnflamacgaa.Wd
open Go Go.Proofs.Ytdaggnflamacgaa.Ab Go.Proofs
set_option linter.unusedSimpArgs false
set_option linter.unusedVariables false
set_option maxHeartbeats 4000000
set_option maxRecDepth 10000
noncomputable def E119 : Env := mkE [] [121, 142] [] []
theorem n119_run (k : Nat) (l0 : List Int) (l1 : List Int) (r : (List Int × List Int × Int)) (h : nat_DivMod.f k l0 l1 = some r) : AEnds E119 (finW Try.prog Try.f119.results) 0 [.code (Try.f119.body.getD .skip)] (startA Try.f119 [(rowI .u32 l0), (rowI .u32 l1)] [] []) (.tup [(rowI .u32 r.1), (rowI .u32 r.2.1), (.int .i64 r.2.2)]) := by
  unfold nat_DivMod.f at h
  simp only [Try.f119, Option.getD_some, startA]
  obtain ⟨t1, e2, h⟩ := Option.bind_eq_some_iff.1 h
  have p3 := pick_of (fun k r h => nat_trim.mono _  k r h) e2
  obtain ⟨t4, e5, h⟩ := Option.bind_eq_some_iff.1 h
  have p6 := pick_of (fun k r h => nat_trim.mono _  k r h) e5
  rcases ite_some h with ⟨c7, h⟩ | ⟨c7, h⟩
  · obtain rfl := Option.some.inj h
    simp (maxSteps := 2000000) (disch := (first | omega | (simp only [List.length_append, List.length_map, List.length_cons, List.length_nil, List.length_set, List.length_replicate, List.length_take, List.size_toArray]; omega))) [E119, p3, p6, c7]
    try omega
  · obtain ⟨t8, e9, h⟩ := Option.bind_eq_some_iff.1 h
    have p10 := pick_of (fun k r h => nat_divmod.mono _ _  k r h) e9
    obtain rfl := Option.some.inj h
    simp (maxSteps := 2000000) (disch := (first | omega | (simp only [List.length_append, List.length_map, List.length_cons, List.length_nil, List.length_set, List.length_replicate, List.length_take, List.size_toArray]; omega))) [E119, p3, p6, c7, p10]
    try omega
theorem fit119 : Fits Try.prog E119.ref E119.dep Try.f119 = true := by kernel_rfl
theorem good119 : GoodV 119 := by
  intro xs r h
  simp only [SV] at h
  unfold SV119 at h
  split at h
  · obtain ⟨a0, h0, h⟩ := Option.bind_eq_some_iff.1 h
    obtain ⟨a1, h1, h⟩ := Option.bind_eq_some_iff.1 h
    obtain ⟨q, hq, rfl⟩ := Option.map_eq_some_iff.1 h
    obtain ⟨k, hk⟩ := of_pick hq
    obtain rfl := unI_eq h0
    obtain rfl := unI_eq h1
    exact okW_ends (mkE_ok (all_cons good121 (all_cons good142 all_nil)) (all_cons goodR121 (all_cons goodR142 all_nil))) mixed Try.func119 rfl fit119 (n119_run k _ _  _ hk)
  · cases h
theorem goodR119 : GoodR 119 := fun _ _ _ _ _ _ h => by simp [SR] at h
end Go.Proofs.Ytdaggnflamacgaa.ZRat
namespace Go.Proofs.Ytdaggnflamacgaa.ZRat
open Go.RowKit Go.Proofs.Ytdaggnflamacgaa.Wd
open Go Go.Proofs.Ytdaggnflamacgaa.Ab Go.Proofs
set_option linter.unusedSimpArgs false
set_option linter.unusedVariables false
set_option maxHeartbeats 4000000
set_option maxRecDepth 10000
noncomputable def E128 : Env := mkE [] [121, 130, 142] [(2, [0, 1])] []
theorem n128_ls (r : (List Int)) (k : Nat) : (∀ (x0 : List Int) (x1 : List Int), nat_Gcd.l0 k x0 x1 = some r → AEnds E128 (finW Try.prog Try.f128.results) 0 (atLoop Try.f128 2) ⟨fr 25 [(0, (rowI .u32 x0)), (1, (rowI .u32 x1))], [], []⟩ (rowI .u32 r)) := by
  induction k using Nat.strongRecOn with
  | _ k ih =>
  intro x0 x1 h
  cases k with
  | zero => simp [nat_Gcd.l0] at h
  | succ k1 =>
  simp only [nat_Gcd.l0] at h
  simp only [Try.f128, atLoop, seek, firstR, reduceIte, Option.getD_some, Nat.reduceEqDiff]
  rcases ite_some h with ⟨c2, h⟩ | ⟨c2, h⟩
  · obtain ⟨t3, e4, h⟩ := Option.bind_eq_some_iff.1 h
    have p5 := pick_of (fun k r h => nat_divmod.mono _ _  k r h) e4
    simp (maxSteps := 2000000) (disch := (first | omega | (simp only [List.length_append, List.length_map, List.length_cons, List.length_nil, List.length_set, List.length_replicate, List.length_take, List.size_toArray]; omega))) [E128, c2, p5]
    refine AEnds.againS ((ih k1 (by omega)) _ _  h) ?_
    simp only [E128, firstR, mk_keep, keepT, List.find?, Nat.reduceBEq, Option.map_some, Option.getD_some]
    simp (maxSteps := 2000000) (disch := (first | omega | (simp only [List.length_append, List.length_map, List.length_cons, List.length_nil, List.length_set, List.length_replicate, List.length_take, List.size_toArray]; omega))) [E128, c2, p5]
    try omega
  · obtain rfl := Option.some.inj h
    simp (maxSteps := 2000000) (disch := (first | omega | (simp only [List.length_append, List.length_map, List.length_cons, List.length_nil, List.length_set, List.length_replicate, List.length_take, List.size_toArray]; omega))) [E128, c2]
    try omega
theorem n128_run (k : Nat) (l0 : List Int) (l1 : List Int) (r : (List Int)) (h : nat_Gcd.f k l0 l1 = some r) : AEnds E128 (finW Try.prog Try.f128.results) 0 [.code (Try.f128.body.getD .skip)] (startA Try.f128 [(rowI .u32 l0), (rowI .u32 l1)] [] []) (rowI .u32 r) := by
  unfold nat_Gcd.f at h
  simp only [Try.f128, Option.getD_some, startA]
  obtain ⟨t6, e7, h⟩ := Option.bind_eq_some_iff.1 h
  have p8 := pick_of (fun k r h => nat_trim.mono _  k r h) e7
  obtain ⟨t9, e10, h⟩ := Option.bind_eq_some_iff.1 h
  obtain ⟨t11, e12, h⟩ := Option.bind_eq_some_iff.1 h
  have p13 := pick_of (fun k r h => nat_trim.mono _  k r h) e12
  obtain ⟨t14, e15, h⟩ := Option.bind_eq_some_iff.1 h
  simp (maxSteps := 2000000) (disch := (first | omega | (simp only [List.length_append, List.length_map, List.length_cons, List.length_nil, List.length_set, List.length_replicate, List.length_take, List.size_toArray]; omega))) [E128, p8, e10, p13, e15]
  refine AEnds.loopS ((n128_ls _ _) _ _  h) ?_
  simp only [E128, firstR, mk_keep, keepT, List.find?, Nat.reduceBEq, Option.map_some, Option.getD_some]
  simp (maxSteps := 2000000) (disch := (first | omega | (simp only [List.length_append, List.length_map, List.length_cons, List.length_nil, List.length_set, List.length_replicate, List.length_take, List.size_toArray]; omega))) [E128, p8, e10, p13, e15]
  try omega
theorem fit128 : Fits Try.prog E128.ref E128.dep Try.f128 = true := by kernel_rfl
theorem good128 : GoodV 128 := by
  intro xs r h
  simp only [SV] at h
  unfold SV128 at h
  split at h
  · obtain ⟨a0, h0, h⟩ := Option.bind_eq_some_iff.1 h
    obtain ⟨a1, h1, h⟩ := Option.bind_eq_some_iff.1 h
    obtain ⟨q, hq, rfl⟩ := Option.map_eq_some_iff.1 h
    obtain ⟨k, hk⟩ := of_pick hq
    obtain rfl := unI_eq h0
    obtain rfl := unI_eq h1
    exact okW_ends (mkE_ok (all_cons good121 (all_cons good130 (all_cons good142 all_nil))) (all_cons goodR121 (all_cons goodR130 (all_cons goodR142 all_nil)))) mixed Try.func128 rfl fit128 (n128_run k _ _  _ hk)
  · cases h
theorem goodR128 : GoodR 128 := fun _ _ _ _ _ _ h => by simp [SR] at h
end Go.Proofs.Ytdaggnflamacgaa.ZRat
namespace Go.Proofs.Ytdaggnflamacgaa.ZRat
open Go.RowKit Go.Proofs.Ytdaggnflamacgaa.Wd
open Go Go.Proofs.Ytdaggnflamacgaa.Ab Go.Proofs
set_option linter.unusedSimpArgs false
set_option linter.unusedVariables false
set_option maxHeartbeats 4000000
set_option maxRecDepth 10000
noncomputable def E147 : Env := mkE [121, 130, 151, 155] [121, 130, 151, 155] [(3, [0, 3]), (7, [0, 3, 4, 15]), (11, [3])] []
theorem n147_ls (r : ByteArray) (k : Nat) : (∀ (tl x0 : List Int), nat_show.l0 k x0 [] = some r → AEnds E147 (finW Try.prog Try.f147.results) 0 (atLoop Try.f147 3) ⟨fr 51 [(0, .own 0 0 x0.length 1), (3, .nil)], [.arr ((x0 ++ tl).map (.int .u32))], [false]⟩ (.str r)) ∧ (∀ (tl x0 x3 : List Int), nat_show.l0 k x0 x3 = some r → AEnds E147 (finW Try.prog Try.f147.results) 0 (atLoop Try.f147 3) ⟨fr 51 [(0, .own 0 0 x0.length 1), (3, .own 1 0 x3.length 1)], [.arr ((x0 ++ tl).map (.int .u32)), .arr (x3.map (.int .u8))], [false, false]⟩ (.str r)) ∧ (∀ (tl x0 : List Int) (x4 x15 : Int), nat_show.l1 k x0 [] x4 x15 = some r → AEnds E147 (finW Try.prog Try.f147.results) 0 (atLoop Try.f147 7) ⟨fr 51 [(0, .own 0 0 x0.length 1), (3, .nil), (4, .int .u32 x4), (15, .int .i64 x15)], [.arr ((x0 ++ tl).map (.int .u32))], [false]⟩ (.str r)) ∧ (∀ (tl x0 x3 : List Int) (x4 x15 : Int), nat_show.l1 k x0 x3 x4 x15 = some r → AEnds E147 (finW Try.prog Try.f147.results) 0 (atLoop Try.f147 7) ⟨fr 51 [(0, .own 0 0 x0.length 1), (3, .own 1 0 x3.length 1), (4, .int .u32 x4), (15, .int .i64 x15)], [.arr ((x0 ++ tl).map (.int .u32)), .arr (x3.map (.int .u8))], [false, false]⟩ (.str r)) ∧ (nat_show.l2 k [] = some r → AEnds E147 (finW Try.prog Try.f147.results) 0 (atLoop Try.f147 11) ⟨fr 51 [(3, .nil)], [], []⟩ (.str r)) ∧ (∀ (tl x3 : List Int), nat_show.l2 k x3 = some r → AEnds E147 (finW Try.prog Try.f147.results) 0 (atLoop Try.f147 11) ⟨fr 51 [(3, .own 0 0 x3.length 1)], [.arr ((x3 ++ tl).map (.int .u8))], [false]⟩ (.str r)) := by
  induction k using Nat.strongRecOn with
  | _ k ih =>
  refine ⟨?_, ?_, ?_, ?_, ?_, ?_⟩
  · intro tl x0 h
    cases k with
    | zero => simp [nat_show.l0] at h
    | succ k1 =>
    simp only [nat_show.l0] at h
    simp only [Try.f147, atLoop, seek, firstR, reduceIte, Option.getD_some, Nat.reduceEqDiff]
    rcases ite_some h with ⟨c, h⟩ | ⟨c, h⟩
    · obtain ⟨t, e, h⟩ := Option.bind_eq_some_iff.1 h
      obtain ⟨u, f, h⟩ := Option.bind_eq_some_iff.1 h
      have p := pick_of (fun k r h => nat_short.mono _ _ k r h) e
      have p2 := short_len e
      have g := pick_of (fun k r h => nat_trim.mono _ k r h) f
      obtain ⟨tk, hk⟩ := trim_pre f
      have p3 : x0.length = u.length + tk.length := by rw [← p2, hk, List.length_append]
      rw [hk] at g
      simp (maxSteps := 2000000) (disch := (first | omega | (simp only [List.length_append, List.length_map, List.length_cons, List.length_nil, List.length_set, List.length_replicate, List.length_take, List.size_toArray]; omega))) [E147, c, p, hk, g, p3]
      refine AEnds.loopS ((ih k1 (by omega)).2.2.1 (tk ++ tl) _ _ _ h) ?_
      simp only [E147, firstR, mk_keep, keepT, List.find?, Nat.reduceBEq, Option.map_some, Option.getD_some]
      simp (maxSteps := 2000000) (disch := (first | omega | (simp only [List.length_append, List.length_map, List.length_cons, List.length_nil, List.length_set, List.length_replicate, List.length_take, List.size_toArray]; omega))) [E147, c, p, hk, g, p3]
      try omega
    · simp (maxSteps := 2000000) (disch := (first | omega | (simp only [List.length_append, List.length_map, List.length_cons, List.length_nil, List.length_set, List.length_replicate, List.length_take, List.size_toArray]; omega))) [E147, c]
      refine AEnds.loopS ((ih k1 (by omega)).2.2.2.2.1  h) ?_
      simp only [E147, firstR, mk_keep, keepT, List.find?, Nat.reduceBEq, Option.map_some, Option.getD_some]
      simp (maxSteps := 2000000) (disch := (first | omega | (simp only [List.length_append, List.length_map, List.length_cons, List.length_nil, List.length_set, List.length_replicate, List.length_take, List.size_toArray]; omega))) [E147, c]
      try omega
  · intro tl x0 x3 h
    cases k with
    | zero => simp [nat_show.l0] at h
    | succ k1 =>
    simp only [nat_show.l0] at h
    simp only [Try.f147, atLoop, seek, firstR, reduceIte, Option.getD_some, Nat.reduceEqDiff]
    rcases ite_some h with ⟨c, h⟩ | ⟨c, h⟩
    · obtain ⟨t, e, h⟩ := Option.bind_eq_some_iff.1 h
      obtain ⟨u, f, h⟩ := Option.bind_eq_some_iff.1 h
      have p := pick_of (fun k r h => nat_short.mono _ _ k r h) e
      have p2 := short_len e
      have g := pick_of (fun k r h => nat_trim.mono _ k r h) f
      obtain ⟨tk, hk⟩ := trim_pre f
      have p3 : x0.length = u.length + tk.length := by rw [← p2, hk, List.length_append]
      rw [hk] at g
      simp (maxSteps := 2000000) (disch := (first | omega | (simp only [List.length_append, List.length_map, List.length_cons, List.length_nil, List.length_set, List.length_replicate, List.length_take, List.size_toArray]; omega))) [E147, c, p, hk, g, p3]
      refine AEnds.loopS ((ih k1 (by omega)).2.2.2.1 (tk ++ tl) _ _ _ _ h) ?_
      simp only [E147, firstR, mk_keep, keepT, List.find?, Nat.reduceBEq, Option.map_some, Option.getD_some]
      simp (maxSteps := 2000000) (disch := (first | omega | (simp only [List.length_append, List.length_map, List.length_cons, List.length_nil, List.length_set, List.length_replicate, List.length_take, List.size_toArray]; omega))) [E147, c, p, hk, g, p3]
      try omega
    · simp (maxSteps := 2000000) (disch := (first | omega | (simp only [List.length_append, List.length_map, List.length_cons, List.length_nil, List.length_set, List.length_replicate, List.length_take, List.size_toArray]; omega))) [E147, c]
      refine AEnds.loopS ((ih k1 (by omega)).2.2.2.2.2 [] x3 h) ?_
      simp only [E147, firstR, mk_keep, keepT, List.find?, Nat.reduceBEq, Option.map_some, Option.getD_some]
      simp (maxSteps := 2000000) (disch := (first | omega | (simp only [List.length_append, List.length_map, List.length_cons, List.length_nil, List.length_set, List.length_replicate, List.length_take, List.size_toArray]; omega))) [E147, c]
      try omega
  · intro tl x0 x4 x15 h
    cases k with
    | zero => simp [nat_show.l1] at h
    | succ k1 =>
    simp only [nat_show.l1] at h
    simp only [Try.f147, atLoop, seek, firstR, reduceIte, Option.getD_some, Nat.reduceEqDiff]
    rcases ite_some h with ⟨c, h⟩ | ⟨c, h⟩
    · rcases ite_some h with ⟨c2, h⟩ | ⟨c2, h⟩
      · simp (maxSteps := 2000000) (disch := (first | omega | (simp only [List.length_append, List.length_map, List.length_cons, List.length_nil, List.length_set, List.length_replicate, List.length_take, List.size_toArray]; omega))) [E147, c, c2]
        refine AEnds.againS ((ih k1 (by omega)).2.2.2.1 tl _ _ _ _ h) ?_
        simp only [E147, firstR, mk_keep, keepT, List.find?, Nat.reduceBEq, Option.map_some, Option.getD_some]
        simp (maxSteps := 2000000) (disch := (first | omega | (simp only [List.length_append, List.length_map, List.length_cons, List.length_nil, List.length_set, List.length_replicate, List.length_take, List.size_toArray]; omega))) [E147, c, c2]
        try omega
      · cases h
    · simp (maxSteps := 2000000) (disch := (first | omega | (simp only [List.length_append, List.length_map, List.length_cons, List.length_nil, List.length_set, List.length_replicate, List.length_take, List.size_toArray]; omega))) [E147, c]
      refine AEnds.againS ((ih k1 (by omega)).1 tl _ h) ?_
      simp only [E147, firstR, mk_keep, keepT, List.find?, Nat.reduceBEq, Option.map_some, Option.getD_some]
      simp (maxSteps := 2000000) (disch := (first | omega | (simp only [List.length_append, List.length_map, List.length_cons, List.length_nil, List.length_set, List.length_replicate, List.length_take, List.size_toArray]; omega))) [E147, c]
      try omega
  · intro tl x0 x3 x4 x15 h
    cases k with
    | zero => simp [nat_show.l1] at h
    | succ k1 =>
    simp only [nat_show.l1] at h
    simp only [Try.f147, atLoop, seek, firstR, reduceIte, Option.getD_some, Nat.reduceEqDiff]
    rcases ite_some h with ⟨c, h⟩ | ⟨c, h⟩
    · rcases ite_some h with ⟨c2, h⟩ | ⟨c2, h⟩
      · simp (maxSteps := 2000000) (disch := (first | omega | (simp only [List.length_append, List.length_map, List.length_cons, List.length_nil, List.length_set, List.length_replicate, List.length_take, List.size_toArray]; omega))) [E147, c, c2]
        refine AEnds.againS ((ih k1 (by omega)).2.2.2.1 tl _ _ _ _ h) ?_
        simp only [E147, firstR, mk_keep, keepT, List.find?, Nat.reduceBEq, Option.map_some, Option.getD_some]
        simp (maxSteps := 2000000) (disch := (first | omega | (simp only [List.length_append, List.length_map, List.length_cons, List.length_nil, List.length_set, List.length_replicate, List.length_take, List.size_toArray]; omega))) [E147, c, c2]
        try omega
      · cases h
    · simp (maxSteps := 2000000) (disch := (first | omega | (simp only [List.length_append, List.length_map, List.length_cons, List.length_nil, List.length_set, List.length_replicate, List.length_take, List.size_toArray]; omega))) [E147, c]
      refine AEnds.againS ((ih k1 (by omega)).2.1 tl _ _ h) ?_
      simp only [E147, firstR, mk_keep, keepT, List.find?, Nat.reduceBEq, Option.map_some, Option.getD_some]
      simp (maxSteps := 2000000) (disch := (first | omega | (simp only [List.length_append, List.length_map, List.length_cons, List.length_nil, List.length_set, List.length_replicate, List.length_take, List.size_toArray]; omega))) [E147, c]
      try omega
  · intro h
    cases k with
    | zero => simp [nat_show.l2] at h
    | succ k1 =>
    simp only [nat_show.l2] at h
    simp only [Try.f147, atLoop, seek, firstR, reduceIte, Option.getD_some, Nat.reduceEqDiff]
    simp at h
    subst h
    simp (maxSteps := 2000000) (disch := (first | omega | (simp only [List.length_append, List.length_map, List.length_cons, List.length_nil, List.length_set, List.length_replicate, List.length_take, List.size_toArray]; omega))) [E147]
  · intro tl x3 h
    cases k with
    | zero => simp [nat_show.l2] at h
    | succ k1 =>
    simp only [nat_show.l2] at h
    simp only [Try.f147, atLoop, seek, firstR, reduceIte, Option.getD_some, Nat.reduceEqDiff]
    rcases ite_some h with ⟨c, h⟩ | ⟨c, h⟩
    · rcases ite_some h with ⟨c2, h⟩ | ⟨c2, h⟩
      · rcases ite_some h with ⟨c3, h⟩ | ⟨c3, h⟩
        · rcases ite_some h with ⟨c4, h⟩ | ⟨c4, h⟩
          · rcases ite_some h with ⟨c5, h⟩ | ⟨c5, h⟩
            · simp (maxSteps := 2000000) (disch := (first | omega | (simp only [List.length_append, List.length_map, List.length_cons, List.length_nil, List.length_set, List.length_replicate, List.length_take, List.size_toArray]; omega))) [E147, c, c2, c3, c4, c5]
              refine AEnds.againS ((ih k1 (by omega)).2.2.2.2.2 (x3.drop (wrap64 ((x3.length : Int) - 1)).toNat ++ tl) _ h) ?_
              simp only [E147, firstR, mk_keep, keepT, List.find?, Nat.reduceBEq, Option.map_some, Option.getD_some]
              have hq : x3.take (wrap64 ((x3.length : Int) - 1)).toNat ++ (x3.drop (wrap64 ((x3.length : Int) - 1)).toNat ++ tl) = x3 ++ tl := by rw [← List.append_assoc, List.take_append_drop]
              rw [hq]
              simp (maxSteps := 2000000) (disch := (first | omega | (simp only [List.length_append, List.length_map, List.length_cons, List.length_nil, List.length_set, List.length_replicate, List.length_take, List.size_toArray]; omega))) [E147, c, c2, c3, c4, c5]
              try omega
            · cases h
          · rcases ite_some h with ⟨c9, h⟩ | ⟨c9, h⟩
            · obtain rfl := Option.some.inj h
              have c8 : x3 = [] := List.length_eq_zero_iff.1 (by omega)
              subst c8
              simp (maxSteps := 2000000) (disch := (first | omega | (simp only [List.length_append, List.length_map, List.length_cons, List.length_nil, List.length_set, List.length_replicate, List.length_take, List.size_toArray]; omega))) [E147, c, c2, c3, c4]
            · obtain ⟨t, e, h⟩ := Option.bind_eq_some_iff.1 h
              obtain rfl := Option.some.inj h
              have p := pick_of (fun k r h => slices_Reverse_byte_byte.mono _ k r h) e
              have p2 := rev_len e
              simp (maxSteps := 2000000) (disch := (first | omega | (simp only [List.length_append, List.length_map, List.length_cons, List.length_nil, List.length_set, List.length_replicate, List.length_take, List.size_toArray]; omega))) [E147, c, c2, c3, c4, c9, p, p2]
              try rfl
        · cases h
      · cases h
    · rcases ite_some h with ⟨c9, h⟩ | ⟨c9, h⟩
      · obtain rfl := Option.some.inj h
        have c8 : x3 = [] := List.length_eq_zero_iff.1 (by omega)
        subst c8
        simp (maxSteps := 2000000) (disch := (first | omega | (simp only [List.length_append, List.length_map, List.length_cons, List.length_nil, List.length_set, List.length_replicate, List.length_take, List.size_toArray]; omega))) [E147, c]
      · obtain ⟨t, e, h⟩ := Option.bind_eq_some_iff.1 h
        obtain rfl := Option.some.inj h
        have p := pick_of (fun k r h => slices_Reverse_byte_byte.mono _ k r h) e
        exfalso; omega
theorem n147_run (k : Nat) (l0 : List Int) (r : ByteArray) (h : nat_show.f k l0 = some r) : AEnds E147 (finW Try.prog Try.f147.results) 0 [.code (Try.f147.body.getD .skip)] (startA Try.f147 [(rowI .u32 l0)] [] []) (.str r) := by
  unfold nat_show.f at h
  simp only [Try.f147, Option.getD_some, startA]
  obtain ⟨t, e, h⟩ := Option.bind_eq_some_iff.1 h
  obtain ⟨u, f, h⟩ := Option.bind_eq_some_iff.1 h
  have p := pick_of (fun k r h => nat_trim.mono _ k r h) e
  simp (maxSteps := 2000000) (disch := (first | omega | (simp only [List.length_append, List.length_map, List.length_cons, List.length_nil, List.length_set, List.length_replicate, List.length_take, List.size_toArray]; omega))) [E147, p, f]
  refine AEnds.loopS ((n147_ls r _).1 [] _ h) ?_
  simp only [E147, firstR, mk_keep, keepT, List.find?, Nat.reduceBEq, Option.map_some, Option.getD_some]
  simp (maxSteps := 2000000) (disch := (first | omega | (simp only [List.length_append, List.length_map, List.length_cons, List.length_nil, List.length_set, List.length_replicate, List.length_take, List.size_toArray]; omega))) [E147, p, f]
theorem fit147 : Fits Try.prog E147.ref E147.dep Try.f147 = true := by kernel_rfl
theorem good147 : GoodV 147 := by
  intro xs r h
  simp only [SV] at h
  unfold SV147 at h
  split at h
  · obtain ⟨a0, h0, h⟩ := Option.bind_eq_some_iff.1 h
    obtain ⟨q, hq, rfl⟩ := Option.map_eq_some_iff.1 h
    obtain ⟨k, hk⟩ := of_pick hq
    obtain rfl := unI_eq h0
    exact okW_ends (mkE_ok (all_cons good121 (all_cons good130 (all_cons good151 (all_cons good155 all_nil)))) (all_cons goodR121 (all_cons goodR130 (all_cons goodR151 (all_cons goodR155 all_nil))))) mixed Try.func147 rfl fit147 (n147_run k _  _ hk)
  · cases h
theorem goodR147 : GoodR 147 := fun _ _ _ _ _ _ h => by simp [SR] at h
end Go.Proofs.Ytdaggnflamacgaa.ZRat
namespace Go.Proofs.Ytdaggnflamacgaa.ZRat
open Go.RowKit Go.Proofs.Ytdaggnflamacgaa.Wd
open Go Go.Proofs.Ytdaggnflamacgaa.Ab Go.Proofs
set_option linter.unusedSimpArgs false
set_option linter.unusedVariables false
set_option maxHeartbeats 4000000
set_option maxRecDepth 10000
noncomputable def E134 : Env := mkE [] [147] [] []
theorem n134_run (k : Nat) (l0 : List Int) (r : (ByteArray)) (h : nat_Show.f k l0 = some r) : AEnds E134 (finW Try.prog Try.f134.results) 0 [.code (Try.f134.body.getD .skip)] (startA Try.f134 [(rowI .u32 l0)] [] []) (.str r) := by
  unfold nat_Show.f at h
  simp only [Try.f134, Option.getD_some, startA]
  obtain ⟨t1, e2, h⟩ := Option.bind_eq_some_iff.1 h
  have p3 := pick_of (fun k r h => nat_show.mono _  k r h) e2
  obtain rfl := Option.some.inj h
  simp (maxSteps := 2000000) (disch := (first | omega | (simp only [List.length_append, List.length_map, List.length_cons, List.length_nil, List.length_set, List.length_replicate, List.length_take, List.size_toArray]; omega))) [E134, p3]
  try omega
theorem fit134 : Fits Try.prog E134.ref E134.dep Try.f134 = true := by kernel_rfl
theorem good134 : GoodV 134 := by
  intro xs r h
  simp only [SV] at h
  unfold SV134 at h
  split at h
  · obtain ⟨a0, h0, h⟩ := Option.bind_eq_some_iff.1 h
    obtain ⟨q, hq, rfl⟩ := Option.map_eq_some_iff.1 h
    obtain ⟨k, hk⟩ := of_pick hq
    obtain rfl := unI_eq h0
    exact okW_ends (mkE_ok (all_cons good147 all_nil) (all_cons goodR147 all_nil)) mixed Try.func134 rfl fit134 (n134_run k _  _ hk)
  · cases h
theorem goodR134 : GoodR 134 := fun _ _ _ _ _ _ h => by simp [SR] at h
end Go.Proofs.Ytdaggnflamacgaa.ZRat
namespace Go.Proofs.Ytdaggnflamacgaa.ZRat
open Go.RowKit Go.Proofs.Ytdaggnflamacgaa.Wd
open Go Go.Proofs.Ytdaggnflamacgaa.Ab Go.Proofs
set_option linter.unusedSimpArgs false
set_option linter.unusedVariables false
set_option maxHeartbeats 4000000
set_option maxRecDepth 10000
noncomputable def E138 : Env := mkE [] [148] [] []
theorem n138_run (k : Nat) (l0 : List Int) (l1 : List Int) (r : (Int)) (h : nat_Cmp.f k l0 l1 = some r) : AEnds E138 (finW Try.prog Try.f138.results) 0 [.code (Try.f138.body.getD .skip)] (startA Try.f138 [(rowI .u32 l0), (rowI .u32 l1)] [] []) (.int .i64 r) := by
  unfold nat_Cmp.f at h
  simp only [Try.f138, Option.getD_some, startA]
  obtain ⟨t1, e2, h⟩ := Option.bind_eq_some_iff.1 h
  have p3 := pick_of (fun k r h => nat_cmp.mono _ _  k r h) e2
  obtain rfl := Option.some.inj h
  simp (maxSteps := 2000000) (disch := (first | omega | (simp only [List.length_append, List.length_map, List.length_cons, List.length_nil, List.length_set, List.length_replicate, List.length_take, List.size_toArray]; omega))) [E138, p3]
  try omega
theorem fit138 : Fits Try.prog E138.ref E138.dep Try.f138 = true := by kernel_rfl
theorem good138 : GoodV 138 := by
  intro xs r h
  simp only [SV] at h
  unfold SV138 at h
  split at h
  · obtain ⟨a0, h0, h⟩ := Option.bind_eq_some_iff.1 h
    obtain ⟨a1, h1, h⟩ := Option.bind_eq_some_iff.1 h
    obtain ⟨q, hq, rfl⟩ := Option.map_eq_some_iff.1 h
    obtain ⟨k, hk⟩ := of_pick hq
    obtain rfl := unI_eq h0
    obtain rfl := unI_eq h1
    exact okW_ends (mkE_ok (all_cons good148 all_nil) (all_cons goodR148 all_nil)) mixed Try.func138 rfl fit138 (n138_run k _ _  _ hk)
  · cases h
theorem goodR138 : GoodR 138 := fun _ _ _ _ _ _ h => by simp [SR] at h
end Go.Proofs.Ytdaggnflamacgaa.ZRat
namespace Go.Proofs.Ytdaggnflamacgaa.ZRat
open Go.RowKit Go.Proofs.Ytdaggnflamacgaa.Wd
open Go Go.Proofs.Ytdaggnflamacgaa.Ab Go.Proofs
set_option linter.unusedSimpArgs false
set_option linter.unusedVariables false
set_option maxHeartbeats 4000000
set_option maxRecDepth 10000
noncomputable def E154 : Env := mkE [] [121, 166] [] []
theorem n154_run (k : Nat) (l0 : List Int) (r : (Int)) (h : nat_size.f k l0 = some r) : AEnds E154 (finW Try.prog Try.f154.results) 0 [.code (Try.f154.body.getD .skip)] (startA Try.f154 [(rowI .u32 l0)] [] []) (.int .i64 r) := by
  unfold nat_size.f at h
  simp only [Try.f154, Option.getD_some, startA]
  obtain ⟨t1, e2, h⟩ := Option.bind_eq_some_iff.1 h
  have p3 := pick_of (fun k r h => nat_trim.mono _  k r h) e2
  rcases ite_some h with ⟨c4, h⟩ | ⟨c4, h⟩
  · obtain rfl := Option.some.inj h
    simp (maxSteps := 2000000) (disch := (first | omega | (simp only [List.length_append, List.length_map, List.length_cons, List.length_nil, List.length_set, List.length_replicate, List.length_take, List.size_toArray]; omega))) [E154, p3, c4]
    try omega
  · rcases ite_some h with ⟨c5, h⟩ | ⟨c5, h⟩
    · rcases ite_some h with ⟨c6, h⟩ | ⟨c6, h⟩
      · obtain ⟨t7, e8, h⟩ := Option.bind_eq_some_iff.1 h
        obtain rfl := Option.some.inj h
        simp (maxSteps := 2000000) (disch := (first | omega | (simp only [List.length_append, List.length_map, List.length_cons, List.length_nil, List.length_set, List.length_replicate, List.length_take, List.size_toArray]; omega))) [E154, p3, c4, c5, c6, e8]
        try omega
      · cases h
    · cases h
theorem fit154 : Fits Try.prog E154.ref E154.dep Try.f154 = true := by kernel_rfl
theorem good154 : GoodV 154 := by
  intro xs r h
  simp only [SV] at h
  unfold SV154 at h
  split at h
  · obtain ⟨a0, h0, h⟩ := Option.bind_eq_some_iff.1 h
    obtain ⟨q, hq, rfl⟩ := Option.map_eq_some_iff.1 h
    obtain ⟨k, hk⟩ := of_pick hq
    obtain rfl := unI_eq h0
    exact okW_ends (mkE_ok (all_cons good121 (all_cons good166 all_nil)) (all_cons goodR121 (all_cons goodR166 all_nil))) mixed Try.func154 rfl fit154 (n154_run k _  _ hk)
  · cases h
theorem goodR154 : GoodR 154 := fun _ _ _ _ _ _ h => by simp [SR] at h
end Go.Proofs.Ytdaggnflamacgaa.ZRat
namespace Go.Proofs.Ytdaggnflamacgaa.ZRat
open Go.RowKit Go.Proofs.Ytdaggnflamacgaa.Wd
open Go Go.Proofs.Ytdaggnflamacgaa.Ab Go.Proofs
set_option linter.unusedSimpArgs false
set_option linter.unusedVariables false
set_option maxHeartbeats 4000000
set_option maxRecDepth 10000
noncomputable def E144 : Env := mkE [] [154] [] []
theorem n144_run (k : Nat) (l0 : List Int) (r : (Int)) (h : nat_Bits.f k l0 = some r) : AEnds E144 (finW Try.prog Try.f144.results) 0 [.code (Try.f144.body.getD .skip)] (startA Try.f144 [(rowI .u32 l0)] [] []) (.int .i64 r) := by
  unfold nat_Bits.f at h
  simp only [Try.f144, Option.getD_some, startA]
  obtain ⟨t1, e2, h⟩ := Option.bind_eq_some_iff.1 h
  have p3 := pick_of (fun k r h => nat_size.mono _  k r h) e2
  obtain rfl := Option.some.inj h
  simp (maxSteps := 2000000) (disch := (first | omega | (simp only [List.length_append, List.length_map, List.length_cons, List.length_nil, List.length_set, List.length_replicate, List.length_take, List.size_toArray]; omega))) [E144, p3]
  try omega
theorem fit144 : Fits Try.prog E144.ref E144.dep Try.f144 = true := by kernel_rfl
theorem good144 : GoodV 144 := by
  intro xs r h
  simp only [SV] at h
  unfold SV144 at h
  split at h
  · obtain ⟨a0, h0, h⟩ := Option.bind_eq_some_iff.1 h
    obtain ⟨q, hq, rfl⟩ := Option.map_eq_some_iff.1 h
    obtain ⟨k, hk⟩ := of_pick hq
    obtain rfl := unI_eq h0
    exact okW_ends (mkE_ok (all_cons good154 all_nil) (all_cons goodR154 all_nil)) mixed Try.func144 rfl fit144 (n144_run k _  _ hk)
  · cases h
theorem goodR144 : GoodR 144 := fun _ _ _ _ _ _ h => by simp [SR] at h
end Go.Proofs.Ytdaggnflamacgaa.ZRat
