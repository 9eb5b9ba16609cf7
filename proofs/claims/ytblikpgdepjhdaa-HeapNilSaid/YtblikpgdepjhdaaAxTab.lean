/- What is asked of each type of the program: closed facts. -/
import Derived.Test.YtblikpgdepjhdaaProg
import Derived.Test.YtblikpgdepjhdaaXA
namespace Go.Proofs.Ytblikpgdepjhdaa
set_option maxRecDepth 100000
theorem ti1 : tinfo Try.prog 1 = some ⟨1, 8, false, [.nilFunc], none, none, []⟩ := by kernel_rfl
theorem tk1 : tkind Try.prog 1 = .other := by kernel_rfl
theorem ti2 : tinfo Try.prog 2 = some ⟨1, 8, false, [.int .i64 0], none, .some .i64, []⟩ := by kernel_rfl
theorem tk2 : tkind Try.prog 2 = .int := by kernel_rfl
theorem ti3 : tinfo Try.prog 3 = some ⟨1, 8, false, [.int .i64 0], none, .some .i64, []⟩ := by kernel_rfl
theorem tk3 : tkind Try.prog 3 = .int := by kernel_rfl
theorem ti4 : tinfo Try.prog 4 = some ⟨1, 1, false, [.bool false], none, none, []⟩ := by kernel_rfl
theorem tk4 : tkind Try.prog 4 = .bool := by kernel_rfl
theorem ti5 : tinfo Try.prog 5 = some ⟨1, 1, false, [.int .u8 0], none, .some .u8, []⟩ := by kernel_rfl
theorem tk5 : tkind Try.prog 5 = .int := by kernel_rfl
theorem ti6 : tinfo Try.prog 6 = some ⟨1, 1, false, [.int .u8 0], none, .some .u8, []⟩ := by kernel_rfl
theorem tk6 : tkind Try.prog 6 = .int := by kernel_rfl
theorem ti7 : tinfo Try.prog 7 = some ⟨4, 24, true, [.int .i64 0, .int .i64 0, .bool false, .int .u8 0], none, none, [(0, (1, false)), (1, (1, false)), (2, (1, false)), (3, (1, false))]⟩ := by kernel_rfl
theorem tk7 : tkind Try.prog 7 = .strct := by kernel_rfl
theorem ti8 : tinfo Try.prog 8 = some ⟨4, 24, true, [.int .i64 0, .int .i64 0, .bool false, .int .u8 0], none, none, [(0, (1, false)), (1, (1, false)), (2, (1, false)), (3, (1, false))]⟩ := by kernel_rfl
theorem tk8 : tkind Try.prog 8 = .strct := by kernel_rfl
theorem ti9 : tinfo Try.prog 9 = some ⟨1, 16, false, [.string ByteArray.empty], none, none, []⟩ := by kernel_rfl
theorem tk9 : tkind Try.prog 9 = .str := by kernel_rfl
theorem ti10 : tinfo Try.prog 10 = some ⟨1, 16, false, [.string ByteArray.empty], none, none, []⟩ := by kernel_rfl
theorem tk10 : tkind Try.prog 10 = .str := by kernel_rfl
theorem ti11 : tinfo Try.prog 11 = some ⟨1, 16, false, [.string ByteArray.empty], none, none, []⟩ := by kernel_rfl
theorem tk11 : tkind Try.prog 11 = .str := by kernel_rfl
theorem ti12 : tinfo Try.prog 12 = some ⟨1, 8, false, [.int .u64 0], none, .some .u64, []⟩ := by kernel_rfl
theorem tk12 : tkind Try.prog 12 = .int := by kernel_rfl
theorem ti13 : tinfo Try.prog 13 = some ⟨2, 24, true, [.string ByteArray.empty, .int .u64 0], none, none, [(0, (1, false)), (1, (1, false))]⟩ := by kernel_rfl
theorem tk13 : tkind Try.prog 13 = .strct := by kernel_rfl
theorem ti14 : tinfo Try.prog 14 = some ⟨2, 24, true, [.string ByteArray.empty, .int .u64 0], none, none, [(0, (1, false)), (1, (1, false))]⟩ := by kernel_rfl
theorem tk14 : tkind Try.prog 14 = .strct := by kernel_rfl
theorem ti15 : tinfo Try.prog 15 = some ⟨1, 8, false, [.pointer none], none, none, []⟩ := by kernel_rfl
theorem tk15 : tkind Try.prog 15 = .ptr := by kernel_rfl
theorem ti16 : tinfo Try.prog 16 = some ⟨1, 8, false, [.pointer none], none, none, []⟩ := by kernel_rfl
theorem tk16 : tkind Try.prog 16 = .ptr := by kernel_rfl
theorem ti17 : tinfo Try.prog 17 = some ⟨1, 8, false, [.pointer none], none, none, []⟩ := by kernel_rfl
theorem tk17 : tkind Try.prog 17 = .ptr := by kernel_rfl
theorem ti18 : tinfo Try.prog 18 = some ⟨1, 8, true, [.pointer none], none, none, [(0, (1, false))]⟩ := by kernel_rfl
theorem tk18 : tkind Try.prog 18 = .strct := by kernel_rfl
theorem ti19 : tinfo Try.prog 19 = some ⟨1, 8, true, [.pointer none], none, none, [(0, (1, false))]⟩ := by kernel_rfl
theorem tk19 : tkind Try.prog 19 = .strct := by kernel_rfl
theorem ti20 : tinfo Try.prog 20 = some ⟨1, 16, false, [.nilIface], none, none, []⟩ := by kernel_rfl
theorem tk20 : tkind Try.prog 20 = .other := by kernel_rfl
theorem ti21 : tinfo Try.prog 21 = some ⟨1, 4, false, [.int .i32 0], none, .some .i32, []⟩ := by kernel_rfl
theorem tk21 : tkind Try.prog 21 = .int := by kernel_rfl
theorem ti22 : tinfo Try.prog 22 = some ⟨1, 24, false, [.slice none 0 0], .some 27, none, []⟩ := by kernel_rfl
theorem tk22 : tkind Try.prog 22 = .slice := by kernel_rfl
theorem ti23 : tinfo Try.prog 23 = some ⟨1, 8, false, [.nilFunc], none, none, []⟩ := by kernel_rfl
theorem tk23 : tkind Try.prog 23 = .other := by kernel_rfl
theorem ti24 : tinfo Try.prog 24 = some ⟨1, 8, false, [.nilFunc], none, none, []⟩ := by kernel_rfl
theorem tk24 : tkind Try.prog 24 = .other := by kernel_rfl
theorem ti25 : tinfo Try.prog 25 = some ⟨1, 24, false, [.slice none 0 0], .some 46, none, []⟩ := by kernel_rfl
theorem tk25 : tkind Try.prog 25 = .slice := by kernel_rfl
theorem ti26 : tinfo Try.prog 26 = some ⟨4, 56, true, [.int .u8 0, .int .i64 0, .string ByteArray.empty, .slice none 0 0], none, none, [(0, (1, false)), (1, (1, false)), (2, (1, false)), (3, (1, false))]⟩ := by kernel_rfl
theorem tk26 : tkind Try.prog 26 = .strct := by kernel_rfl
theorem ti27 : tinfo Try.prog 27 = some ⟨4, 56, true, [.int .u8 0, .int .i64 0, .string ByteArray.empty, .slice none 0 0], none, none, [(0, (1, false)), (1, (1, false)), (2, (1, false)), (3, (1, false))]⟩ := by kernel_rfl
theorem tk27 : tkind Try.prog 27 = .strct := by kernel_rfl
theorem ti28 : tinfo Try.prog 28 = some ⟨1, 8, false, [.pointer none], none, none, []⟩ := by kernel_rfl
theorem tk28 : tkind Try.prog 28 = .ptr := by kernel_rfl
theorem ti29 : tinfo Try.prog 29 = some ⟨1, 8, false, [.int .i64 0], none, .some .i64, []⟩ := by kernel_rfl
theorem tk29 : tkind Try.prog 29 = .int := by kernel_rfl
theorem ti31 : tinfo Try.prog 31 = some ⟨1, 8, false, [.nilFunc], none, none, []⟩ := by kernel_rfl
theorem tk31 : tkind Try.prog 31 = .other := by kernel_rfl
theorem ti32 : tinfo Try.prog 32 = some ⟨3, 40, true, [.int .i64 0, .int .i64 0, .slice none 0 0], none, none, [(0, (1, false)), (1, (1, false)), (2, (1, false))]⟩ := by kernel_rfl
theorem tk32 : tkind Try.prog 32 = .strct := by kernel_rfl
theorem ti33 : tinfo Try.prog 33 = some ⟨3, 40, true, [.int .i64 0, .int .i64 0, .slice none 0 0], none, none, [(0, (1, false)), (1, (1, false)), (2, (1, false))]⟩ := by kernel_rfl
theorem tk33 : tkind Try.prog 33 = .strct := by kernel_rfl
theorem ti35 : tinfo Try.prog 35 = some ⟨1, 8, false, [.nilFunc], none, none, []⟩ := by kernel_rfl
theorem tk35 : tkind Try.prog 35 = .other := by kernel_rfl
theorem ti36 : tinfo Try.prog 36 = some ⟨1, 8, false, [.nilFunc], none, none, []⟩ := by kernel_rfl
theorem tk36 : tkind Try.prog 36 = .other := by kernel_rfl
theorem ti37 : tinfo Try.prog 37 = some ⟨1, 8, false, [.nilFunc], none, none, []⟩ := by kernel_rfl
theorem tk37 : tkind Try.prog 37 = .other := by kernel_rfl
theorem ti38 : tinfo Try.prog 38 = some ⟨1, 8, false, [.nilFunc], none, none, []⟩ := by kernel_rfl
theorem tk38 : tkind Try.prog 38 = .other := by kernel_rfl
theorem ti39 : tinfo Try.prog 39 = some ⟨1, 8, false, [.nilFunc], none, none, []⟩ := by kernel_rfl
theorem tk39 : tkind Try.prog 39 = .other := by kernel_rfl
theorem ti40 : tinfo Try.prog 40 = some ⟨1, 24, false, [.slice none 0 0], .some 48, none, []⟩ := by kernel_rfl
theorem tk40 : tkind Try.prog 40 = .slice := by kernel_rfl
theorem ti41 : tinfo Try.prog 41 = some ⟨1, 8, false, [.nilFunc], none, none, []⟩ := by kernel_rfl
theorem tk41 : tkind Try.prog 41 = .other := by kernel_rfl
theorem ti42 : tinfo Try.prog 42 = some ⟨1, 8, false, [.nilFunc], none, none, []⟩ := by kernel_rfl
theorem tk42 : tkind Try.prog 42 = .other := by kernel_rfl
theorem ti44 : tinfo Try.prog 44 = some ⟨1, 8, false, [.nilFunc], none, none, []⟩ := by kernel_rfl
theorem tk44 : tkind Try.prog 44 = .other := by kernel_rfl
theorem ti45 : tinfo Try.prog 45 = some ⟨4, 32, true, [.int .u8 0, .int .i64 0, .int .i64 0, .int .i64 0], none, none, [(0, (1, false)), (1, (1, false)), (2, (1, false)), (3, (1, false))]⟩ := by kernel_rfl
theorem tk45 : tkind Try.prog 45 = .strct := by kernel_rfl
theorem ti46 : tinfo Try.prog 46 = some ⟨4, 32, true, [.int .u8 0, .int .i64 0, .int .i64 0, .int .i64 0], none, none, [(0, (1, false)), (1, (1, false)), (2, (1, false)), (3, (1, false))]⟩ := by kernel_rfl
theorem tk46 : tkind Try.prog 46 = .strct := by kernel_rfl
theorem ti47 : tinfo Try.prog 47 = some ⟨13, 128, true, [.int .i64 0, .int .i64 0, .int .i64 0, .string ByteArray.empty, .int .u8 0, .int .i64 0, .int .i64 0, .int .i64 0, .int .u8 0, .int .i64 0, .int .i64 0, .int .i64 0, .slice none 0 0], none, none, [(0, (1, false)), (1, (1, false)), (2, (1, false)), (3, (1, false)), (4, (4, true)), (8, (4, true)), (12, (1, false))]⟩ := by kernel_rfl
theorem tk47 : tkind Try.prog 47 = .strct := by kernel_rfl
theorem ti48 : tinfo Try.prog 48 = some ⟨13, 128, true, [.int .i64 0, .int .i64 0, .int .i64 0, .string ByteArray.empty, .int .u8 0, .int .i64 0, .int .i64 0, .int .i64 0, .int .u8 0, .int .i64 0, .int .i64 0, .int .i64 0, .slice none 0 0], none, none, [(0, (1, false)), (1, (1, false)), (2, (1, false)), (3, (1, false)), (4, (4, true)), (8, (4, true)), (12, (1, false))]⟩ := by kernel_rfl
theorem tk48 : tkind Try.prog 48 = .strct := by kernel_rfl
theorem ti49 : tinfo Try.prog 49 = some ⟨1, 8, false, [.nilFunc], none, none, []⟩ := by kernel_rfl
theorem tk49 : tkind Try.prog 49 = .other := by kernel_rfl
theorem ti50 : tinfo Try.prog 50 = some ⟨1, 8, false, [.nilFunc], none, none, []⟩ := by kernel_rfl
theorem tk50 : tkind Try.prog 50 = .other := by kernel_rfl
theorem ti52 : tinfo Try.prog 52 = some ⟨1, 8, false, [.nilFunc], none, none, []⟩ := by kernel_rfl
theorem tk52 : tkind Try.prog 52 = .other := by kernel_rfl
theorem ti53 : tinfo Try.prog 53 = some ⟨1, 8, false, [.nilFunc], none, none, []⟩ := by kernel_rfl
theorem tk53 : tkind Try.prog 53 = .other := by kernel_rfl
theorem ti54 : tinfo Try.prog 54 = some ⟨1, 8, false, [.nilFunc], none, none, []⟩ := by kernel_rfl
theorem tk54 : tkind Try.prog 54 = .other := by kernel_rfl
theorem ti56 : tinfo Try.prog 56 = some ⟨1, 8, false, [.nilFunc], none, none, []⟩ := by kernel_rfl
theorem tk56 : tkind Try.prog 56 = .other := by kernel_rfl
theorem ti57 : tinfo Try.prog 57 = some ⟨1, 8, false, [.nilFunc], none, none, []⟩ := by kernel_rfl
theorem tk57 : tkind Try.prog 57 = .other := by kernel_rfl
theorem ti58 : tinfo Try.prog 58 = some ⟨1, 8, false, [.nilFunc], none, none, []⟩ := by kernel_rfl
theorem tk58 : tkind Try.prog 58 = .other := by kernel_rfl
theorem ti60 : tinfo Try.prog 60 = some ⟨1, 8, false, [.nilFunc], none, none, []⟩ := by kernel_rfl
theorem tk60 : tkind Try.prog 60 = .other := by kernel_rfl
theorem ti62 : tinfo Try.prog 62 = some ⟨1, 8, false, [.nilFunc], none, none, []⟩ := by kernel_rfl
theorem tk62 : tkind Try.prog 62 = .other := by kernel_rfl
theorem ti63 : tinfo Try.prog 63 = some ⟨1, 8, false, [.nilFunc], none, none, []⟩ := by kernel_rfl
theorem tk63 : tkind Try.prog 63 = .other := by kernel_rfl
theorem ti64 : tinfo Try.prog 64 = some ⟨1, 8, false, [.nilFunc], none, none, []⟩ := by kernel_rfl
theorem tk64 : tkind Try.prog 64 = .other := by kernel_rfl
theorem ti65 : tinfo Try.prog 65 = some ⟨1, 8, false, [.nilFunc], none, none, []⟩ := by kernel_rfl
theorem tk65 : tkind Try.prog 65 = .other := by kernel_rfl
theorem ti66 : tinfo Try.prog 66 = some ⟨1, 8, false, [.nilFunc], none, none, []⟩ := by kernel_rfl
theorem tk66 : tkind Try.prog 66 = .other := by kernel_rfl
theorem ti67 : tinfo Try.prog 67 = some ⟨1, 8, false, [.nilFunc], none, none, []⟩ := by kernel_rfl
theorem tk67 : tkind Try.prog 67 = .other := by kernel_rfl
theorem ti68 : tinfo Try.prog 68 = some ⟨1, 8, false, [.nilFunc], none, none, []⟩ := by kernel_rfl
theorem tk68 : tkind Try.prog 68 = .other := by kernel_rfl
theorem ti69 : tinfo Try.prog 69 = some ⟨1, 8, false, [.nilFunc], none, none, []⟩ := by kernel_rfl
theorem tk69 : tkind Try.prog 69 = .other := by kernel_rfl
theorem ti70 : tinfo Try.prog 70 = some ⟨1, 24, false, [.slice none 0 0], .some 73, none, []⟩ := by kernel_rfl
theorem tk70 : tkind Try.prog 70 = .slice := by kernel_rfl
theorem ti71 : tinfo Try.prog 71 = some ⟨3, 40, true, [.int .i64 0, .int .i64 0, .slice none 0 0], none, none, [(0, (1, false)), (1, (1, false)), (2, (1, false))]⟩ := by kernel_rfl
theorem tk71 : tkind Try.prog 71 = .strct := by kernel_rfl
theorem ti72 : tinfo Try.prog 72 = some ⟨3, 40, true, [.int .i64 0, .int .i64 0, .slice none 0 0], none, none, [(0, (1, false)), (1, (1, false)), (2, (1, false))]⟩ := by kernel_rfl
theorem tk72 : tkind Try.prog 72 = .strct := by kernel_rfl
theorem ti73 : tinfo Try.prog 73 = some ⟨1, 8, false, [.pointer none], none, none, []⟩ := by kernel_rfl
theorem tk73 : tkind Try.prog 73 = .ptr := by kernel_rfl
theorem ti74 : tinfo Try.prog 74 = some ⟨5, 64, true, [.int .u8 0, .int .i64 0, .string ByteArray.empty, .slice none 0 0, .bool false], none, none, [(0, (4, true)), (4, (1, false))]⟩ := by kernel_rfl
theorem tk74 : tkind Try.prog 74 = .strct := by kernel_rfl
theorem ti75 : tinfo Try.prog 75 = some ⟨5, 64, true, [.int .u8 0, .int .i64 0, .string ByteArray.empty, .slice none 0 0, .bool false], none, none, [(0, (4, true)), (4, (1, false))]⟩ := by kernel_rfl
theorem tk75 : tkind Try.prog 75 = .strct := by kernel_rfl
theorem ti76 : tinfo Try.prog 76 = some ⟨1, 8, false, [.nilFunc], none, none, []⟩ := by kernel_rfl
theorem tk76 : tkind Try.prog 76 = .other := by kernel_rfl
theorem ti78 : tinfo Try.prog 78 = some ⟨1, 8, false, [.nilFunc], none, none, []⟩ := by kernel_rfl
theorem tk78 : tkind Try.prog 78 = .other := by kernel_rfl
theorem ti79 : tinfo Try.prog 79 = some ⟨1, 8, false, [.nilFunc], none, none, []⟩ := by kernel_rfl
theorem tk79 : tkind Try.prog 79 = .other := by kernel_rfl
theorem ti80 : tinfo Try.prog 80 = some ⟨1, 8, false, [.nilFunc], none, none, []⟩ := by kernel_rfl
theorem tk80 : tkind Try.prog 80 = .other := by kernel_rfl
theorem ti82 : tinfo Try.prog 82 = some ⟨1, 8, false, [.nilFunc], none, none, []⟩ := by kernel_rfl
theorem tk82 : tkind Try.prog 82 = .other := by kernel_rfl
theorem ti84 : tinfo Try.prog 84 = some ⟨1, 8, false, [.nilFunc], none, none, []⟩ := by kernel_rfl
theorem tk84 : tkind Try.prog 84 = .other := by kernel_rfl
theorem ti86 : tinfo Try.prog 86 = some ⟨1, 8, false, [.nilFunc], none, none, []⟩ := by kernel_rfl
theorem tk86 : tkind Try.prog 86 = .other := by kernel_rfl
theorem ti87 : tinfo Try.prog 87 = some ⟨1, 8, false, [.nilFunc], none, none, []⟩ := by kernel_rfl
theorem tk87 : tkind Try.prog 87 = .other := by kernel_rfl
theorem ti88 : tinfo Try.prog 88 = some ⟨1, 8, false, [.nilFunc], none, none, []⟩ := by kernel_rfl
theorem tk88 : tkind Try.prog 88 = .other := by kernel_rfl
theorem ti89 : tinfo Try.prog 89 = some ⟨1, 8, false, [.nilFunc], none, none, []⟩ := by kernel_rfl
theorem tk89 : tkind Try.prog 89 = .other := by kernel_rfl
theorem ti90 : tinfo Try.prog 90 = some ⟨1, 8, false, [.nilFunc], none, none, []⟩ := by kernel_rfl
theorem tk90 : tkind Try.prog 90 = .other := by kernel_rfl
theorem ti91 : tinfo Try.prog 91 = some ⟨1, 8, false, [.nilFunc], none, none, []⟩ := by kernel_rfl
theorem tk91 : tkind Try.prog 91 = .other := by kernel_rfl
theorem ti92 : tinfo Try.prog 92 = some ⟨1, 8, false, [.nilFunc], none, none, []⟩ := by kernel_rfl
theorem tk92 : tkind Try.prog 92 = .other := by kernel_rfl
theorem ti93 : tinfo Try.prog 93 = some ⟨1, 8, false, [.nilFunc], none, none, []⟩ := by kernel_rfl
theorem tk93 : tkind Try.prog 93 = .other := by kernel_rfl
theorem ti94 : tinfo Try.prog 94 = some ⟨1, 8, false, [.int .u64 0], none, .some .u64, []⟩ := by kernel_rfl
theorem tk94 : tkind Try.prog 94 = .int := by kernel_rfl
theorem ti96 : tinfo Try.prog 96 = some ⟨1, 8, false, [.nilFunc], none, none, []⟩ := by kernel_rfl
theorem tk96 : tkind Try.prog 96 = .other := by kernel_rfl
theorem ti97 : tinfo Try.prog 97 = some ⟨1, 4, false, [.int .u32 0], none, .some .u32, []⟩ := by kernel_rfl
theorem tk97 : tkind Try.prog 97 = .int := by kernel_rfl
theorem ti99 : tinfo Try.prog 99 = some ⟨1, 8, false, [.nilFunc], none, none, []⟩ := by kernel_rfl
theorem tk99 : tkind Try.prog 99 = .other := by kernel_rfl
theorem ti100 : tinfo Try.prog 100 = some ⟨1, 8, false, [.int .u64 0], none, .some .u64, []⟩ := by kernel_rfl
theorem tk100 : tkind Try.prog 100 = .int := by kernel_rfl
theorem ti102 : tinfo Try.prog 102 = some ⟨1, 8, false, [.nilFunc], none, none, []⟩ := by kernel_rfl
theorem tk102 : tkind Try.prog 102 = .other := by kernel_rfl
theorem ti103 : tinfo Try.prog 103 = some ⟨1, 8, false, [.nilFunc], none, none, []⟩ := by kernel_rfl
theorem tk103 : tkind Try.prog 103 = .other := by kernel_rfl
theorem ti104 : tinfo Try.prog 104 = some ⟨4, 40, true, [.pointer none, .pointer none, .pointer none, .string ByteArray.empty], none, none, [(0, (1, false)), (1, (1, false)), (2, (1, false)), (3, (1, false))]⟩ := by kernel_rfl
theorem tk104 : tkind Try.prog 104 = .strct := by kernel_rfl
theorem ti105 : tinfo Try.prog 105 = some ⟨4, 40, true, [.pointer none, .pointer none, .pointer none, .string ByteArray.empty], none, none, [(0, (1, false)), (1, (1, false)), (2, (1, false)), (3, (1, false))]⟩ := by kernel_rfl
theorem tk105 : tkind Try.prog 105 = .strct := by kernel_rfl
theorem ti106 : tinfo Try.prog 106 = some ⟨0, 0, true, [], none, none, []⟩ := by kernel_rfl
theorem tk106 : tkind Try.prog 106 = .other := by kernel_rfl
theorem ti107 : tinfo Try.prog 107 = some ⟨0, 0, true, [], none, none, [(0, (0, true))]⟩ := by kernel_rfl
theorem tk107 : tkind Try.prog 107 = .strct := by kernel_rfl
theorem ti108 : tinfo Try.prog 108 = some ⟨0, 0, true, [], none, none, [(0, (0, true))]⟩ := by kernel_rfl
theorem tk108 : tkind Try.prog 108 = .strct := by kernel_rfl
theorem ti109 : tinfo Try.prog 109 = some ⟨1, 1, false, [.int .u8 0], none, .some .u8, []⟩ := by kernel_rfl
theorem tk109 : tkind Try.prog 109 = .int := by kernel_rfl
theorem ti110 : tinfo Try.prog 110 = some ⟨1, 1, false, [.int .u8 0], none, .some .u8, []⟩ := by kernel_rfl
theorem tk110 : tkind Try.prog 110 = .int := by kernel_rfl
theorem ti111 : tinfo Try.prog 111 = some ⟨1, 8, false, [.nilFunc], none, none, []⟩ := by kernel_rfl
theorem tk111 : tkind Try.prog 111 = .other := by kernel_rfl
theorem ti112 : tinfo Try.prog 112 = some ⟨1, 8, false, [.pointer none], none, none, []⟩ := by kernel_rfl
theorem tk112 : tkind Try.prog 112 = .ptr := by kernel_rfl
theorem ti113 : tinfo Try.prog 113 = some ⟨1, 4, false, [.int .i32 0], none, .some .i32, []⟩ := by kernel_rfl
theorem tk113 : tkind Try.prog 113 = .int := by kernel_rfl
theorem ti114 : tinfo Try.prog 114 = some ⟨1, 4, false, [.int .i32 0], none, .some .i32, []⟩ := by kernel_rfl
theorem tk114 : tkind Try.prog 114 = .int := by kernel_rfl
theorem ti115 : tinfo Try.prog 115 = some ⟨11, 48, true, [.int .u64 0, .int .u64 0, .int .u32 0, .int .u8 0, .int .u8 0, .int .u8 0, .int .u8 0, .nilFunc, .pointer none, .int .i32 0, .int .i32 0], none, none, [(0, (1, false)), (1, (1, false)), (2, (1, false)), (3, (1, false)), (4, (1, false)), (5, (1, false)), (6, (1, false)), (7, (1, false)), (8, (1, false)), (9, (1, false)), (10, (1, false))]⟩ := by kernel_rfl
theorem tk115 : tkind Try.prog 115 = .strct := by kernel_rfl
theorem ti116 : tinfo Try.prog 116 = some ⟨11, 48, true, [.int .u64 0, .int .u64 0, .int .u32 0, .int .u8 0, .int .u8 0, .int .u8 0, .int .u8 0, .nilFunc, .pointer none, .int .i32 0, .int .i32 0], none, none, [(0, (1, false)), (1, (1, false)), (2, (1, false)), (3, (1, false)), (4, (1, false)), (5, (1, false)), (6, (1, false)), (7, (1, false)), (8, (1, false)), (9, (1, false)), (10, (1, false))]⟩ := by kernel_rfl
theorem tk116 : tkind Try.prog 116 = .strct := by kernel_rfl
theorem ti117 : tinfo Try.prog 117 = some ⟨1, 8, false, [.pointer none], none, none, []⟩ := by kernel_rfl
theorem tk117 : tkind Try.prog 117 = .other := by kernel_rfl
theorem mixed : Try.prog.follows .mixedOrders = true := by kernel_rfl
end Go.Proofs.Ytblikpgdepjhdaa
