/- The types of the seat, as the executor reads them. No condition. -/
import Derived.Test.YtobmiihdfklmaaaGreatSxA
namespace Go.SX
def tabL : List (Nat × TI) := [
  (2, ⟨.int .i64, 1, 8, [.int .i64 0], some (.int .i64), none⟩),
  (3, ⟨.int .i64, 1, 8, [.int .i64 0], some (.int .i64), none⟩),
  (4, ⟨.bool, 1, 1, [.bool false], some (.bool), none⟩),
  (5, ⟨.int .u8, 1, 1, [.int .u8 0], some (.int .u8), none⟩),
  (9, ⟨.str, 1, 16, [.string ByteArray.empty], some (.str), none⟩),
  (12, ⟨.int .u64, 1, 8, [.int .u64 0], some (.int .u64), none⟩),
  (13, ⟨.st [(0, 1, false), (1, 1, false)], 2, 24, [.string ByteArray.empty, .int .u64 0], some (.st (.pr (.str) (.int .u64))), none⟩),
  (21, ⟨.int .i32, 1, 4, [.int .i32 0], some (.int .i32), none⟩),
  (22, ⟨.sl 3 1 8 (.int .i64), 1, 24, [.slice none 0 0], some (.sl (.int .i64)), none⟩),
  (23, ⟨.st [(0, 1, false), (1, 1, false), (2, 1, false), (3, 1, false), (4, 1, false)], 5, 72, [.int .i64 0, .int .i64 0, .slice none 0 0, .slice none 0 0, .int .i64 0], some (.st (.pr (.int .i64) (.pr (.int .i64) (.pr (.sl (.int .i64)) (.pr (.sl (.int .i64)) (.int .i64)))))), none⟩),
  (24, ⟨.st [(0, 1, false), (1, 1, false), (2, 1, false), (3, 1, false), (4, 1, false)], 5, 72, [.int .i64 0, .int .i64 0, .slice none 0 0, .slice none 0 0, .int .i64 0], some (.st (.pr (.int .i64) (.pr (.int .i64) (.pr (.sl (.int .i64)) (.pr (.sl (.int .i64)) (.int .i64)))))), none⟩),
  (26, ⟨.st [(0, 1, false), (1, 1, false), (2, 1, false)], 3, 56, [.int .i64 0, .slice none 0 0, .slice none 0 0], some (.st (.pr (.int .i64) (.pr (.sl (.int .i64)) (.sl (.int .i64))))), none⟩),
  (27, ⟨.st [(0, 1, false), (1, 1, false), (2, 1, false)], 3, 56, [.int .i64 0, .slice none 0 0, .slice none 0 0], some (.st (.pr (.int .i64) (.pr (.sl (.int .i64)) (.sl (.int .i64))))), none⟩),
  (29, ⟨.st [(0, 1, false), (1, 1, false), (2, 1, false), (3, 1, false), (4, 1, false)], 5, 72, [.int .i64 0, .int .i64 0, .slice none 0 0, .slice none 0 0, .int .i64 0], some (.st (.pr (.int .i64) (.pr (.int .i64) (.pr (.sl (.int .i64)) (.pr (.sl (.int .i64)) (.int .i64)))))), none⟩),
  (36, ⟨.sl 101 4 80 (.st (.pr (.sl (.int .u8)) (.st (.pr (.int .i64) (.pr (.sl (.int .i64)) (.sl (.int .i64))))))), 1, 24, [.slice none 0 0], some (.sl (.st (.pr (.sl (.int .u8)) (.st (.pr (.int .i64) (.pr (.sl (.int .i64)) (.sl (.int .i64)))))))), none⟩),
  (37, ⟨.st [(0, 1, false), (1, 1, false)], 2, 32, [.int .i64 0, .slice none 0 0], some (.st (.pr (.int .i64) (.sl (.st (.pr (.sl (.int .u8)) (.st (.pr (.int .i64) (.pr (.sl (.int .i64)) (.sl (.int .i64)))))))))), none⟩),
  (38, ⟨.st [(0, 1, false), (1, 1, false)], 2, 32, [.int .i64 0, .slice none 0 0], some (.st (.pr (.int .i64) (.sl (.st (.pr (.sl (.int .u8)) (.st (.pr (.int .i64) (.pr (.sl (.int .i64)) (.sl (.int .i64)))))))))), none⟩),
  (41, ⟨.sl 72 4 80 (.st (.pr (.sl (.int .u8)) (.st (.pr (.int .i64) (.pr (.sl (.int .i64)) (.sl (.int .i64))))))), 1, 24, [.slice none 0 0], some (.sl (.st (.pr (.sl (.int .u8)) (.st (.pr (.int .i64) (.pr (.sl (.int .i64)) (.sl (.int .i64)))))))), none⟩),
  (42, ⟨.st [(0, 1, false), (1, 1, false)], 2, 32, [.int .i64 0, .slice none 0 0], some (.st (.pr (.int .i64) (.sl (.st (.pr (.sl (.int .u8)) (.st (.pr (.int .i64) (.pr (.sl (.int .i64)) (.sl (.int .i64)))))))))), none⟩),
  (43, ⟨.st [(0, 1, false), (1, 1, false)], 2, 32, [.int .i64 0, .slice none 0 0], some (.st (.pr (.int .i64) (.sl (.st (.pr (.sl (.int .u8)) (.st (.pr (.int .i64) (.pr (.sl (.int .i64)) (.sl (.int .i64)))))))))), none⟩),
  (70, ⟨.sl 5 1 1 (.int .u8), 1, 24, [.slice none 0 0], some (.sl (.int .u8)), none⟩),
  (71, ⟨.st [(0, 1, false), (1, 3, true)], 4, 80, [.slice none 0 0, .int .i64 0, .slice none 0 0, .slice none 0 0], some (.st (.pr (.sl (.int .u8)) (.st (.pr (.int .i64) (.pr (.sl (.int .i64)) (.sl (.int .i64))))))), none⟩),
  (72, ⟨.st [(0, 1, false), (1, 3, true)], 4, 80, [.slice none 0 0, .int .i64 0, .slice none 0 0, .slice none 0 0], some (.st (.pr (.sl (.int .u8)) (.st (.pr (.int .i64) (.pr (.sl (.int .i64)) (.sl (.int .i64))))))), none⟩),
  (92, ⟨.int .u64, 1, 8, [.int .u64 0], some (.int .u64), none⟩),
  (94, ⟨.st [(0, 1, false), (1, 1, false), (2, 1, false)], 3, 24, [.int .i64 0, .int .i64 0, .int .i64 0], some (.st (.pr (.int .i64) (.pr (.int .i64) (.int .i64)))), some [false, false, false]⟩),
  (95, ⟨.st [(0, 1, false), (1, 1, false), (2, 1, false)], 3, 24, [.int .i64 0, .int .i64 0, .int .i64 0], some (.st (.pr (.int .i64) (.pr (.int .i64) (.int .i64)))), some [false, false, false]⟩),
  (99, ⟨.st [(0, 1, false), (1, 1, false), (2, 1, false)], 3, 56, [.int .i64 0, .slice none 0 0, .slice none 0 0], some (.st (.pr (.int .i64) (.pr (.sl (.int .i64)) (.sl (.int .i64))))), none⟩),
  (100, ⟨.st [(0, 1, false), (1, 3, true)], 4, 80, [.slice none 0 0, .int .i64 0, .slice none 0 0, .slice none 0 0], some (.st (.pr (.sl (.int .u8)) (.st (.pr (.int .i64) (.pr (.sl (.int .i64)) (.sl (.int .i64))))))), none⟩),
  (101, ⟨.st [(0, 1, false), (1, 3, true)], 4, 80, [.slice none 0 0, .int .i64 0, .slice none 0 0, .slice none 0 0], some (.st (.pr (.sl (.int .u8)) (.st (.pr (.int .i64) (.pr (.sl (.int .i64)) (.sl (.int .i64))))))), none⟩),
  (124, ⟨.sl 22 1 24 (.sl (.int .i64)), 1, 24, [.slice none 0 0], some (.sl (.sl (.int .i64))), none⟩),
  (134, ⟨.arr 9 95 3 9 (.st (.pr (.int .i64) (.pr (.int .i64) (.int .i64)))), 27, 216, zerosN 9 (.st (.pr (.int .i64) (.pr (.int .i64) (.int .i64)))), none, none⟩),
  (145, ⟨.int .u32, 1, 4, [.int .u32 0], some (.int .u32), none⟩)
]
def tab : Tab := tabOf tabL
end Go.SX
