/- The types of the seat, as the executor reads them. No condition. -/
import Derived.Test.YtdfdoigiehmnoaaSxA
namespace Go.SX
def tabL : List (Nat × TI) := [
  (2, ⟨.int .i64, 1, 8, [.int .i64 0], some (.int .i64), none⟩),
  (3, ⟨.int .i64, 1, 8, [.int .i64 0], some (.int .i64), none⟩),
  (4, ⟨.bool, 1, 1, [.bool false], some (.bool), none⟩),
  (5, ⟨.int .u8, 1, 1, [.int .u8 0], some (.int .u8), none⟩),
  (9, ⟨.str, 1, 16, [.string ByteArray.empty], some (.str), none⟩),
  (12, ⟨.int .u64, 1, 8, [.int .u64 0], some (.int .u64), none⟩),
  (13, ⟨.st [(0, 1, false), (1, 1, false)], 2, 24, [.string ByteArray.empty, .int .u64 0], some (.st (.pr (.str) (.int .u64))), none⟩),
  (21, ⟨.int .i32, 1, 4, [.int .i32 0], some (.int .i32), none⟩),
  (22, ⟨.sl 3 1 8 (.int .i64), 1, 24, [.slice none 0 0], some (.sl (.int .i64)), none⟩),
  (38, ⟨.sl 5 1 1 (.int .u8), 1, 24, [.slice none 0 0], some (.sl (.int .u8)), none⟩),
  (49, ⟨.st [(0, 1, false), (1, 1, false), (2, 1, false)], 3, 24, [.int .i64 0, .int .i64 0, .int .i64 0], some (.st (.pr (.int .i64) (.pr (.int .i64) (.int .i64)))), some [false, false, false]⟩),
  (50, ⟨.st [(0, 1, false), (1, 1, false), (2, 1, false)], 3, 24, [.int .i64 0, .int .i64 0, .int .i64 0], some (.st (.pr (.int .i64) (.pr (.int .i64) (.int .i64)))), some [false, false, false]⟩),
  (56, ⟨.int .u64, 1, 8, [.int .u64 0], some (.int .u64), none⟩),
  (71, ⟨.arr 9 50 3 9 (.st (.pr (.int .i64) (.pr (.int .i64) (.int .i64)))), 27, 216, zerosN 9 (.st (.pr (.int .i64) (.pr (.int .i64) (.int .i64)))), none, none⟩),
  (72, ⟨.st [(0, 1, false), (1, 1, false), (2, 1, false)], 3, 40, [.slice none 0 0, .int .i64 0, .int .i64 0], some (.st (.pr (.sl (.int .u8)) (.pr (.int .i64) (.int .i64)))), none⟩),
  (73, ⟨.st [(0, 1, false), (1, 1, false), (2, 1, false)], 3, 40, [.slice none 0 0, .int .i64 0, .int .i64 0], some (.st (.pr (.sl (.int .u8)) (.pr (.int .i64) (.int .i64)))), none⟩),
  (77, ⟨.sl 22 1 24 (.sl (.int .i64)), 1, 24, [.slice none 0 0], some (.sl (.sl (.int .i64))), none⟩),
  (89, ⟨.int .u32, 1, 4, [.int .u32 0], some (.int .u32), none⟩)
]
def tab : Tab := tabOf tabL
end Go.SX
