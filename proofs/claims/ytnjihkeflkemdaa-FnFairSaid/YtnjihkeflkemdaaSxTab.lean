/- The types of the seat, as the executor reads them. No condition. -/
import Derived.Test.YtnjihkeflkemdaaSxA
namespace Go.SX
def tabL : List (Nat × TI) := [
  (2, ⟨.int .i64, 1, 8, [.int .i64 0], some (.int .i64), none⟩),
  (3, ⟨.int .i64, 1, 8, [.int .i64 0], some (.int .i64), none⟩),
  (4, ⟨.bool, 1, 1, [.bool false], some (.bool), none⟩),
  (5, ⟨.int .u8, 1, 1, [.int .u8 0], some (.int .u8), none⟩),
  (9, ⟨.str, 1, 16, [.string ByteArray.empty], some (.str), none⟩),
  (12, ⟨.int .u64, 1, 8, [.int .u64 0], some (.int .u64), none⟩),
  (13, ⟨.st [(0, 1, false), (1, 1, false)], 2, 24, [.string ByteArray.empty, .int .u64 0], some (.st (.pr (.str) (.int .u64))), none⟩),
  (21, ⟨.int .i32, 1, 4, [.int .i32 0], some (.int .i32), none⟩),
  (22, ⟨.sl 101 4 48 (.st (.pr (.int .i64) (.pr (.int .i64) (.pr (.int .i64) (.st (.sl (.st (.pr (.int .i64) (.int .i64))))))))), 1, 24, [.slice none 0 0], some (.sl (.st (.pr (.int .i64) (.pr (.int .i64) (.pr (.int .i64) (.st (.sl (.st (.pr (.int .i64) (.int .i64)))))))))), none⟩),
  (23, ⟨.st [(0, 1, false), (1, 1, false), (2, 1, false)], 3, 40, [.slice none 0 0, .int .i64 0, .bool false], some (.st (.pr (.sl (.st (.pr (.int .i64) (.pr (.int .i64) (.pr (.int .i64) (.st (.sl (.st (.pr (.int .i64) (.int .i64)))))))))) (.pr (.int .i64) (.bool)))), none⟩),
  (24, ⟨.st [(0, 1, false), (1, 1, false), (2, 1, false)], 3, 40, [.slice none 0 0, .int .i64 0, .bool false], some (.st (.pr (.sl (.st (.pr (.int .i64) (.pr (.int .i64) (.pr (.int .i64) (.st (.sl (.st (.pr (.int .i64) (.int .i64)))))))))) (.pr (.int .i64) (.bool)))), none⟩),
  (26, ⟨.sl 64 4 48 (.st (.pr (.int .i64) (.pr (.int .i64) (.pr (.int .i64) (.st (.sl (.st (.pr (.int .i64) (.int .i64))))))))), 1, 24, [.slice none 0 0], some (.sl (.st (.pr (.int .i64) (.pr (.int .i64) (.pr (.int .i64) (.st (.sl (.st (.pr (.int .i64) (.int .i64)))))))))), none⟩),
  (27, ⟨.st [(0, 1, false), (1, 1, false), (2, 1, false)], 3, 40, [.slice none 0 0, .int .i64 0, .bool false], some (.st (.pr (.sl (.st (.pr (.int .i64) (.pr (.int .i64) (.pr (.int .i64) (.st (.sl (.st (.pr (.int .i64) (.int .i64)))))))))) (.pr (.int .i64) (.bool)))), none⟩),
  (28, ⟨.st [(0, 1, false), (1, 1, false), (2, 1, false)], 3, 40, [.slice none 0 0, .int .i64 0, .bool false], some (.st (.pr (.sl (.st (.pr (.int .i64) (.pr (.int .i64) (.pr (.int .i64) (.st (.sl (.st (.pr (.int .i64) (.int .i64)))))))))) (.pr (.int .i64) (.bool)))), none⟩),
  (35, ⟨.st [(0, 1, false), (1, 1, false)], 2, 16, [.int .i64 0, .int .i64 0], some (.st (.pr (.int .i64) (.int .i64))), some [false, false]⟩),
  (36, ⟨.st [(0, 1, false), (1, 1, false)], 2, 16, [.int .i64 0, .int .i64 0], some (.st (.pr (.int .i64) (.int .i64))), some [false, false]⟩),
  (45, ⟨.sl 66 3 24 (.st (.pr (.int .i64) (.pr (.int .i64) (.int .i64)))), 1, 24, [.slice none 0 0], some (.sl (.st (.pr (.int .i64) (.pr (.int .i64) (.int .i64))))), none⟩),
  (50, ⟨.sl 5 1 1 (.int .u8), 1, 24, [.slice none 0 0], some (.sl (.int .u8)), none⟩),
  (60, ⟨.sl 36 2 16 (.st (.pr (.int .i64) (.int .i64))), 1, 24, [.slice none 0 0], some (.sl (.st (.pr (.int .i64) (.int .i64)))), none⟩),
  (61, ⟨.st [(0, 1, false)], 1, 24, [.slice none 0 0], some (.st (.sl (.st (.pr (.int .i64) (.int .i64))))), none⟩),
  (62, ⟨.st [(0, 1, false)], 1, 24, [.slice none 0 0], some (.st (.sl (.st (.pr (.int .i64) (.int .i64))))), none⟩),
  (63, ⟨.st [(0, 1, false), (1, 1, false), (2, 1, false), (3, 1, true)], 4, 48, [.int .i64 0, .int .i64 0, .int .i64 0, .slice none 0 0], some (.st (.pr (.int .i64) (.pr (.int .i64) (.pr (.int .i64) (.st (.sl (.st (.pr (.int .i64) (.int .i64))))))))), none⟩),
  (64, ⟨.st [(0, 1, false), (1, 1, false), (2, 1, false), (3, 1, true)], 4, 48, [.int .i64 0, .int .i64 0, .int .i64 0, .slice none 0 0], some (.st (.pr (.int .i64) (.pr (.int .i64) (.pr (.int .i64) (.st (.sl (.st (.pr (.int .i64) (.int .i64))))))))), none⟩),
  (65, ⟨.st [(0, 1, false), (1, 1, false), (2, 1, false)], 3, 24, [.int .i64 0, .int .i64 0, .int .i64 0], some (.st (.pr (.int .i64) (.pr (.int .i64) (.int .i64)))), some [false, false, false]⟩),
  (66, ⟨.st [(0, 1, false), (1, 1, false), (2, 1, false)], 3, 24, [.int .i64 0, .int .i64 0, .int .i64 0], some (.st (.pr (.int .i64) (.pr (.int .i64) (.int .i64)))), some [false, false, false]⟩),
  (92, ⟨.sl 3 1 8 (.int .i64), 1, 24, [.slice none 0 0], some (.sl (.int .i64)), none⟩),
  (97, ⟨.sl 129 2 16 (.st (.pr (.int .i64) (.int .i64))), 1, 24, [.slice none 0 0], some (.sl (.st (.pr (.int .i64) (.int .i64)))), none⟩),
  (98, ⟨.st [(0, 1, false)], 1, 24, [.slice none 0 0], some (.st (.sl (.st (.pr (.int .i64) (.int .i64))))), none⟩),
  (99, ⟨.st [(0, 1, false)], 1, 24, [.slice none 0 0], some (.st (.sl (.st (.pr (.int .i64) (.int .i64))))), none⟩),
  (100, ⟨.st [(0, 1, false), (1, 1, false), (2, 1, false), (3, 1, true)], 4, 48, [.int .i64 0, .int .i64 0, .int .i64 0, .slice none 0 0], some (.st (.pr (.int .i64) (.pr (.int .i64) (.pr (.int .i64) (.st (.sl (.st (.pr (.int .i64) (.int .i64))))))))), none⟩),
  (101, ⟨.st [(0, 1, false), (1, 1, false), (2, 1, false), (3, 1, true)], 4, 48, [.int .i64 0, .int .i64 0, .int .i64 0, .slice none 0 0], some (.st (.pr (.int .i64) (.pr (.int .i64) (.pr (.int .i64) (.st (.sl (.st (.pr (.int .i64) (.int .i64))))))))), none⟩),
  (119, ⟨.st [(0, 1, false), (1, 1, false), (2, 1, false)], 3, 40, [.slice none 0 0, .int .i64 0, .int .i64 0], some (.st (.pr (.sl (.int .u8)) (.pr (.int .i64) (.int .i64)))), none⟩),
  (120, ⟨.st [(0, 1, false), (1, 1, false), (2, 1, false)], 3, 40, [.slice none 0 0, .int .i64 0, .int .i64 0], some (.st (.pr (.sl (.int .u8)) (.pr (.int .i64) (.int .i64)))), none⟩),
  (123, ⟨.int .u64, 1, 8, [.int .u64 0], some (.int .u64), none⟩),
  (129, ⟨.st [(0, 1, false), (1, 1, false)], 2, 16, [.int .i64 0, .int .i64 0], some (.st (.pr (.int .i64) (.int .i64))), some [false, false]⟩),
  (137, ⟨.int .u32, 1, 4, [.int .u32 0], some (.int .u32), none⟩)
]
def tab : Tab := tabOf tabL
end Go.SX
