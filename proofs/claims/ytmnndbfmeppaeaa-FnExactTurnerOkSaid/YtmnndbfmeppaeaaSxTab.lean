/- The types of the seat, as the executor reads them. No condition. -/
import Derived.Test.YtmnndbfmeppaeaaSx6
namespace Go.SX
def tabL : List (Nat × TI) := [
  (2, ⟨.int .i64, 1, 8, [.int .i64 0], some (.int .i64), none⟩),
  (3, ⟨.int .i64, 1, 8, [.int .i64 0], some (.int .i64), none⟩),
  (4, ⟨.bool, 1, 1, [.bool false], some (.bool), none⟩),
  (5, ⟨.int .u8, 1, 1, [.int .u8 0], some (.int .u8), none⟩),
  (9, ⟨.str, 1, 16, [.string ByteArray.empty], some (.str), none⟩),
  (12, ⟨.int .u64, 1, 8, [.int .u64 0], some (.int .u64), none⟩),
  (13, ⟨.st [(0, 1, false), (1, 1, false)], 2, 24, [.string ByteArray.empty, .int .u64 0], some (.st (.pr (.str) (.int .u64))), none⟩),
  (21, ⟨.int .i32, 1, 4, [.int .i32 0], some (.int .i32), none⟩),
  (22, ⟨.sl 89 3 24 (.st (.pr (.int .i64) (.pr (.int .i64) (.int .i64)))), 1, 24, [.slice none 0 0], some (.sl (.st (.pr (.int .i64) (.pr (.int .i64) (.int .i64))))), none⟩),
  (23, ⟨.st [(0, 1, false), (1, 1, false), (2, 1, false)], 3, 40, [.int .i64 0, .int .i64 0, .slice none 0 0], some (.st (.pr (.int .i64) (.pr (.int .i64) (.sl (.st (.pr (.int .i64) (.pr (.int .i64) (.int .i64)))))))), none⟩),
  (24, ⟨.st [(0, 1, false), (1, 1, false), (2, 1, false)], 3, 40, [.int .i64 0, .int .i64 0, .slice none 0 0], some (.st (.pr (.int .i64) (.pr (.int .i64) (.sl (.st (.pr (.int .i64) (.pr (.int .i64) (.int .i64)))))))), none⟩),
  (25, ⟨.sl 3 1 8 (.int .i64), 1, 24, [.slice none 0 0], some (.sl (.int .i64)), none⟩),
  (26, ⟨.st [(0, 3, true), (3, 1, false), (4, 1, false)], 5, 72, [.int .i64 0, .int .i64 0, .slice none 0 0, .slice none 0 0, .int .i64 0], some (.st (.pr (.st (.pr (.int .i64) (.pr (.int .i64) (.sl (.st (.pr (.int .i64) (.pr (.int .i64) (.int .i64)))))))) (.pr (.sl (.int .i64)) (.int .i64)))), none⟩),
  (27, ⟨.st [(0, 3, true), (3, 1, false), (4, 1, false)], 5, 72, [.int .i64 0, .int .i64 0, .slice none 0 0, .slice none 0 0, .int .i64 0], some (.st (.pr (.st (.pr (.int .i64) (.pr (.int .i64) (.sl (.st (.pr (.int .i64) (.pr (.int .i64) (.int .i64)))))))) (.pr (.sl (.int .i64)) (.int .i64)))), none⟩),
  (30, ⟨.sl 69 3 24 (.st (.pr (.int .i64) (.pr (.int .i64) (.int .i64)))), 1, 24, [.slice none 0 0], some (.sl (.st (.pr (.int .i64) (.pr (.int .i64) (.int .i64))))), none⟩),
  (31, ⟨.st [(0, 1, false), (1, 1, false), (2, 1, false)], 3, 40, [.int .i64 0, .int .i64 0, .slice none 0 0], some (.st (.pr (.int .i64) (.pr (.int .i64) (.sl (.st (.pr (.int .i64) (.pr (.int .i64) (.int .i64)))))))), none⟩),
  (32, ⟨.st [(0, 1, false), (1, 1, false), (2, 1, false)], 3, 40, [.int .i64 0, .int .i64 0, .slice none 0 0], some (.st (.pr (.int .i64) (.pr (.int .i64) (.sl (.st (.pr (.int .i64) (.pr (.int .i64) (.int .i64)))))))), none⟩),
  (33, ⟨.st [(0, 3, true), (3, 1, false), (4, 1, false)], 5, 72, [.int .i64 0, .int .i64 0, .slice none 0 0, .slice none 0 0, .int .i64 0], some (.st (.pr (.st (.pr (.int .i64) (.pr (.int .i64) (.sl (.st (.pr (.int .i64) (.pr (.int .i64) (.int .i64)))))))) (.pr (.sl (.int .i64)) (.int .i64)))), none⟩),
  (34, ⟨.st [(0, 3, true), (3, 1, false), (4, 1, false)], 5, 72, [.int .i64 0, .int .i64 0, .slice none 0 0, .slice none 0 0, .int .i64 0], some (.st (.pr (.st (.pr (.int .i64) (.pr (.int .i64) (.sl (.st (.pr (.int .i64) (.pr (.int .i64) (.int .i64)))))))) (.pr (.sl (.int .i64)) (.int .i64)))), none⟩),
  (55, ⟨.sl 5 1 1 (.int .u8), 1, 24, [.slice none 0 0], some (.sl (.int .u8)), none⟩),
  (65, ⟨.int .u64, 1, 8, [.int .u64 0], some (.int .u64), none⟩),
  (68, ⟨.st [(0, 1, false), (1, 1, false), (2, 1, false)], 3, 24, [.int .i64 0, .int .i64 0, .int .i64 0], some (.st (.pr (.int .i64) (.pr (.int .i64) (.int .i64)))), some [false, false, false]⟩),
  (69, ⟨.st [(0, 1, false), (1, 1, false), (2, 1, false)], 3, 24, [.int .i64 0, .int .i64 0, .int .i64 0], some (.st (.pr (.int .i64) (.pr (.int .i64) (.int .i64)))), some [false, false, false]⟩),
  (76, ⟨.st [(0, 1, false), (1, 1, false), (2, 1, false)], 3, 24, [.int .i64 0, .int .i64 0, .int .i64 0], some (.st (.pr (.int .i64) (.pr (.int .i64) (.int .i64)))), some [false, false, false]⟩),
  (77, ⟨.st [(0, 1, false), (1, 1, false), (2, 1, false)], 3, 24, [.int .i64 0, .int .i64 0, .int .i64 0], some (.st (.pr (.int .i64) (.pr (.int .i64) (.int .i64)))), some [false, false, false]⟩),
  (89, ⟨.st [(0, 1, false), (1, 1, false), (2, 1, false)], 3, 24, [.int .i64 0, .int .i64 0, .int .i64 0], some (.st (.pr (.int .i64) (.pr (.int .i64) (.int .i64)))), some [false, false, false]⟩),
  (91, ⟨.arr 9 77 3 9 (.st (.pr (.int .i64) (.pr (.int .i64) (.int .i64)))), 27, 216, zerosN 9 (.st (.pr (.int .i64) (.pr (.int .i64) (.int .i64)))), none, none⟩),
  (98, ⟨.sl 25 1 24 (.sl (.int .i64)), 1, 24, [.slice none 0 0], some (.sl (.sl (.int .i64))), none⟩),
  (100, ⟨.arr 512 4 1 512 (.bool), 512, 512, zerosN 512 (.bool), none, none⟩),
  (101, ⟨.arr 9 100 512 4608 (.bool), 4608, 4608, zerosN 4608 (.bool), none, none⟩),
  (103, ⟨.st [(0, 1, false), (1, 1, false), (2, 1, false)], 3, 40, [.slice none 0 0, .int .i64 0, .int .i64 0], some (.st (.pr (.sl (.int .u8)) (.pr (.int .i64) (.int .i64)))), none⟩),
  (104, ⟨.st [(0, 1, false), (1, 1, false), (2, 1, false)], 3, 40, [.slice none 0 0, .int .i64 0, .int .i64 0], some (.st (.pr (.sl (.int .u8)) (.pr (.int .i64) (.int .i64)))), none⟩),
  (115, ⟨.int .u32, 1, 4, [.int .u32 0], some (.int .u32), none⟩)
]
def tab : Tab := tabOf tabL
end Go.SX
