/- YtofjebmoebhiiaaGreatDoorXd: a part of the proof (Tab, Defs). No condition. -/
import Derived.Test.YtofjebmoebhiiaaGreatDoorXc
import Derived.KernelRfl
import Derived.Test.YtofjebmoebhiiaaGreatDoorProg
-- Written by a program of this claim; Lean checks it.
set_option linter.unusedVariables false
set_option maxRecDepth 100000
namespace Go.Proofs.YtofjebmoebhiiaaGreatDoor.Ev
open Go.Abs
abbrev ff : Bool := false
abbrev yT : Ty := .pair (.int .i64) (.pair (.int .i64) .unit)
abbrev yC : Ty := .pair (.int .i64) (.pair .str (.pair (.slice (.st yT)) .unit))
abbrev yR : Ty := .pair (.int .i64) (.pair .str (.pair (.ref 2) .unit))
def tys : List TRow := [
  ⟨1, .fn, 8, 0, [], false⟩,
  ⟨2, (.int .i64), 8, 0, [], false⟩,
  ⟨3, (.int .i64), 8, 0, [], false⟩,
  ⟨4, .bool, 1, 0, [], false⟩,
  ⟨5, (.int .u8), 1, 0, [], false⟩,
  ⟨6, (.int .u8), 1, 0, [], false⟩,
  ⟨7, (.st (.pair (.int .i64) (.pair (.int .i64) (.pair .bool (.pair (.int .u8) .unit))))), 24, 0, [(0, 1), (1, 1), (2, 1), (3, 1)], false⟩,
  ⟨8, (.st (.pair (.int .i64) (.pair (.int .i64) (.pair .bool (.pair (.int .u8) .unit))))), 24, 0, [(0, 1), (1, 1), (2, 1), (3, 1)], false⟩,
  ⟨9, .str, 16, 0, [], false⟩,
  ⟨10, .str, 16, 0, [], false⟩,
  ⟨11, .str, 16, 0, [], false⟩,
  ⟨12, (.int .u64), 8, 0, [], false⟩,
  ⟨13, (.st (.pair .str (.pair (.int .u64) .unit))), 24, 0, [(0, 1), (1, 1)], false⟩,
  ⟨14, (.st (.pair .str (.pair (.int .u64) .unit))), 24, 0, [(0, 1), (1, 1)], false⟩,
  ⟨21, (.int .i32), 4, 0, [], false⟩,
  ⟨22, (.slice (.st yC)), 24, 42, [], false⟩,
  ⟨23, (.st (.pair (.int .i64) (.pair (.ref 0) .unit))), 32, 0, [(0, 1), (1, 1)], false⟩,
  ⟨24, (.st (.pair (.int .i64) (.pair (.ref 0) .unit))), 32, 0, [(0, 1), (1, 1)], false⟩,
  ⟨25, (.slice (.slice (.int .i64))), 24, 26, [], false⟩,
  ⟨26, (.slice (.int .i64)), 24, 3, [], false⟩,
  ⟨27, (.st (.pair (.slice (.slice (.int .i64))) (.pair (.slice (.int .i64)) (.pair (.int .i64) (.pair (.slice (.int .i64)) .unit))))), 80, 0, [(0, 1), (1, 1), (2, 1), (3, 1)], false⟩,
  ⟨28, (.st (.pair (.slice (.slice (.int .i64))) (.pair (.slice (.int .i64)) (.pair (.int .i64) (.pair (.slice (.int .i64)) .unit))))), 80, 0, [(0, 1), (1, 1), (2, 1), (3, 1)], false⟩,
  ⟨29, .fn, 8, 0, [], false⟩,
  ⟨30, .fn, 8, 0, [], false⟩,
  ⟨31, .fn, 8, 0, [], false⟩,
  ⟨32, (.slice (.st (.pair (.int .i64) (.pair (.ref 0) .unit)))), 24, 24, [], false⟩,
  ⟨33, .fn, 8, 0, [], false⟩,
  ⟨34, (.int .i64), 8, 0, [], false⟩,
  ⟨35, .fn, 8, 0, [], false⟩,
  ⟨37, .fn, 8, 0, [], false⟩,
  ⟨38, .fn, 8, 0, [], false⟩,
  ⟨39, .str, 16, 0, [], false⟩,
  ⟨40, (.slice (.st yT)), 24, 44, [], false⟩,
  ⟨41, (.st yC), 48, 0, [(0, 1), (1, 1), (2, 1)], false⟩,
  ⟨42, (.st yC), 48, 0, [(0, 1), (1, 1), (2, 1)], false⟩,
  ⟨43, (.st yT), 16, 0, [(0, 1), (1, 1)], false⟩,
  ⟨44, (.st yT), 16, 0, [(0, 1), (1, 1)], false⟩,
  ⟨45, .fn, 8, 0, [], false⟩,
  ⟨46, (.slice (.st yT)), 24, 58, [], false⟩,
  ⟨47, (.st yT), 16, 0, [(0, 1), (1, 1)], false⟩,
  ⟨48, (.st yT), 16, 0, [(0, 1), (1, 1)], false⟩,
  ⟨50, .fn, 8, 0, [], false⟩,
  ⟨51, .fn, 8, 0, [], false⟩,
  ⟨53, .fn, 8, 0, [], false⟩,
  ⟨54, .fn, 8, 0, [], false⟩,
  ⟨55, .fn, 8, 0, [], false⟩,
  ⟨56, .fn, 8, 0, [], false⟩,
  ⟨57, (.st yT), 16, 0, [(0, 1), (1, 1)], false⟩,
  ⟨58, (.st yT), 16, 0, [(0, 1), (1, 1)], false⟩,
  ⟨59, .fn, 8, 0, [], false⟩,
  ⟨60, .fn, 8, 0, [], false⟩,
  ⟨61, .fn, 8, 0, [], false⟩,
  ⟨62, (.slice (.st (.pair (.slice (.int .i64)) (.pair .str .unit)))), 24, 101, [], false⟩,
  ⟨63, (.slice (.st (.pair (.slice (.int .i64)) (.pair .str .unit)))), 24, 101, [], false⟩,
  ⟨64, .fn, 8, 0, [], false⟩,
  ⟨65, .fn, 8, 0, [], false⟩,
  ⟨66, .fn, 8, 0, [], false⟩,
  ⟨67, .fn, 8, 0, [], false⟩,
  ⟨68, .fn, 8, 0, [], false⟩,
  ⟨69, .fn, 8, 0, [], false⟩,
  ⟨70, .fn, 8, 0, [], false⟩,
  ⟨71, .fn, 8, 0, [], false⟩,
  ⟨72, .fn, 8, 0, [], false⟩,
  ⟨73, (.slice (.int .u32)), 24, 168, [], false⟩,
  ⟨74, (.st (.pair .bool (.pair (.slice (.int .u32)) .unit))), 32, 0, [(0, 1), (1, 1)], false⟩,
  ⟨75, (.st (.pair .bool (.pair (.slice (.int .u32)) .unit))), 32, 0, [(0, 1), (1, 1)], false⟩,
  ⟨76, (.st (.pair (.st (.pair .bool (.pair (.slice (.int .u32)) .unit))) (.pair (.st (.pair .bool (.pair (.slice (.int .u32)) .unit))) .unit))), 64, 0, [(0, 2), (2, 2)], false⟩,
  ⟨77, (.st (.pair (.st (.pair .bool (.pair (.slice (.int .u32)) .unit))) (.pair (.st (.pair .bool (.pair (.slice (.int .u32)) .unit))) .unit))), 64, 0, [(0, 2), (2, 2)], false⟩,
  ⟨79, .fn, 8, 0, [], false⟩,
  ⟨80, .fn, 8, 0, [], false⟩,
  ⟨81, .fn, 8, 0, [], false⟩,
  ⟨83, .fn, 8, 0, [], false⟩,
  ⟨84, .fn, 8, 0, [], false⟩,
  ⟨85, (.st (.pair .fn (.pair .bool .unit))), 16, 0, [(0, 1), (1, 1)], false⟩,
  ⟨86, (.st (.pair .fn (.pair .bool .unit))), 16, 0, [(0, 1), (1, 1)], false⟩,
  ⟨87, .fn, 8, 0, [], false⟩,
  ⟨88, .fn, 8, 0, [], false⟩,
  ⟨90, .fn, 8, 0, [], false⟩,
  ⟨91, .fn, 8, 0, [], false⟩,
  ⟨92, .fn, 8, 0, [], false⟩,
  ⟨93, (.slice .bool), 24, 4, [], false⟩,
  ⟨94, (.st (.pair (.st (.pair (.int .i64) (.pair (.slice (.st yC)) .unit))) (.pair (.slice (.slice (.int .i64))) (.pair (.slice (.int .i64)) (.pair (.slice .bool) yT))))), 120, 0, [(0, 2), (2, 1), (3, 1), (4, 1), (5, 1), (6, 1)], false⟩,
  ⟨95, (.st (.pair (.st (.pair (.int .i64) (.pair (.slice (.st yC)) .unit))) (.pair (.slice (.slice (.int .i64))) (.pair (.slice (.int .i64)) (.pair (.slice .bool) yT))))), 120, 0, [(0, 2), (2, 1), (3, 1), (4, 1), (5, 1), (6, 1)], false⟩,
  ⟨97, .fn, 8, 0, [], false⟩,
  ⟨98, .fn, 8, 0, [], false⟩,
  ⟨99, (.slice (.int .i64)), 24, 3, [], false⟩,
  ⟨100, (.st (.pair (.slice (.int .i64)) (.pair .str .unit))), 40, 0, [(0, 1), (1, 1)], false⟩,
  ⟨101, (.st (.pair (.slice (.int .i64)) (.pair .str .unit))), 40, 0, [(0, 1), (1, 1)], false⟩,
  ⟨102, .fn, 8, 0, [], false⟩,
  ⟨103, .fn, 8, 0, [], false⟩,
  ⟨104, (.slice (.slice (.int .i64))), 24, 99, [], false⟩,
  ⟨105, .fn, 8, 0, [], false⟩,
  ⟨106, (.slice .str), 24, 39, [], false⟩,
  ⟨107, .fn, 8, 0, [], false⟩,
  ⟨109, .fn, 8, 0, [], false⟩,
  ⟨110, .fn, 8, 0, [], false⟩,
  ⟨111, .fn, 8, 0, [], false⟩,
  ⟨112, .fn, 8, 0, [], false⟩,
  ⟨113, .fn, 8, 0, [], false⟩,
  ⟨114, .fn, 8, 0, [], false⟩,
  ⟨115, .fn, 8, 0, [], false⟩,
  ⟨116, .fn, 8, 0, [], false⟩,
  ⟨117, .fn, 8, 0, [], false⟩,
  ⟨118, .str, 16, 0, [], false⟩,
  ⟨120, .fn, 8, 0, [], false⟩,
  ⟨121, .fn, 8, 0, [], false⟩,
  ⟨122, .fn, 8, 0, [], false⟩,
  ⟨123, .fn, 8, 0, [], false⟩,
  ⟨124, .fn, 8, 0, [], false⟩,
  ⟨125, .fn, 8, 0, [], false⟩,
  ⟨127, .fn, 8, 0, [], false⟩,
  ⟨129, .fn, 8, 0, [], false⟩,
  ⟨130, .fn, 8, 0, [], false⟩,
  ⟨131, .fn, 8, 0, [], false⟩,
  ⟨132, .fn, 8, 0, [], false⟩,
  ⟨133, .fn, 8, 0, [], false⟩,
  ⟨134, .fn, 8, 0, [], false⟩,
  ⟨135, .fn, 8, 0, [], false⟩,
  ⟨136, (.slice (.slice (.st yT))), 24, 40, [], false⟩,
  ⟨137, .fn, 8, 0, [], false⟩,
  ⟨138, .fn, 8, 0, [], false⟩,
  ⟨139, .fn, 8, 0, [], false⟩,
  ⟨141, .fn, 8, 0, [], false⟩,
  ⟨143, .fn, 8, 0, [], false⟩,
  ⟨145, .fn, 8, 0, [], false⟩,
  ⟨146, .fn, 8, 0, [], false⟩,
  ⟨147, .fn, 8, 0, [], false⟩,
  ⟨148, .fn, 8, 0, [], false⟩,
  ⟨149, (.int .u64), 8, 0, [], false⟩,
  ⟨150, .fn, 8, 0, [], false⟩,
  ⟨151, .fn, 8, 0, [], false⟩,
  ⟨152, .fn, 8, 0, [], false⟩,
  ⟨153, .fn, 8, 0, [], false⟩,
  ⟨154, .fn, 8, 0, [], false⟩,
  ⟨155, .fn, 8, 0, [], false⟩,
  ⟨156, .fn, 8, 0, [], false⟩,
  ⟨157, .fn, 8, 0, [], false⟩,
  ⟨158, .fn, 8, 0, [], false⟩,
  ⟨159, .fn, 8, 0, [], false⟩,
  ⟨160, .fn, 8, 0, [], false⟩,
  ⟨161, .fn, 8, 0, [], false⟩,
  ⟨163, .fn, 8, 0, [], false⟩,
  ⟨164, .fn, 8, 0, [], false⟩,
  ⟨165, .fn, 8, 0, [], false⟩,
  ⟨167, .fn, 8, 0, [], false⟩,
  ⟨168, (.int .u32), 4, 0, [], false⟩,
  ⟨169, (.slice (.int .u8)), 24, 5, [], false⟩,
  ⟨170, .fn, 8, 0, [], false⟩,
  ⟨171, (.int .u64), 8, 0, [], false⟩,
  ⟨172, .fn, 8, 0, [], false⟩,
  ⟨173, .fn, 8, 0, [], false⟩,
  ⟨175, .fn, 8, 0, [], false⟩,
  ⟨176, .fn, 8, 0, [], false⟩,
  ⟨177, (.int .i64), 8, 0, [], false⟩,
  ⟨179, .fn, 8, 0, [], false⟩,
  ⟨180, .fn, 8, 0, [], false⟩,
  ⟨181, .fn, 8, 0, [], false⟩,
  ⟨182, .fn, 8, 0, [], false⟩,
  ⟨183, (.int .i64), 8, 0, [], false⟩,
  ⟨185, .fn, 8, 0, [], false⟩,
  ⟨186, .fn, 8, 0, [], false⟩,
  ⟨187, .fn, 8, 0, [], false⟩,
  ⟨188, .fn, 8, 0, [], false⟩,
  ⟨189, .fn, 8, 0, [], false⟩,
  ⟨190, .fn, 8, 0, [], false⟩,
  ⟨191, .fn, 8, 0, [], false⟩,
  ⟨193, .fn, 8, 0, [], false⟩,
  ⟨194, .fn, 8, 0, [], false⟩,
  ⟨195, .fn, 8, 0, [], false⟩,
  ⟨196, .fn, 8, 0, [], false⟩,
  ⟨197, .fn, 8, 0, [], false⟩,
  ⟨198, .fn, 8, 0, [], false⟩,
  ⟨199, .fn, 8, 0, [], false⟩,
  ⟨200, .fn, 8, 0, [], false⟩,
  ⟨201, .fn, 8, 0, [], false⟩,
  ⟨202, .fn, 8, 0, [], false⟩,
  ⟨204, .fn, 8, 0, [], false⟩,
  ⟨205, .fn, 8, 0, [], false⟩,
  ⟨206, .fn, 8, 0, [], false⟩,
  ⟨207, .fn, 8, 0, [], false⟩,
  ⟨208, (.st yT), 16, 0, [(0, 1), (1, 1)], true⟩,
  ⟨209, (.int .u64), 8, 0, [], false⟩,
  ⟨210, .fn, 8, 0, [], false⟩,
  ⟨211, .fn, 8, 0, [], false⟩,
  ⟨212, .fn, 8, 0, [], false⟩,
  ⟨214, .fn, 8, 0, [], false⟩,
  ⟨216, .fn, 8, 0, [], false⟩,
  ⟨217, .fn, 8, 0, [], false⟩,
  ⟨218, .fn, 8, 0, [], false⟩,
  ⟨219, .fn, 8, 0, [], false⟩,
  ⟨220, .fn, 8, 0, [], false⟩,
  ⟨221, .fn, 8, 0, [], false⟩,
  ⟨224, .fn, 8, 0, [], false⟩,
  ⟨225, .fn, 8, 0, [], false⟩,
  ⟨227, .fn, 8, 0, [], false⟩,
  ⟨228, .fn, 8, 0, [], false⟩,
  ⟨234, (.int .u8), 1, 0, [], false⟩,
  ⟨235, (.int .u8), 1, 0, [], false⟩,
  ⟨236, .fn, 8, 0, [], false⟩,
  ⟨238, (.int .i32), 4, 0, [], false⟩,
  ⟨239, (.int .i32), 4, 0, [], false⟩]
def heaps : List HT := [⟨42, (.st yC), 0⟩, ⟨42, (.st yR), 0⟩, ⟨44, (.st yT), 0⟩, ⟨58, (.st yT), 0⟩, ⟨3, (.int .i64), 0⟩]
def reals : List (Nat × Nat) := [(100045, 45), (100145, 45), (100046, 46), (100146, 46), (100084, 84), (100040, 40), (100070, 70), (100071, 70), (100109, 109), (100110, 109)]
def real (v : Nat) : Nat := bif Nat.blt v 100000 then v else (Go.Abs.look reals v).getD 0
def sigs : List (Nat × Sig) := [
  (3, ⟨[.v (.st (.pair (.int .i64) (.pair (.slice (.st yC)) .unit))), .v (.st (.pair (.slice (.slice (.int .i64))) (.pair (.slice (.int .i64)) (.pair (.int .i64) (.pair (.slice (.int .i64)) .unit)))))], [(.bool, none)], none, [], none⟩),
  (4, ⟨[.v (.st (.pair (.int .i64) (.pair (.slice (.st yC)) .unit))), .v (.st (.pair (.slice (.slice (.int .i64))) (.pair (.slice (.int .i64)) (.pair (.int .i64) (.pair (.slice (.int .i64)) .unit)))))], [(.bool, none)], none, [], none⟩),
  (5, ⟨[.v (.st (.pair (.int .i64) (.pair (.slice (.st yC)) .unit))), .v (.st (.pair (.slice (.slice (.int .i64))) (.pair (.slice (.int .i64)) (.pair (.int .i64) (.pair (.slice (.int .i64)) .unit)))))], [(.bool, none)], none, [], none⟩),
  (6, ⟨[.v (.st (.pair (.int .i64) (.pair (.slice (.st yC)) .unit))), .v (.st (.pair (.slice (.slice (.int .i64))) (.pair (.slice (.int .i64)) (.pair (.int .i64) (.pair (.slice (.int .i64)) .unit)))))], [(.bool, none)], none, [], none⟩),
  (7, ⟨[], [(.bool, none)], none, [], none⟩),
  (8, ⟨[.v (.st (.pair (.slice (.slice (.int .i64))) (.pair (.slice (.int .i64)) (.pair (.int .i64) (.pair (.slice (.int .i64)) .unit)))))], [(.bool, none)], none, [], none⟩),
  (9, ⟨[.v (.st (.pair (.slice (.slice (.int .i64))) (.pair (.slice (.int .i64)) (.pair (.int .i64) (.pair (.slice (.int .i64)) .unit)))))], [(.bool, none)], none, [], none⟩),
  (10, ⟨[.v (.st (.pair (.slice (.slice (.int .i64))) (.pair (.slice (.int .i64)) (.pair (.int .i64) (.pair (.slice (.int .i64)) .unit)))))], [(.bool, none)], none, [], none⟩),
  (11, ⟨[.v (.st (.pair (.slice (.slice (.int .i64))) (.pair (.slice (.int .i64)) (.pair (.int .i64) (.pair (.slice (.int .i64)) .unit)))))], [(.bool, none)], none, [], none⟩),
  (12, ⟨[.v (.st (.pair (.int .i64) (.pair (.slice (.st yC)) .unit))), .v (.int .i64)], [(.bool, none)], none, [], none⟩),
  (13, ⟨[], [(.bool, none)], none, [], none⟩),
  (14, ⟨[.v (.st (.pair (.slice (.slice (.int .i64))) (.pair (.slice (.int .i64)) (.pair (.int .i64) (.pair (.slice (.int .i64)) .unit))))), .v (.int .i64)], [((.st (.pair (.int .i64) (.pair (.slice (.st yC)) .unit))), none)], none, [], none⟩),
  (15, ⟨[.v (.st (.pair (.int .i64) (.pair (.slice (.st yC)) .unit)))], [((.st (.pair (.int .i64) (.pair (.slice (.st yC)) .unit))), none)], none, [], none⟩),
  (16, ⟨[.v (.st (.pair (.int .i64) (.pair (.slice (.st yC)) .unit)))], [((.int .i64), none)], none, [], none⟩),
  (17, ⟨[.v (.st (.pair (.int .i64) (.pair (.slice (.st yC)) .unit)))], [((.st (.pair (.int .i64) (.pair (.slice (.st yC)) .unit))), none)], none, [], none⟩),
  (18, ⟨[.v (.st (.pair (.int .i64) (.pair (.slice (.st yC)) .unit)))], [((.st (.pair (.int .i64) (.pair (.slice (.st yC)) .unit))), none), ((.int .i64), none)], none, [], none⟩),
  (19, ⟨[.v (.st (.pair (.int .i64) (.pair (.slice (.st yC)) .unit))), .v (.st (.pair (.int .i64) (.pair (.slice (.st yC)) .unit)))], [(.bool, none)], none, [], none⟩),
  (20, ⟨[.v (.st (.pair (.int .i64) (.pair (.slice (.st yC)) .unit)))], [((.slice (.st yT)), none), ((.st yT), none), ((.int .i64), none)], none, [], none⟩),
  (21, ⟨[.v (.slice (.st yT)), .v (.st yT)], [(.bool, none)], none, [], none⟩),
  (22, ⟨[.v (.st (.pair (.int .i64) (.pair (.slice (.st yC)) .unit)))], [((.slice (.st yT)), none), ((.int .i64), none), ((.int .i64), none)], none, [], none⟩),
  (23, ⟨[.v (.slice (.st yT)), .v (.slice (.st yT))], [(.bool, none)], none, [], none⟩),
  (24, ⟨[.v (.st (.pair (.int .i64) (.pair (.slice (.st yC)) .unit)))], [((.slice (.st yT)), none), ((.st yT), none), ((.int .i64), none)], none, [], none⟩),
  (25, ⟨[.v (.st (.pair (.int .i64) (.pair (.slice (.st yC)) .unit)))], [((.slice (.st yT)), none), ((.int .i64), none), ((.int .i64), none)], none, [], none⟩),
  (26, ⟨[.v (.st (.pair (.int .i64) (.pair (.slice (.st yC)) .unit)))], [((.slice (.st yT)), none), ((.st yT), none), ((.int .i64), none)], none, [], none⟩),
  (27, ⟨[.v (.st (.pair (.int .i64) (.pair (.slice (.st yC)) .unit)))], [((.slice (.st yT)), none), ((.int .i64), none), ((.int .i64), none)], none, [], none⟩),
  (28, ⟨[], [((.st (.pair (.int .i64) (.pair (.slice (.st yC)) .unit))), none)], none, [], none⟩),
  (29, ⟨[.v (.st (.pair (.int .i64) (.pair (.slice (.st yC)) .unit)))], [((.slice (.st yT)), none)], none, [], none⟩),
  (30, ⟨[.v (.slice (.st yT)), .v (.slice (.st yT))], [(.bool, none)], none, [], none⟩),
  (31, ⟨[.v (.slice (.int .i64))], [((.slice (.st yT)), some 44)], none, [], none⟩),
  (32, ⟨[.v (.slice (.slice (.int .i64))), .v (.slice (.int .i64)), .v (.int .i64), .v (.int .i64), .v (.int .i64)], [((.slice (.st (.pair (.slice (.int .i64)) (.pair .str .unit)))), none)], none, [], none⟩),
  (33, ⟨[.v (.slice (.st (.pair (.slice (.int .i64)) (.pair .str .unit)))), .v (.int .i64)], [((.st (.pair (.int .i64) (.pair (.slice (.st yC)) .unit))), none), ((.int .i64), none)], none, [], none⟩),
  (34, ⟨[.v (.int .i64)], [((.int .i64), none)], none, [], none⟩),
  (35, ⟨[.v (.st (.pair (.int .i64) (.pair (.slice (.st yC)) .unit))), .v (.int .i64), .v (.int .i64), .v (.int .i64), .v (.int .i64)], [((.st (.pair (.int .i64) (.pair (.slice (.st yC)) .unit))), none)], none, [], none⟩),
  (36, ⟨[.v (.int .i64)], [(.bool, none)], none, [], none⟩),
  (37, ⟨[.v (.st (.pair (.int .i64) (.pair (.slice (.st yC)) .unit))), .v (.int .i64)], [((.int .i64), none)], none, [], none⟩),
  (38, ⟨[.v (.slice (.st yT)), .v (.int .i64)], [((.slice (.int .i64)), none)], none, [], none⟩),
  (39, ⟨[.v .str], [(.str, none)], none, [], none⟩),
  (40, ⟨[.v (.slice (.int .i64))], [((.slice (.st yT)), none)], none, [], none⟩),
  (41, ⟨[.v (.st (.pair (.int .i64) (.pair (.slice (.st yC)) .unit)))], [((.int .i64), none)], none, [], none⟩),
  (42, ⟨[.v .str], [((.st (.pair (.st (.pair .bool (.pair (.slice (.int .u32)) .unit))) (.pair (.st (.pair .bool (.pair (.slice (.int .u32)) .unit))) .unit))), none), (.bool, none)], none, [], none⟩),
  (43, ⟨[.v (.st (.pair (.st (.pair .bool (.pair (.slice (.int .u32)) .unit))) (.pair (.st (.pair .bool (.pair (.slice (.int .u32)) .unit))) .unit)))], [((.st (.pair (.st (.pair .bool (.pair (.slice (.int .u32)) .unit))) (.pair (.st (.pair .bool (.pair (.slice (.int .u32)) .unit))) .unit))), none)], none, [], none⟩),
  (44, ⟨[.v (.st (.pair (.st (.pair .bool (.pair (.slice (.int .u32)) .unit))) (.pair (.st (.pair .bool (.pair (.slice (.int .u32)) .unit))) .unit)))], [(.str, none)], none, [], none⟩),
  (50, ⟨[.v (.ref 3), .fn 51 []], [], none, [(3, true)], none⟩),
  (51, ⟨[.v (.st yT), .v (.st yT)], [((.int .i64), none)], none, [], none⟩),
  (52, ⟨[.v (.st (.pair (.int .i64) (.pair (.slice (.st yC)) .unit))), .v (.int .i64), .v (.int .i64)], [((.int .i64), none)], none, [], none⟩),
  (53, ⟨[.v (.slice (.slice (.int .i64)))], [((.slice (.slice (.int .i64))), none)], none, [], none⟩),
  (54, ⟨[.v (.slice (.slice (.int .i64))), .v (.int .i64), .v (.int .i64), .v (.int .i64)], [((.slice (.slice (.int .i64))), none)], none, [], none⟩),
  (55, ⟨[.v (.int .i64)], [(.str, none)], none, [], none⟩),
  (56, ⟨[.v (.slice (.slice (.int .i64))), .v (.slice .str)], [((.slice (.st (.pair (.slice (.int .i64)) (.pair .str .unit)))), none), ((.int .i64), none)], none, [], none⟩),
  (57, ⟨[.v (.slice (.st (.pair (.slice (.int .i64)) (.pair .str .unit))))], [((.int .i64), none)], none, [], none⟩),
  (58, ⟨[.v (.slice (.int .i64))], [((.slice (.slice (.int .i64))), none)], none, [], none⟩),
  (59, ⟨[.v (.slice (.int .i64)), .v (.slice (.int .i64))], [((.int .i64), none)], none, [], none⟩),
  (60, ⟨[.v (.int .i64), .v (.int .i64)], [((.int .i64), none)], none, [], none⟩),
  (61, ⟨[.v .str], [(.bool, none)], none, [], none⟩),
  (62, ⟨[.v (.int .i64), .v (.slice (.st yT))], [((.int .i64), none)], none, [], none⟩),
  (63, ⟨[.v (.st (.pair (.int .i64) (.pair (.slice (.st yC)) .unit))), .v (.slice (.st yT))], [((.slice (.int .i64)), none)], none, [], none⟩),
  (64, ⟨[.v .str, .v .str], [((.int .i64), none)], none, [], none⟩),
  (65, ⟨[.v .str], [(.str, none), (.str, none), (.bool, none)], none, [], none⟩),
  (66, ⟨[.v .str], [(.str, none)], none, [], none⟩),
  (67, ⟨[.v (.int .i64)], [(.bool, none)], none, [], none⟩),
  (68, ⟨[.v .str], [(.bool, none)], none, [], none⟩),
  (69, ⟨[.v (.int .i64), .v (.slice (.st yT))], [((.int .i64), none)], none, [], none⟩),
  (71, ⟨[.v (.st yT), .rp (.int .i64)], [(.bool, none)], none, [], none⟩),
  (72, ⟨[.v (.st yT), .rp (.st (.pair (.int .i64) (.pair (.slice (.st yC)) .unit))), .rp (.st yC)], [(.bool, none)], none, [], none⟩),
  (73, ⟨[.v (.st (.pair (.int .i64) (.pair (.slice (.st yC)) .unit))), .v (.slice (.st yT))], [((.slice (.st yT)), none)], none, [], none⟩),
  (74, ⟨[.v (.st (.pair (.st (.pair .bool (.pair (.slice (.int .u32)) .unit))) (.pair (.st (.pair .bool (.pair (.slice (.int .u32)) .unit))) .unit))), .v (.st (.pair (.st (.pair .bool (.pair (.slice (.int .u32)) .unit))) (.pair (.st (.pair .bool (.pair (.slice (.int .u32)) .unit))) .unit)))], [((.int .i64), none)], none, [], none⟩),
  (75, ⟨[.v .str, .v .str], [(.str, none), (.str, none), (.bool, none)], none, [], none⟩),
  (76, ⟨[.v .str], [((.st (.pair .bool (.pair (.slice (.int .u32)) .unit))), none), (.bool, none)], none, [], none⟩),
  (77, ⟨[.v (.int .i64)], [((.st (.pair .bool (.pair (.slice (.int .u32)) .unit))), none)], none, [], none⟩),
  (78, ⟨[.v (.st (.pair .bool (.pair (.slice (.int .u32)) .unit)))], [((.int .i64), none)], none, [], none⟩),
  (79, ⟨[.v (.st (.pair .bool (.pair (.slice (.int .u32)) .unit))), .v (.st (.pair .bool (.pair (.slice (.int .u32)) .unit)))], [((.int .i64), none)], none, [], none⟩),
  (80, ⟨[.v (.st (.pair .bool (.pair (.slice (.int .u32)) .unit))), .v (.st (.pair .bool (.pair (.slice (.int .u32)) .unit)))], [((.st (.pair .bool (.pair (.slice (.int .u32)) .unit))), none)], none, [], none⟩),
  (81, ⟨[.v (.st (.pair .bool (.pair (.slice (.int .u32)) .unit)))], [((.st (.pair .bool (.pair (.slice (.int .u32)) .unit))), none)], none, [], none⟩),
  (82, ⟨[.v (.st (.pair (.st (.pair .bool (.pair (.slice (.int .u32)) .unit))) (.pair (.st (.pair .bool (.pair (.slice (.int .u32)) .unit))) .unit)))], [((.st (.pair .bool (.pair (.slice (.int .u32)) .unit))), none)], none, [], none⟩),
  (83, ⟨[.v (.st (.pair .bool (.pair (.slice (.int .u32)) .unit)))], [(.str, none)], none, [], none⟩),
  (84, ⟨[.v (.slice (.st yT))], [((.slice (.st yT)), none)], none, [], none⟩),
  (85, ⟨[.v (.slice (.st yT))], [((.int .i64), none), (.bool, none)], none, [], none⟩),
  (86, ⟨[.v (.int .i64), .v (.int .i64)], [((.int .i64), none), ((.int .i64), none)], none, [], none⟩),
  (87, ⟨[.v (.int .i64), .v (.slice (.st yT)), .v (.int .i64), .v (.slice (.st yT))], [((.slice (.st yT)), none), ((.int .i64), none)], none, [], none⟩),
  (88, ⟨[.v (.int .i64), .v (.int .i64)], [((.int .i64), none)], none, [], none⟩),
  (89, ⟨[.v (.slice (.int .i64))], [((.int .i64), none)], none, [], none⟩),
  (90, ⟨[.v (.ref 3), .v (.int .i64), .v (.int .i64), .v (.int .i64), .fn 51 []], [], none, [(3, true)], none⟩),
  (91, ⟨[.v (.int .u64)], [((.int .i64), none)], none, [], none⟩),
  (92, ⟨[.v (.int .i64), .v (.slice (.slice (.int .i64)))], [((.int .i64), none)], none, [], none⟩),
  (93, ⟨[.v (.slice (.int .i64)), .v (.int .i64), .v (.int .i64)], [((.slice (.int .i64)), none)], none, [], none⟩),
  (94, ⟨[.v (.slice (.slice (.int .i64)))], [((.slice (.slice (.int .i64))), none)], none, [], none⟩),
  (95, ⟨[.v (.int .i64), .v (.int .i64)], [(.str, none)], none, [], none⟩),
  (96, ⟨[.v (.slice (.slice (.int .i64)))], [((.int .i64), none)], none, [], none⟩),
  (97, ⟨[.v (.slice (.int .i64)), .v (.slice (.int .i64))], [(.bool, none)], none, [], none⟩),
  (98, ⟨[.v (.slice (.st (.pair (.slice (.int .i64)) (.pair .str .unit))))], [((.slice (.st (.pair (.slice (.int .i64)) (.pair .str .unit)))), none)], none, [], none⟩),
  (99, ⟨[.v (.slice (.st (.pair (.slice (.int .i64)) (.pair .str .unit)))), .v (.int .i64)], [((.int .i64), none)], none, [], none⟩),
  (100, ⟨[.v (.slice (.st (.pair (.slice (.int .i64)) (.pair .str .unit)))), .v (.int .i64), .v (.slice (.int .i64))], [((.int .i64), none)], none, [], none⟩),
  (101, ⟨[.v (.slice (.int .i64)), .v (.int .i64)], [((.slice (.int .i64)), none)], none, [], none⟩),
  (102, ⟨[.v .str], [(.bool, none)], none, [], none⟩),
  (103, ⟨[.v .str], [(.bool, none)], none, [], none⟩),
  (104, ⟨[.v .str, .v .str], [((.int .i64), none)], none, [], none⟩),
  (105, ⟨[.v .str, .v .str], [(.str, none)], none, [], none⟩),
  (106, ⟨[.v .str], [(.bool, none), ((.slice (.int .i64)), none)], none, [], none⟩),
  (107, ⟨[.v .bool, .v (.slice (.int .i64))], [(.str, none)], none, [], none⟩),
  (108, ⟨[.v .str], [((.st (.pair (.st (.pair .bool (.pair (.slice (.int .u32)) .unit))) (.pair (.st (.pair .bool (.pair (.slice (.int .u32)) .unit))) .unit))), none), (.bool, none)], none, [], none⟩),
  (110, ⟨[.v (.st (.pair .bool (.pair (.slice (.int .u32)) .unit))), .v (.st (.pair .bool (.pair (.slice (.int .u32)) .unit)))], [((.st (.pair .bool (.pair (.slice (.int .u32)) .unit))), none)], none, [], none⟩),
  (111, ⟨[.v .str, .v .str], [(.str, none), (.str, none), (.bool, none)], none, [], none⟩),
  (112, ⟨[.v .str, .v .str], [(.str, none), (.bool, none)], none, [], none⟩),
  (113, ⟨[.v .bool, .v (.slice (.int .u32))], [((.st (.pair .bool (.pair (.slice (.int .u32)) .unit))), none)], none, [], none⟩),
  (114, ⟨[.v (.slice (.int .u32)), .v (.slice (.int .u32))], [((.int .i64), none)], none, [], none⟩),
  (115, ⟨[.v (.int .i64), .v (.int .i64)], [((.int .i64), none)], none, [], none⟩),
  (116, ⟨[.v (.slice (.int .u32))], [((.int .i64), none)], none, [], none⟩),
  (117, ⟨[.v (.slice (.int .u32)), .v (.slice (.int .u32))], [((.slice (.int .u32)), none), ((.slice (.int .u32)), none)], none, [], none⟩),
  (118, ⟨[.v (.slice (.int .u32))], [((.slice (.int .u32)), none)], none, [], none⟩),
  (119, ⟨[.v (.int .i64)], [((.int .i64), none), ((.int .i64), none)], none, [], none⟩),
  (120, ⟨[.v (.int .i64), .v (.int .i64)], [((.int .i64), none)], none, [], none⟩),
  (121, ⟨[.v (.int .i64), .v (.int .i64)], [((.int .i64), none)], none, [], none⟩),
  (122, ⟨[.v (.int .i64), .v (.slice (.slice (.st yT)))], [((.int .i64), none)], none, [], none⟩),
  (123, ⟨[.v (.int .i64), .v (.slice (.st yT)), .v (.int .i64), .v (.slice (.st yT))], [((.slice (.st yT)), none)], none, [], none⟩),
  (124, ⟨[.v (.ref 3), .v (.int .i64), .v (.int .i64), .fn 51 []], [], none, [(3, true)], none⟩),
  (125, ⟨[.v (.ref 3), .v (.int .i64), .v (.int .i64), .fn 51 []], [], none, [(3, true)], none⟩),
  (126, ⟨[.v (.ref 3), .v (.int .i64), .v (.int .i64), .fn 51 []], [], none, [(3, true)], none⟩),
  (127, ⟨[.v (.ref 3), .v (.int .i64), .v (.int .i64), .fn 51 []], [((.int .i64), none), ((.int .i64), none)], none, [(3, true)], none⟩),
  (128, ⟨[.v (.ref 3), .v (.int .i64), .v (.int .i64), .fn 51 []], [], none, [(3, true)], none⟩),
  (129, ⟨[.v (.ref 3), .v (.int .i64), .v (.int .i64), .fn 51 []], [(.bool, none)], none, [(3, true)], none⟩),
  (130, ⟨[.v (.ref 3), .v (.int .i64), .v (.int .i64), .v (.int .i64), .fn 51 []], [((.int .i64), none)], none, [(3, true)], none⟩),
  (131, ⟨[.v (.ref 3), .v (.int .i64), .v (.int .i64), .v (.int .i64), .fn 51 []], [((.int .i64), none), (.bool, none)], none, [(3, true)], none⟩),
  (132, ⟨[.v (.int .u32)], [((.int .i64), none)], none, [], none⟩),
  (133, ⟨[.v (.int .u64)], [((.int .i64), none)], none, [], none⟩),
  (134, ⟨[.v (.slice (.int .i64)), .v (.int .i64)], [(.bool, none)], none, [], none⟩),
  (135, ⟨[.v (.slice (.int .i64))], [((.slice (.int .i64)), none), ((.int .i64), none)], none, [], none⟩),
  (136, ⟨[.v (.slice (.int .i64))], [((.slice (.slice (.int .i64))), none)], none, [], none⟩),
  (137, ⟨[.v (.slice (.slice (.int .i64))), .v (.slice (.int .i64))], [((.slice (.slice (.int .i64))), none)], none, [], none⟩),
  (138, ⟨[.v .str, .v .str], [(.str, none)], none, [], none⟩),
  (139, ⟨[.v (.int .i64)], [(.str, none)], none, [], none⟩),
  (140, ⟨[.v (.slice (.int .i64))], [((.int .i64), none)], none, [], none⟩),
  (141, ⟨[.v (.slice (.slice (.int .i64))), .v (.slice (.int .i64))], [((.int .i64), none)], none, [], none⟩),
  (142, ⟨[.v (.slice (.st (.pair (.slice (.int .i64)) (.pair .str .unit))))], [((.slice (.st (.pair (.slice (.int .i64)) (.pair .str .unit)))), none)], none, [], none⟩),
  (143, ⟨[.v .str], [(.bool, none)], none, [], none⟩),
  (144, ⟨[.v .str], [(.bool, none)], none, [], none⟩),
  (145, ⟨[.v .str, .v .str], [(.str, none)], none, [], none⟩),
  (146, ⟨[.v (.slice (.int .i64)), .v (.slice (.int .i64))], [((.int .i64), none)], none, [], none⟩),
  (147, ⟨[.v .str], [((.int .i64), none), (.bool, none)], none, [], none⟩),
  (148, ⟨[.v (.slice (.int .i64))], [((.slice (.int .i64)), none)], none, [], none⟩),
  (149, ⟨[.v (.st (.pair (.st (.pair .bool (.pair (.slice (.int .u32)) .unit))) (.pair (.st (.pair .bool (.pair (.slice (.int .u32)) .unit))) .unit)))], [(.bool, none)], none, [], none⟩),
  (150, ⟨[.v .str, .v .str], [((.int .i64), none)], none, [], none⟩),
  (151, ⟨[.v .str, .v .str], [(.str, none), (.bool, none)], none, [], none⟩),
  (152, ⟨[.v (.slice (.int .u32)), .v (.int .u32)], [((.slice (.int .u32)), none), ((.int .u32), none)], none, [], none⟩),
  (153, ⟨[.v (.slice (.int .u32)), .v (.slice (.int .u32))], [((.slice (.int .u32)), none), ((.slice (.int .u32)), none)], none, [], none⟩),
  (154, ⟨[.v (.int .i64), .v (.int .i64), .v (.int .i64)], [((.int .i64), none)], none, [], none⟩),
  (155, ⟨[.v (.slice (.st yT)), .v (.slice (.st yT))], [], some (171, [(.slice (.st yT)), (.slice (.st yT))]), [], none⟩),
  (156, ⟨[.v (.ref 3), .v (.int .i64), .v (.int .i64), .v (.int .i64), .fn 51 []], [], none, [(3, true)], none⟩),
  (157, ⟨[.v (.int .i64)], [((.int .u64), none)], none, [], none⟩),
  (161, ⟨[.v .str, .v .str], [(.str, none), (.str, none)], none, [], none⟩),
  (162, ⟨[.v .str], [((.int .i64), none)], none, [], none⟩),
  (163, ⟨[.v .str], [(.str, none)], none, [], none⟩),
  (164, ⟨[.v (.st (.pair .bool (.pair (.slice (.int .u32)) .unit)))], [(.bool, none)], none, [], none⟩),
  (165, ⟨[.v .str, .v (.int .u8)], [((.int .i64), none)], none, [], none⟩),
  (167, ⟨[.v (.int .i64)], [((.int .i64), none)], none, [], none⟩),
  (168, ⟨[.v .str, .v .str], [((.int .i64), none)], none, [], none⟩),
  (169, ⟨[.v .str, .v .str], [(.bool, none)], none, [], none⟩),
  (170, ⟨[.v (.slice (.int .u32)), .v (.int .u32)], [((.slice (.int .u32)), none)], none, [], none⟩),
  (171, ⟨[.yld, .bx (.slice (.st yT)), .bx (.slice (.st yT))], [], none, [], some [(.int .i64), (.st yT)]⟩),
  (173, ⟨[.v (.slice (.int .i64)), .v (.slice (.int .i64))], [((.slice (.int .i64)), none)], none, [], none⟩),
  (174, ⟨[.v .str, .v .str], [(.str, none)], none, [], none⟩),
  (175, ⟨[.v .str, .v .str], [(.str, none)], none, [], none⟩),
  (176, ⟨[.v (.st (.pair .bool (.pair (.slice (.int .u32)) .unit)))], [((.int .i64), none)], none, [], none⟩),
  (178, ⟨[.v .str], [((.int .u32), none), ((.int .u32), none)], none, [], none⟩),
  (179, ⟨[.v (.slice (.int .i64)), .v (.slice (.int .i64))], [((.slice (.int .i64)), none)], none, [], none⟩),
  (196, ⟨[.v (.st (.pair (.int .i64) (.pair (.slice (.st yC)) .unit)))], [], some (197, [(.st (.pair (.int .i64) (.pair (.slice (.st yC)) .unit)))]), [], none⟩),
  (197, ⟨[.yld, .bx (.st (.pair (.int .i64) (.pair (.slice (.st yC)) .unit)))], [], none, [], some [(.int .i64)]⟩),
  (198, ⟨[.v (.st (.pair (.int .i64) (.pair (.slice (.st yC)) .unit)))], [], some (199, [(.st (.pair (.int .i64) (.pair (.slice (.st yC)) .unit)))]), [], none⟩),
  (199, ⟨[.yld, .bx (.st (.pair (.int .i64) (.pair (.slice (.st yC)) .unit)))], [], none, [], some [(.int .i64)]⟩),
  (100045, ⟨[.v (.st (.pair (.int .i64) (.pair (.slice (.st yC)) .unit))), .c [⟨.fn, (197 : Nat)⟩, ⟨.bool, false⟩], .fn 46 []], [((.ref 3), none), ((.st yT), none), ((.int .i64), none)], none, [(3, true)], none⟩),
  (100145, ⟨[.v (.st (.pair (.int .i64) (.pair (.slice (.st yC)) .unit))), .c [⟨.fn, (199 : Nat)⟩, ⟨.bool, true⟩], .fn 46 []], [((.ref 3), none), ((.st yT), none), ((.int .i64), none)], none, [(3, true)], none⟩),
  (100046, ⟨[.c [⟨.fn, (197 : Nat)⟩, ⟨.bool, false⟩], .v (.st (.pair (.int .i64) (.pair (.slice (.st yC)) .unit)))], [((.ref 3), none), ((.st yT), none)], none, [(3, true)], none⟩),
  (100146, ⟨[.c [⟨.fn, (199 : Nat)⟩, ⟨.bool, true⟩], .v (.st (.pair (.int .i64) (.pair (.slice (.st yC)) .unit)))], [((.ref 3), none), ((.st yT), none)], none, [(3, true)], none⟩),
  (100084, ⟨[.v (.nsl (.st yT))], [((.slice (.st yT)), none)], none, [], none⟩),
  (100040, ⟨[.v (.ref 4)], [((.slice (.st yT)), none)], none, [(4,ff)], none⟩),
  (100070, ⟨[.v (.slice (.st yT)), .fn 71 [(.int .i64)]], [(.bool, none)], none, [], none⟩),
  (100071, ⟨[.v (.slice (.st yT)), .fn 72 [(.st (.pair (.int .i64) (.pair (.slice (.st yC)) .unit))), (.st yC)]], [(.bool, none)], none, [], none⟩),
  (100109, ⟨[.v (.slice (.st yT)), .fn 71 [(.int .i64)]], [((.int .i64), none)], none, [], none⟩),
  (100110, ⟨[.v (.slice (.st yT)), .fn 72 [(.st (.pair (.int .i64) (.pair (.slice (.st yC)) .unit))), (.st yC)]], [((.int .i64), none)], none, [], none⟩)]
def sig (v : Nat) : Sig := (Go.Abs.look sigs v).getD ⟨[], [], none, [], none⟩
def cands : List (Nat × List Nat) := [(45, [100045, 100145]), (46, [100046, 100146]), (70, [100070, 100071]), (109, [100109, 100110])]
def cand (f : Nat) : List Nat := (Go.Abs.look cands f).getD [f]
def hints : List (Nat × List (List (Nat × Bool))) := [
  (3, [[(21,ff),(22,ff),(23,ff)], [(6,ff),(7,ff),(8,ff),(9,ff),(10,ff),(21,ff),(22,ff),(23,ff)], [(6,ff),(7,ff),(8,ff),(9,ff),(10,ff),(11,ff),(21,ff),(22,ff),(23,ff),(61,ff),(62,ff)], [(6,ff),(7,ff),(8,ff),(9,ff),(10,ff),(11,ff),(13,ff),(21,ff),(22,ff),(23,ff),(61,ff),(62,ff),(71,ff),(72,ff)]]),
  (4, [[(20,ff),(21,ff),(22,ff)]]),
  (5, [[(20,ff),(21,ff),(22,ff)]]),
  (6, [[(20,ff),(21,ff),(22,ff)]]),
  (9, [[(4,ff),(10,ff),(60,ff),(61,ff),(62,ff)], [(4,ff),(10,ff),(15,ff),(16,ff),(60,ff),(61,ff),(62,ff),(86,ff),(87,ff),(88,ff)]]),
  (10, [[(5,ff),(6,ff),(8,ff),(9,ff),(11,ff),(12,ff),(13,ff),(38,ff),(39,ff),(40,ff)]]),
  (12, [[(13,ff),(14,ff),(15,ff)]]),
  (14, [[(2,ff),(4,ff),(7,ff),(9,ff)], [(2,ff),(4,ff),(7,ff),(9,ff),(10,ff),(11,ff),(12,ff)]]),
  (15, [[(1,ff),(2,ff),(3,ff),(4,ff)]]),
  (16, [[(1,ff),(3,ff)]]),
  (17, [[(1,ff),(2,ff),(3,ff),(4,ff),(5,ff)], [(1,ff),(2,ff),(3,ff),(4,ff),(5,ff),(6,ff),(7,ff),(8,ff)]]),
  (18, [[(1,ff),(2,ff),(5,ff),(6,ff),(34,ff),(35,ff)], [(1,ff),(2,ff),(5,ff),(6,ff),(11,ff)], [(1,ff),(2,ff),(5,ff),(6,ff),(11,ff),(78,ff),(79,ff),(80,ff)]]),
  (19, [[(2,ff),(3,ff),(5,ff)]]),
  (22, [[(1,ff),(5,ff),(6,ff)]]),
  (23, [[(0,ff),(1,ff),(5,ff)]]),
  (25, [[(1,ff),(5,ff),(6,ff)], [(1,ff),(5,ff),(6,ff),(7,ff)]]),
  (26, [[(3,ff),(7,ff),(8,ff),(9,ff),(31,ff),(32,ff),(33,ff)]]),
  (27, [[(5,ff),(6,ff),(7,ff),(8,ff),(9,ff),(10,ff)], [(5,ff),(6,ff),(7,ff),(8,ff),(9,ff),(11,ff)], [(5,ff),(7,ff),(8,ff),(9,ff),(12,ff),(13,ff)]]),
  (29, [[(1,ff),(3,ff),(4,ff),(5,ff)], [(1,ff),(3,ff),(4,ff),(5,ff),(6,ff)], [(3,ff),(4,ff),(7,ff),(8,ff),(9,ff)], [(3,ff),(4,ff),(7,ff),(8,ff),(9,ff),(10,ff)], [(3,ff),(7,ff),(8,ff),(11,ff),(12,ff)]]),
  (30, [[(0,ff),(1,ff),(5,ff)]]),
  (31, [[(0,ff),(3,ff),(4,ff)]]),
  (32, [[(1,ff),(11,ff),(12,ff),(13,ff)]]),
  (33, [[(0,ff),(1,ff),(4,ff),(7,ff),(8,ff)], [(0,ff),(1,ff),(4,ff),(7,ff),(8,ff),(9,ff),(10,ff),(11,ff)], [(0,ff),(1,ff),(4,ff),(7,ff),(8,ff),(9,ff),(10,ff),(11,ff),(12,ff)]]),
  (35, [[(1,ff),(2,ff),(3,ff),(4,ff),(5,ff),(10,ff),(11,ff),(12,ff),(13,ff),(14,ff),(15,ff),(16,ff)], [(1,ff),(2,ff),(4,ff),(5,ff),(10,ff),(11,ff),(12,ff),(17,ff)]]),
  (36, [[(0,ff),(3,ff)]]),
  (37, [[(1,ff),(2,ff),(5,ff),(7,ff)], [(1,ff),(2,ff),(5,ff),(8,ff)]]),
  (38, [[(0,ff),(5,ff),(6,ff)]]),
  (40, [[(0,ff),(3,ff),(4,ff)]]),
  (41, [[(1,ff),(3,ff),(18,ff),(19,ff),(20,ff)]]),
  (52, [[(1,ff),(2,ff),(3,ff),(7,ff),(8,ff)]]),
  (53, [[(0,ff),(3,ff),(4,ff)]]),
  (54, [[(0,ff),(1,ff),(2,ff),(3,ff),(9,ff),(10,ff)], [(11,ff),(37,ff),(38,ff),(39,ff)]]),
  (56, [[(0,ff),(1,ff),(7,ff)], [(0,ff),(1,ff),(8,ff),(9,ff)], [(0,ff),(1,ff),(8,ff),(9,ff),(10,ff),(11,ff)]]),
  (57, [[(0,ff),(3,ff)], [(0,ff),(3,ff),(5,ff),(6,ff)]]),
  (58, [[(0,ff),(3,ff),(4,ff)]]),
  (59, [[(0,ff),(1,ff),(5,ff)]]),
  (60, [[(0,ff),(1,ff),(5,ff)]]),
  (62, [[(0,ff),(1,ff),(5,ff)]]),
  (63, [[(1,ff),(2,ff),(5,ff),(6,ff)], [(1,ff),(2,ff),(5,ff),(6,ff),(7,ff),(8,ff)]]),
  (65, [[(0,ff),(5,ff)]]),
  (67, [[(0,ff),(4,ff)]]),
  (69, [[(0,ff),(1,ff),(10,ff),(11,ff),(12,ff)]]),
  (73, [[(2,ff),(4,ff),(7,ff),(8,ff),(9,ff)]]),
  (76, [[(2,ff),(4,ff),(5,ff),(6,ff),(7,ff)], [(2,ff),(4,ff),(5,ff),(6,ff),(7,ff),(8,ff),(44,ff),(45,ff),(46,ff)]]),
  (77, [[(2,ff),(3,ff),(4,ff),(5,ff)]]),
  (80, [[(4,ff),(5,ff),(6,ff)]]),
  (83, [[(1,ff),(3,ff),(19,ff),(20,ff),(21,ff)], [(1,ff),(3,ff),(5,ff),(19,ff),(20,ff),(21,ff),(25,ff)], [(1,ff),(3,ff)], [(3,ff),(6,ff),(7,ff)]]),
  (89, [[(0,ff),(3,ff)]]),
  (90, [[(0,ff),(1,ff),(2,ff),(3,ff),(4,ff),(10,ff),(11,ff)]]),
  (92, [[(0,ff),(1,ff),(5,ff),(6,ff)], [(0,ff),(5,ff),(7,ff),(8,ff)], [(0,ff),(5,ff),(7,ff),(8,ff),(9,ff)], [(0,ff),(5,ff),(7,ff),(8,ff),(10,ff),(11,ff)], [(0,ff),(5,ff),(7,ff),(8,ff),(10,ff),(11,ff),(12,ff),(13,ff)]]),
  (93, [[(0,ff),(1,ff),(2,ff),(7,ff),(8,ff)]]),
  (94, [[(0,ff),(3,ff),(4,ff)], [(0,ff),(3,ff),(4,ff),(5,ff),(6,ff)]]),
  (96, [[(0,ff),(3,ff)], [(0,ff),(3,ff),(5,ff),(6,ff)]]),
  (97, [[(0,ff),(1,ff),(5,ff)]]),
  (98, [[(3,ff),(4,ff)], [(3,ff),(4,ff),(5,ff)]]),
  (100, [[(0,ff),(1,ff),(2,ff),(7,ff)]]),
  (101, [[(0,ff),(1,ff),(5,ff),(6,ff)]]),
  (105, [[(9,ff),(10,ff),(11,ff),(12,ff),(13,ff),(14,ff)], [(9,ff),(10,ff),(11,ff),(12,ff),(13,ff),(14,ff),(15,ff)], [(9,ff),(11,ff),(13,ff),(16,ff)]]),
  (106, [[(0,ff),(4,ff),(5,ff),(6,ff)]]),
  (107, [[(1,ff),(5,ff),(6,ff)]]),
  (110, [[(2,ff),(3,ff),(4,ff),(5,ff),(20,ff),(21,ff),(22,ff)], [(2,ff),(3,ff),(4,ff),(5,ff),(6,ff),(7,ff),(8,ff),(20,ff),(21,ff),(22,ff),(28,ff),(29,ff),(30,ff)]]),
  (114, [[(0,ff),(1,ff),(5,ff)]]),
  (115, [[(0,ff),(1,ff)]]),
  (116, [[(0,ff),(3,ff),(4,ff)]]),
  (118, [[(0,ff)]]),
  (122, [[(0,ff),(8,ff),(9,ff),(10,ff)]]),
  (123, [[(4,ff),(6,ff),(9,ff)]]),
  (124, [[(0,ff),(1,ff),(2,ff),(3,ff),(8,ff)], [(0,ff),(1,ff),(2,ff),(3,ff),(8,ff),(9,ff)]]),
  (125, [[(0,ff),(3,ff),(8,ff),(9,ff),(10,ff),(11,ff)], [(0,ff),(3,ff),(8,ff),(9,ff),(12,ff)]]),
  (126, [[(0,ff),(1,ff),(8,ff),(9,ff),(10,ff),(11,ff)]]),
  (128, [[(0,ff),(8,ff),(9,ff)]]),
  (129, [[(0,ff),(1,ff),(2,ff),(3,ff),(9,ff),(10,ff)], [(0,ff),(1,ff),(2,ff),(3,ff),(9,ff),(10,ff)], [(0,ff),(1,ff),(2,ff),(3,ff),(9,ff),(10,ff),(11,ff)], [(0,ff),(1,ff),(2,ff),(3,ff),(9,ff),(10,ff),(12,ff)]]),
  (130, [[(0,ff),(1,ff),(4,ff),(11,ff),(12,ff)], [(0,ff),(1,ff),(4,ff),(11,ff),(12,ff)], [(0,ff),(1,ff),(4,ff),(11,ff),(12,ff)]]),
  (131, [[(0,ff),(1,ff),(4,ff),(12,ff),(13,ff)], [(0,ff),(1,ff),(4,ff),(12,ff),(13,ff)], [(0,ff),(1,ff),(4,ff),(12,ff),(13,ff)], [(0,ff),(1,ff),(4,ff),(12,ff),(13,ff)], [(0,ff),(1,ff),(4,ff),(12,ff),(13,ff)]]),
  (134, [[(0,ff),(1,ff),(5,ff)]]),
  (135, [[(4,ff),(5,ff),(6,ff)], [(4,ff),(5,ff),(6,ff),(7,ff)]]),
  (136, [[(0,ff),(3,ff),(4,ff)], [(0,ff),(3,ff),(4,ff),(5,ff),(6,ff)]]),
  (137, [[(0,ff),(1,ff),(5,ff),(6,ff),(7,ff)]]),
  (139, [[(3,ff),(5,ff)], [(0,ff),(6,ff)]]),
  (140, [[(0,ff),(3,ff)], [(0,ff),(4,ff)]]),
  (141, [[(0,ff),(1,ff),(5,ff)]]),
  (142, [[(0,ff),(3,ff),(4,ff)]]),
  (144, [[(3,ff),(4,ff)]]),
  (145, [[(5,ff),(6,ff)]]),
  (146, [[(0,ff),(1,ff),(5,ff)]]),
  (147, [[(0,ff),(4,ff),(5,ff)]]),
  (148, [[(0,ff)]]),
  (150, [[(0,ff),(1,ff),(5,ff),(6,ff),(7,ff),(8,ff),(9,ff),(10,ff)]]),
  (152, [[(0,ff),(1,ff),(6,ff),(7,ff),(8,ff)]]),
  (153, [[(4,ff),(6,ff),(7,ff),(8,ff),(9,ff),(10,ff)], [(4,ff),(6,ff),(7,ff),(8,ff),(9,ff),(10,ff),(12,ff),(13,ff)], [(4,ff),(6,ff),(7,ff),(8,ff),(9,ff),(10,ff),(12,ff),(14,ff),(123,ff),(124,ff)], [(4,ff),(6,ff),(7,ff),(8,ff),(9,ff),(10,ff),(12,ff),(17,ff),(18,ff),(188,ff),(189,ff)]]),
  (154, [[(0,ff),(2,ff),(7,ff),(8,ff)]]),
  (156, [[(0,ff),(2,ff),(3,ff),(4,ff),(10,ff)]]),
  (161, [[(1,ff),(12,ff),(13,ff),(14,ff),(15,ff),(17,ff),(18,ff),(19,ff)], [(1,ff),(12,ff),(13,ff),(14,ff),(15,ff),(17,ff),(18,ff),(19,ff),(20,ff)], [(1,ff),(12,ff),(14,ff),(17,ff),(18,ff),(21,ff)]]),
  (168, [[(0,ff),(1,ff),(5,ff),(6,ff),(7,ff),(8,ff),(9,ff)], [(0,ff),(1,ff),(5,ff),(6,ff),(7,ff),(8,ff),(10,ff)]]),
  (170, [[(1,ff),(5,ff),(6,ff),(13,ff),(14,ff),(15,ff)]]),
  (171, [[(0,ff),(1,ff),(2,ff)]]),
  (173, [[(0,ff),(1,ff),(5,ff),(6,ff),(7,ff)]]),
  (176, [[(3,ff),(4,ff)]]),
  (178, [[(0,ff),(4,ff),(5,ff)], [(4,ff),(6,ff),(7,ff),(8,ff)]]),
  (179, [[(0,ff),(1,ff),(5,ff),(6,ff),(7,ff)]]),
  (197, [[(0,ff),(6,ff),(7,ff)]]),
  (199, [[(0,ff),(1,ff),(3,ff)], [(0,ff),(1,ff),(3,ff),(11,ff),(12,ff),(13,ff)]]),
  (100046, [[(2,ff),(3,ff),(4,ff),(5,ff),(7,ff),(8,ff),(27,ff),(28,ff)], [(2,ff),(3,ff),(4,ff),(5,ff),(7,ff),(8,ff)], [(3,ff),(5,ff),(7,ff),(8,ff),(10,ff),(11,ff),(12,ff),(13,ff)], [(4,ff),(5,ff),(137,ff),(138,ff),(139,ff)]]),
  (100146, [[(2,ff),(3,ff),(4,ff),(5,ff),(7,ff),(8,ff),(27,ff),(28,ff)], [(2,ff),(3,ff),(4,ff),(5,ff),(7,ff),(8,ff)], [(3,ff),(5,ff),(7,ff),(8,ff),(10,ff),(11,ff),(12,ff),(13,ff)], [(4,ff),(5,ff),(137,ff),(138,ff),(139,ff)]]),
  (100040, [[(0,ff),(3,ff),(4,ff)]]),
  (100109, [[(0,ff),(1,ff),(7,ff),(8,ff)]]),
  (100110, [[(0,ff),(1,ff),(7,ff),(8,ff)]])]
def hint (v : Nat) : List (List (Nat × Bool)) := (Go.Abs.look hints v).getD []
def sitesL : List (Nat × List (Nat × Site)) := [(18, [(30, .heap 1)]), (33, [(32, .heap 4), (87, .vid 100040)]), (100045, [(6, .heap 3)]), (100145, [(6, .heap 3)]), (100046, [(4, .heap 3), (23, .nsl)]), (100146, [(4, .heap 3), (23, .nsl)])]
def sites (v : Nat) : List (Nat × Site) := (Go.Abs.look sitesL v).getD []
def T : Tab := ⟨tys, heaps, real, sig, cand, hint, sites, [(1000000000, .vel [⟨.fn, (197 : Nat)⟩, ⟨.bool, false⟩]), (1000000001, .vel [⟨.fn, (199 : Nat)⟩, ⟨.bool, true⟩])], [48, 58, 44]⟩
noncomputable def fns : List (Nat × Func) := [
  (3, Tryz.f3), (4, Tryz.f4), (5, Tryz.f5), (6, Tryz.f6), (7, Tryz.f7), (8, Tryz.f8), (9, Tryz.f9), (10, Tryz.f10), (11, Tryz.f11), (12, Tryz.f12), (13, Tryz.f13), (14, Tryz.f14), (15, Tryz.f15), (16, Tryz.f16), (17, Tryz.f17), (18, Tryz.f18), (19, Tryz.f19), (20, Tryz.f20), (21, Tryz.f21), (22, Tryz.f22), (23, Tryz.f23), (24, Tryz.f24), (25, Tryz.f25), (26, Tryz.f26), (27, Tryz.f27), (28, Tryz.f28), (29, Tryz.f29), (30, Tryz.f30), (31, Tryz.f31), (32, Tryz.f32), (33, Tryz.f33), (34, Tryz.f34), (35, Tryz.f35), (36, Tryz.f36), (37, Tryz.f37), (38, Tryz.f38), (39, Tryz.f39), (40, Tryz.f40), (41, Tryz.f41), (42, Tryz.f42), (43, Tryz.f43), (44, Tryz.f44), (50, Tryz.f50), (51, Tryz.f51), (52, Tryz.f52), (53, Tryz.f53), (54, Tryz.f54), (55, Tryz.f55), (56, Tryz.f56), (57, Tryz.f57), (58, Tryz.f58), (59, Tryz.f59), (60, Tryz.f60), (61, Tryz.f61), (62, Tryz.f62), (63, Tryz.f63), (64, Tryz.f64), (65, Tryz.f65), (66, Tryz.f66), (67, Tryz.f67), (68, Tryz.f68), (69, Tryz.f69), (71, Tryz.f71), (72, Tryz.f72), (73, Tryz.f73), (74, Tryz.f74), (75, Tryz.f75), (76, Tryz.f76), (77, Tryz.f77), (78, Tryz.f78), (79, Tryz.f79), (80, Tryz.f80), (81, Tryz.f81), (82, Tryz.f82), (83, Tryz.f83), (84, Tryz.f84), (85, Tryz.f85), (86, Tryz.f86), (87, Tryz.f87), (88, Tryz.f88), (89, Tryz.f89), (90, Tryz.f90), (91, Tryz.f91), (92, Tryz.f92), (93, Tryz.f93), (94, Tryz.f94), (95, Tryz.f95), (96, Tryz.f96), (97, Tryz.f97), (98, Tryz.f98), (99, Tryz.f99), (100, Tryz.f100), (101, Tryz.f101), (102, Tryz.f102), (103, Tryz.f103), (104, Tryz.f104), (105, Tryz.f105), (106, Tryz.f106), (107, Tryz.f107), (108, Tryz.f108), (110, Tryz.f110), (111, Tryz.f111), (112, Tryz.f112), (113, Tryz.f113), (114, Tryz.f114), (115, Tryz.f115), (116, Tryz.f116), (117, Tryz.f117), (118, Tryz.f118), (119, Tryz.f119), (120, Tryz.f120), (121, Tryz.f121), (122, Tryz.f122), (123, Tryz.f123), (124, Tryz.f124), (125, Tryz.f125), (126, Tryz.f126), (127, Tryz.f127), (128, Tryz.f128), (129, Tryz.f129), (130, Tryz.f130), (131, Tryz.f131), (132, Tryz.f132), (133, Tryz.f133), (134, Tryz.f134), (135, Tryz.f135), (136, Tryz.f136), (137, Tryz.f137), (138, Tryz.f138), (139, Tryz.f139), (140, Tryz.f140), (141, Tryz.f141), (142, Tryz.f142), (143, Tryz.f143), (144, Tryz.f144), (145, Tryz.f145), (146, Tryz.f146), (147, Tryz.f147), (148, Tryz.f148), (149, Tryz.f149), (150, Tryz.f150), (151, Tryz.f151), (152, Tryz.f152), (153, Tryz.f153), (154, Tryz.f154), (155, Tryz.f155), (156, Tryz.f156), (157, Tryz.f157), (161, Tryz.f161), (162, Tryz.f162), (163, Tryz.f163), (164, Tryz.f164), (165, Tryz.f165), (167, Tryz.f167), (168, Tryz.f168), (169, Tryz.f169), (170, Tryz.f170), (171, Tryz.f171), (173, Tryz.f173), (174, Tryz.f174), (175, Tryz.f175), (176, Tryz.f176), (178, Tryz.f178), (179, Tryz.f179), (196, Tryz.f196), (197, Tryz.f197), (198, Tryz.f198), (199, Tryz.f199), (100045, Tryz.f45), (100145, Tryz.f45), (100046, Tryz.f46), (100146, Tryz.f46), (100084, Tryz.f84), (100040, Tryz.f40), (100070, Tryz.f70), (100071, Tryz.f70), (100109, Tryz.f109), (100110, Tryz.f109)]
def idxB (c : Int) (i : Nat) : List UInt8 → Int
  | [] => -1
  | x :: r => bif ((x.toNat : Int) == c) then (i : Int) else idxB c (i + 1) r
def B : Base T := fun v => match v with
  | 84 => some fun (x : List (Int × Int × Unit)) => bif okApp 16 2 0 x.length then some x else none
  | 165 => some fun (x : ByteArray × Int) => bif decide (0 ≤ x.2) && decide (x.2 < 256) then some (idxB x.2 0 x.1.data.toList) else none
  | _ => none
theorem tys_ok : TabOk Tryz.prog T.rows := tab_ok (by kernel_rfl)
theorem mixed : Tryz.prog.follows .mixedOrders = true := by kernel_rfl
theorem heaps_ok' : HeapsOk Tryz.prog T := heaps_ok (by kernel_rfl)
theorem eqs_ok' : EqOk Tryz.prog T := eqs_ok (by kernel_rfl)
theorem sigs_ok' : SigsOk T := sigs_ok (l := sigs) (by kernel_rfl) fun _ => rfl
theorem prog_ok : ProgOk Tryz.prog T := ⟨mixed, tys_ok, heaps_ok', eqs_ok', sigs_ok'⟩
theorem fns_ok : FnsOk Tryz.prog T (Go.Abs.look fns) := fnsOk_look (
  ⟨⟨Tryz.func3, by kernel_rfl⟩,⟨⟨Tryz.func4, by kernel_rfl⟩,⟨⟨Tryz.func5, by kernel_rfl⟩,⟨⟨Tryz.func6, by kernel_rfl⟩,⟨⟨Tryz.func7, by kernel_rfl⟩,⟨⟨Tryz.func8, by kernel_rfl⟩,⟨⟨Tryz.func9, by kernel_rfl⟩,⟨⟨Tryz.func10, by kernel_rfl⟩,⟨⟨Tryz.func11, by kernel_rfl⟩,⟨⟨Tryz.func12, by kernel_rfl⟩,⟨⟨Tryz.func13, by kernel_rfl⟩,⟨⟨Tryz.func14, by kernel_rfl⟩,⟨⟨Tryz.func15, by kernel_rfl⟩,⟨⟨Tryz.func16, by kernel_rfl⟩,⟨⟨Tryz.func17, by kernel_rfl⟩,⟨⟨Tryz.func18, by kernel_rfl⟩,⟨⟨Tryz.func19, by kernel_rfl⟩,⟨⟨Tryz.func20, by kernel_rfl⟩,⟨⟨Tryz.func21, by kernel_rfl⟩,⟨⟨Tryz.func22, by kernel_rfl⟩,⟨⟨Tryz.func23, by kernel_rfl⟩,⟨⟨Tryz.func24, by kernel_rfl⟩,⟨⟨Tryz.func25, by kernel_rfl⟩,⟨⟨Tryz.func26, by kernel_rfl⟩,⟨⟨Tryz.func27, by kernel_rfl⟩,⟨⟨Tryz.func28, by kernel_rfl⟩,⟨⟨Tryz.func29, by kernel_rfl⟩,⟨⟨Tryz.func30, by kernel_rfl⟩,⟨⟨Tryz.func31, by kernel_rfl⟩,⟨⟨Tryz.func32, by kernel_rfl⟩,⟨⟨Tryz.func33, by kernel_rfl⟩,⟨⟨Tryz.func34, by kernel_rfl⟩,⟨⟨Tryz.func35, by kernel_rfl⟩,⟨⟨Tryz.func36, by kernel_rfl⟩,⟨⟨Tryz.func37, by kernel_rfl⟩,⟨⟨Tryz.func38, by kernel_rfl⟩,⟨⟨Tryz.func39, by kernel_rfl⟩,⟨⟨Tryz.func40, by kernel_rfl⟩,⟨⟨Tryz.func41, by kernel_rfl⟩,⟨⟨Tryz.func42, by kernel_rfl⟩,⟨⟨Tryz.func43, by kernel_rfl⟩,⟨⟨Tryz.func44, by kernel_rfl⟩,⟨⟨Tryz.func50, by kernel_rfl⟩,⟨⟨Tryz.func51, by kernel_rfl⟩,⟨⟨Tryz.func52, by kernel_rfl⟩,⟨⟨Tryz.func53, by kernel_rfl⟩,⟨⟨Tryz.func54, by kernel_rfl⟩,⟨⟨Tryz.func55, by kernel_rfl⟩,⟨⟨Tryz.func56, by kernel_rfl⟩,⟨⟨Tryz.func57, by kernel_rfl⟩,⟨⟨Tryz.func58, by kernel_rfl⟩,⟨⟨Tryz.func59, by kernel_rfl⟩,⟨⟨Tryz.func60, by kernel_rfl⟩,⟨⟨Tryz.func61, by kernel_rfl⟩,⟨⟨Tryz.func62, by kernel_rfl⟩,⟨⟨Tryz.func63, by kernel_rfl⟩,⟨⟨Tryz.func64, by kernel_rfl⟩,⟨⟨Tryz.func65, by kernel_rfl⟩,⟨⟨Tryz.func66, by kernel_rfl⟩,⟨⟨Tryz.func67, by kernel_rfl⟩,⟨⟨Tryz.func68, by kernel_rfl⟩,⟨⟨Tryz.func69, by kernel_rfl⟩,⟨⟨Tryz.func71, by kernel_rfl⟩,⟨⟨Tryz.func72, by kernel_rfl⟩,⟨⟨Tryz.func73, by kernel_rfl⟩,⟨⟨Tryz.func74, by kernel_rfl⟩,⟨⟨Tryz.func75, by kernel_rfl⟩,⟨⟨Tryz.func76, by kernel_rfl⟩,⟨⟨Tryz.func77, by kernel_rfl⟩,⟨⟨Tryz.func78, by kernel_rfl⟩,⟨⟨Tryz.func79, by kernel_rfl⟩,⟨⟨Tryz.func80, by kernel_rfl⟩,⟨⟨Tryz.func81, by kernel_rfl⟩,⟨⟨Tryz.func82, by kernel_rfl⟩,⟨⟨Tryz.func83, by kernel_rfl⟩,⟨⟨Tryz.func84, by kernel_rfl⟩,⟨⟨Tryz.func85, by kernel_rfl⟩,⟨⟨Tryz.func86, by kernel_rfl⟩,⟨⟨Tryz.func87, by kernel_rfl⟩,⟨⟨Tryz.func88, by kernel_rfl⟩,⟨⟨Tryz.func89, by kernel_rfl⟩,⟨⟨Tryz.func90, by kernel_rfl⟩,⟨⟨Tryz.func91, by kernel_rfl⟩,⟨⟨Tryz.func92, by kernel_rfl⟩,⟨⟨Tryz.func93, by kernel_rfl⟩,⟨⟨Tryz.func94, by kernel_rfl⟩,⟨⟨Tryz.func95, by kernel_rfl⟩,⟨⟨Tryz.func96, by kernel_rfl⟩,⟨⟨Tryz.func97, by kernel_rfl⟩,⟨⟨Tryz.func98, by kernel_rfl⟩,⟨⟨Tryz.func99, by kernel_rfl⟩,⟨⟨Tryz.func100, by kernel_rfl⟩,⟨⟨Tryz.func101, by kernel_rfl⟩,⟨⟨Tryz.func102, by kernel_rfl⟩,⟨⟨Tryz.func103, by kernel_rfl⟩,⟨⟨Tryz.func104, by kernel_rfl⟩,⟨⟨Tryz.func105, by kernel_rfl⟩,⟨⟨Tryz.func106, by kernel_rfl⟩,⟨⟨Tryz.func107, by kernel_rfl⟩,⟨⟨Tryz.func108, by kernel_rfl⟩,⟨⟨Tryz.func110, by kernel_rfl⟩,⟨⟨Tryz.func111, by kernel_rfl⟩,⟨⟨Tryz.func112, by kernel_rfl⟩,⟨⟨Tryz.func113, by kernel_rfl⟩,⟨⟨Tryz.func114, by kernel_rfl⟩,⟨⟨Tryz.func115, by kernel_rfl⟩,⟨⟨Tryz.func116, by kernel_rfl⟩,⟨⟨Tryz.func117, by kernel_rfl⟩,⟨⟨Tryz.func118, by kernel_rfl⟩,⟨⟨Tryz.func119, by kernel_rfl⟩,⟨⟨Tryz.func120, by kernel_rfl⟩,⟨⟨Tryz.func121, by kernel_rfl⟩,⟨⟨Tryz.func122, by kernel_rfl⟩,⟨⟨Tryz.func123, by kernel_rfl⟩,⟨⟨Tryz.func124, by kernel_rfl⟩,⟨⟨Tryz.func125, by kernel_rfl⟩,⟨⟨Tryz.func126, by kernel_rfl⟩,⟨⟨Tryz.func127, by kernel_rfl⟩,⟨⟨Tryz.func128, by kernel_rfl⟩,⟨⟨Tryz.func129, by kernel_rfl⟩,⟨⟨Tryz.func130, by kernel_rfl⟩,⟨⟨Tryz.func131, by kernel_rfl⟩,⟨⟨Tryz.func132, by kernel_rfl⟩,⟨⟨Tryz.func133, by kernel_rfl⟩,⟨⟨Tryz.func134, by kernel_rfl⟩,⟨⟨Tryz.func135, by kernel_rfl⟩,⟨⟨Tryz.func136, by kernel_rfl⟩,⟨⟨Tryz.func137, by kernel_rfl⟩,⟨⟨Tryz.func138, by kernel_rfl⟩,⟨⟨Tryz.func139, by kernel_rfl⟩,⟨⟨Tryz.func140, by kernel_rfl⟩,⟨⟨Tryz.func141, by kernel_rfl⟩,⟨⟨Tryz.func142, by kernel_rfl⟩,⟨⟨Tryz.func143, by kernel_rfl⟩,⟨⟨Tryz.func144, by kernel_rfl⟩,⟨⟨Tryz.func145, by kernel_rfl⟩,⟨⟨Tryz.func146, by kernel_rfl⟩,⟨⟨Tryz.func147, by kernel_rfl⟩,⟨⟨Tryz.func148, by kernel_rfl⟩,⟨⟨Tryz.func149, by kernel_rfl⟩,⟨⟨Tryz.func150, by kernel_rfl⟩,⟨⟨Tryz.func151, by kernel_rfl⟩,⟨⟨Tryz.func152, by kernel_rfl⟩,⟨⟨Tryz.func153, by kernel_rfl⟩,⟨⟨Tryz.func154, by kernel_rfl⟩,⟨⟨Tryz.func155, by kernel_rfl⟩,⟨⟨Tryz.func156, by kernel_rfl⟩,⟨⟨Tryz.func157, by kernel_rfl⟩,⟨⟨Tryz.func161, by kernel_rfl⟩,⟨⟨Tryz.func162, by kernel_rfl⟩,⟨⟨Tryz.func163, by kernel_rfl⟩,⟨⟨Tryz.func164, by kernel_rfl⟩,⟨⟨Tryz.func165, by kernel_rfl⟩,⟨⟨Tryz.func167, by kernel_rfl⟩,⟨⟨Tryz.func168, by kernel_rfl⟩,⟨⟨Tryz.func169, by kernel_rfl⟩,⟨⟨Tryz.func170, by kernel_rfl⟩,⟨⟨Tryz.func171, by kernel_rfl⟩,⟨⟨Tryz.func173, by kernel_rfl⟩,⟨⟨Tryz.func174, by kernel_rfl⟩,⟨⟨Tryz.func175, by kernel_rfl⟩,⟨⟨Tryz.func176, by kernel_rfl⟩,⟨⟨Tryz.func178, by kernel_rfl⟩,⟨⟨Tryz.func179, by kernel_rfl⟩,⟨⟨Tryz.func196, by kernel_rfl⟩,⟨⟨Tryz.func197, by kernel_rfl⟩,⟨⟨Tryz.func198, by kernel_rfl⟩,⟨⟨Tryz.func199, by kernel_rfl⟩,⟨⟨Tryz.func45, by kernel_rfl⟩,⟨⟨Tryz.func45, by kernel_rfl⟩,⟨⟨Tryz.func46, by kernel_rfl⟩,⟨⟨Tryz.func46, by kernel_rfl⟩,⟨⟨Tryz.func84, by kernel_rfl⟩,⟨⟨Tryz.func40, by kernel_rfl⟩,⟨⟨Tryz.func70, by kernel_rfl⟩,⟨⟨Tryz.func70, by kernel_rfl⟩,⟨⟨Tryz.func109, by kernel_rfl⟩,⟨⟨Tryz.func109, by kernel_rfl⟩,trivial⟩⟩⟩⟩⟩⟩⟩⟩⟩⟩⟩⟩⟩⟩⟩⟩⟩⟩⟩⟩⟩⟩⟩⟩⟩⟩⟩⟩⟩⟩⟩⟩⟩⟩⟩⟩⟩⟩⟩⟩⟩⟩⟩⟩⟩⟩⟩⟩⟩⟩⟩⟩⟩⟩⟩⟩⟩⟩⟩⟩⟩⟩⟩⟩⟩⟩⟩⟩⟩⟩⟩⟩⟩⟩⟩⟩⟩⟩⟩⟩⟩⟩⟩⟩⟩⟩⟩⟩⟩⟩⟩⟩⟩⟩⟩⟩⟩⟩⟩⟩⟩⟩⟩⟩⟩⟩⟩⟩⟩⟩⟩⟩⟩⟩⟩⟩⟩⟩⟩⟩⟩⟩⟩⟩⟩⟩⟩⟩⟩⟩⟩⟩⟩⟩⟩⟩⟩⟩⟩⟩⟩⟩⟩⟩⟩⟩⟩⟩⟩⟩⟩⟩⟩⟩⟩⟩⟩⟩⟩⟩⟩⟩⟩⟩⟩⟩⟩⟩⟩⟩⟩⟩⟩⟩⟩⟩⟩⟩)
end Go.Proofs.YtofjebmoebhiiaaGreatDoor.Ev
set_option maxRecDepth 100000
set_option exponentiation.threshold 2000
namespace Go.Proofs.YtofjebmoebhiiaaGreatDoor.Ev
open Go.Abs
noncomputable section
abbrev Tm := Int × Int × Unit
abbrev Ts := List Tm
abbrev Os := Option Ts
abbrev Cl := Int × ByteArray × Ts × Unit
abbrev Cs := List Cl
abbrev Cn := Int × ByteArray × Nat × Unit
abbrev W : Int → Int := IntKind.wrap .i64
noncomputable abbrev lf : Nat → Option Func := Go.Abs.look fns
theorem lr {α : Type} (a : Option α) : Le a a := Le.rfl' a
theorem ln {α : Type} (b : Option α) : Le none b := Le.none' b
theorem lx {α β : Type} {a b : Option α} {f g : α → Option β} (h : Le a b) (h2 : ∀ v, Le (f v) (g v)) : Le (a.bind f) (b.bind g) := Le.bind' h h2
theorem lb {α β : Type} {a : Option α} {f g : α → Option β} (h2 : ∀ v, Le (f v) (g v)) : Le (a.bind f) (a.bind g) := Le.bind' (Le.rfl' a) h2
theorem lc {α : Type} {c : Bool} {a b a' b' : Option α} (h : Le a a') (h2 : Le b b') : Le (bif c then a else b) (bif c then a' else b') := Le.cond' h h2
theorem le {α : Type} {a b b' : Option α} (h : b = b') (h2 : Le a b') : Le a b := Le.of_eq' h h2
abbrev gl : List (Nat × AV) := [(1000000000, .vel [⟨.fn, (197 : Nat)⟩, ⟨.bool, false⟩]), (1000000001, .vel [⟨.fn, (199 : Nat)⟩, ⟨.bool, true⟩])]
def toruslaw22_ClearExamples : Option (Bool) := evI T B lf 7 ()
def f0 : Option (Bool) := evI T B lf 13 ()
def f1 (c : Int × Cs × Unit) : Option ((Int × Cs × Unit) × Int) := evI T B lf 18 c
def f1_L0 (last : Int) (t : Int) (t2 : Int) (c : Int) (c2 : List Cl) (t3 : Int) (t4 : Nat) (out : Int) (out2 : Nat) (hp1 : List (Option (List Cn))) : Option ((Int × Cs × Unit) × Int) :=
 LL T B lf 18 0 ⟨⟨107, [(35, .rv (.cv ⟨.int .i64, t2⟩)), (34, .rv (.cv ⟨.int .i64, t⟩)), (6, .box 6 0), (5, .rv (.cv ⟨.int .i64, last⟩)), (2, .box 2 0), (1, .box 1 0)], gl⟩, [], [(1, .cells [⟨.int .i64, c⟩, ⟨.slice (.st yC), c2⟩]), (2, .cells [⟨.int .i64, t3⟩, ⟨.ref 0, t4⟩]), (6, .cells [⟨.int .i64, out⟩, ⟨.ref 1, out2⟩])], [⟨42, .st yC, 0, true, ([] : List (Option Cs))⟩, ⟨42, .st yR, 0, true, hp1⟩, ⟨44, .st yT, 0, true, ([] : List Os)⟩, ⟨58, .st yT, 0, true, ([] : List Os)⟩, ⟨3, .int .i64, 0, true, ([] : List (Option (List Int)))⟩], ⟨.unit, ()⟩, [], T.sites 18⟩
def f1_L1 (last : Int) (k : Int) (c : Int) (c2 : List Cl) (t : Int) (t2 : Nat) (out : Int) (out2 : Nat) (hp1 : List (Option (List Cn))) : Option ((Int × Cs × Unit) × Int) :=
 LL T B lf 18 1 ⟨⟨107, [(11, .rv (.cv ⟨.int .i64, k⟩)), (6, .box 6 0), (5, .rv (.cv ⟨.int .i64, last⟩)), (2, .box 2 0), (1, .box 1 0)], gl⟩, [], [(1, .cells [⟨.int .i64, c⟩, ⟨.slice (.st yC), c2⟩]), (2, .cells [⟨.int .i64, t⟩, ⟨.ref 0, t2⟩]), (6, .cells [⟨.int .i64, out⟩, ⟨.ref 1, out2⟩])], [⟨42, .st yC, 0, true, ([] : List (Option Cs))⟩, ⟨42, .st yR, 0, true, hp1⟩, ⟨44, .st yT, 0, true, ([] : List Os)⟩, ⟨58, .st yT, 0, true, ([] : List Os)⟩, ⟨3, .int .i64, 0, true, ([] : List (Option (List Int)))⟩], ⟨.unit, ()⟩, [], T.sites 18⟩
def f1_L2 (last : Int) (k : Int) (t : Ts) (t2 : Int) (t3 : Int) (c : Int) (c2 : List Cl) (t4 : Int) (t5 : Nat) (out : Int) (out2 : Nat) (hp1 : List (Option (List Cn))) : Option ((Int × Cs × Unit) × Int) :=
 LL T B lf 18 2 ⟨⟨107, [(80, .rv (.cv ⟨.int .i64, t3⟩)), (79, .rv (.cv ⟨.int .i64, t2⟩)), (78, .rv (.cv ⟨.slice (.st yT), t⟩)), (11, .rv (.cv ⟨.int .i64, k⟩)), (6, .box 6 0), (5, .rv (.cv ⟨.int .i64, last⟩)), (2, .box 2 0), (1, .box 1 0)], gl⟩, [], [(1, .cells [⟨.int .i64, c⟩, ⟨.slice (.st yC), c2⟩]), (2, .cells [⟨.int .i64, t4⟩, ⟨.ref 0, t5⟩]), (6, .cells [⟨.int .i64, out⟩, ⟨.ref 1, out2⟩])], [⟨42, .st yC, 0, true, ([] : List (Option Cs))⟩, ⟨42, .st yR, 0, true, hp1⟩, ⟨44, .st yT, 0, true, ([] : List Os)⟩, ⟨58, .st yT, 0, true, ([] : List Os)⟩, ⟨3, .int .i64, 0, true, ([] : List (Option (List Int)))⟩], ⟨.unit, ()⟩, [], T.sites 18⟩
def f2 (last : Int) (k : Int) (t : Ts) (t2 : Int) (t3 : Int) (c : Int) (c2 : List Cl) (t4 : Int) (t5 : Nat) (out : Int) (out2 : Nat) (hp1 : List (Option (List Cn))) (hp2 : List Os) : Option ((Int × Cs × Unit) × Int) :=
 LL T B lf 18 2 ⟨⟨107, [(80, .rv (.cv ⟨.int .i64, t3⟩)), (79, .rv (.cv ⟨.int .i64, t2⟩)), (78, .rv (.cv ⟨.slice (.st yT), t⟩)), (11, .rv (.cv ⟨.int .i64, k⟩)), (6, .box 6 0), (5, .rv (.cv ⟨.int .i64, last⟩)), (2, .box 2 0), (1, .box 1 0)], gl⟩, [], [(1, .cells [⟨.int .i64, c⟩, ⟨.slice (.st yC), c2⟩]), (2, .cells [⟨.int .i64, t4⟩, ⟨.ref 0, t5⟩]), (6, .cells [⟨.int .i64, out⟩, ⟨.ref 1, out2⟩])], [⟨42, .st yC, 0, true, ([] : List (Option Cs))⟩, ⟨42, .st yR, 0, true, hp1⟩, ⟨44, .st yT, 0, true, hp2⟩, ⟨58, .st yT, 0, true, ([] : List Os)⟩, ⟨3, .int .i64, 0, true, ([] : List (Option (List Int)))⟩], ⟨.unit, ()⟩, [], T.sites 18⟩
def f3 (last : Int) (k : Int) (c : Int) (c2 : List Cl) (t : Int) (t2 : Nat) (out : Int) (out2 : Nat) (hp1 : List (Option (List Cn))) (hp2 : List Os) : Option ((Int × Cs × Unit) × Int) :=
 LL T B lf 18 1 ⟨⟨107, [(11, .rv (.cv ⟨.int .i64, k⟩)), (6, .box 6 0), (5, .rv (.cv ⟨.int .i64, last⟩)), (2, .box 2 0), (1, .box 1 0)], gl⟩, [], [(1, .cells [⟨.int .i64, c⟩, ⟨.slice (.st yC), c2⟩]), (2, .cells [⟨.int .i64, t⟩, ⟨.ref 0, t2⟩]), (6, .cells [⟨.int .i64, out⟩, ⟨.ref 1, out2⟩])], [⟨42, .st yC, 0, true, ([] : List (Option Cs))⟩, ⟨42, .st yR, 0, true, hp1⟩, ⟨44, .st yT, 0, true, hp2⟩, ⟨58, .st yT, 0, true, ([] : List Os)⟩, ⟨3, .int .i64, 0, true, ([] : List (Option (List Int)))⟩], ⟨.unit, ()⟩, [], T.sites 18⟩
def f4 (c : Int × Cs × Unit) : Option (Ts × Tm × Int) := evI T B lf 20 c
def f5 (l : Ts) (w : Int × Int × Unit) : Option (Bool) := evI T B lf 21 (l, w)
def f6 (a : Ts) (b : Ts) : Option (Bool) := evI T B lf 23 (a, b)
def f6_L0 (a : Ts) (b : Ts) (i : Int) : Option (Bool) :=
 LL T B lf 23 0 ⟨⟨26, [(5, .rv (.cv ⟨.int .i64, i⟩)), (1, .rv (.cv ⟨.slice (.st yT), b⟩)), (0, .rv (.cv ⟨.slice (.st yT), a⟩))], gl⟩, [], [], [⟨42, .st yC, 0, true, ([] : List (Option Cs))⟩, ⟨42, .st yR, 0, true, ([] : List (Option (List Cn)))⟩, ⟨44, .st yT, 0, true, ([] : List Os)⟩, ⟨58, .st yT, 0, true, ([] : List Os)⟩, ⟨3, .int .i64, 0, true, ([] : List (Option (List Int)))⟩], ⟨.unit, ()⟩, [], T.sites 23⟩
def f7 (c : Int × Cs × Unit) : Option (Ts × Tm × Int) := evI T B lf 24 c
def f8 (c : Int × Cs × Unit) : Option (Ts × Tm × Int) := evI T B lf 26 c
def f8_L0 (l : Nat) (last : Int) (t : Nat) (t2 : Int) (t3 : Int) (t4 : Int) (t5 : Int) (w : Int) (w2 : Int) (hp3 : List Os) : Option (Ts × Tm × Int) :=
 LL T B lf 26 0 ⟨⟨66, [(33, .rv (.cv ⟨.int .i64, t3⟩)), (32, .rv (.cv ⟨.int .i64, t2⟩)), (31, .rv (.cv ⟨.ref 3, t⟩)), (9, .rv (.cv ⟨.int .i64, last⟩)), (8, .box 8 0), (7, .rv (.cv ⟨.ref 3, l⟩)), (3, .box 3 0)], gl⟩, [], [(3, .cells [⟨.int .i64, t4⟩, ⟨.int .i64, t5⟩]), (8, .cells [⟨.int .i64, w⟩, ⟨.int .i64, w2⟩])], [⟨42, .st yC, 0, true, ([] : List (Option Cs))⟩, ⟨42, .st yR, 0, true, ([] : List (Option (List Cn)))⟩, ⟨44, .st yT, 0, true, ([] : List Os)⟩, ⟨58, .st yT, 0, true, hp3⟩, ⟨3, .int .i64, 0, true, ([] : List (Option (List Int)))⟩], ⟨.unit, ()⟩, [], T.sites 26⟩
def f9 : Option (Int × Cs × Unit) := evI T B lf 28 ()
def f10 (a : Ts) (b : Ts) : Option (Bool) := evI T B lf 30 (a, b)
def f10_L0 (a : Ts) (b : Ts) (i : Int) : Option (Bool) :=
 LL T B lf 30 0 ⟨⟨26, [(5, .rv (.cv ⟨.int .i64, i⟩)), (1, .rv (.cv ⟨.slice (.st yT), b⟩)), (0, .rv (.cv ⟨.slice (.st yT), a⟩))], gl⟩, [], [], [⟨42, .st yC, 0, true, ([] : List (Option Cs))⟩, ⟨42, .st yR, 0, true, ([] : List (Option (List Cn)))⟩, ⟨44, .st yT, 0, true, ([] : List Os)⟩, ⟨58, .st yT, 0, true, ([] : List Os)⟩, ⟨3, .int .i64, 0, true, ([] : List (Option (List Int)))⟩], ⟨.unit, ()⟩, [], T.sites 30⟩
def f11 (l : List Int) : Option Ts := evI T B lf 31 l
def f11_L0 (l : List Int) (i : Int) (out : Ts) : Option Ts :=
 LL T B lf 31 0 ⟨⟨26, [(4, .rv (.cv ⟨.int .i64, i⟩)), (3, .rv (.own 3)), (0, .rv (.cv ⟨.slice (.int .i64), l⟩))], gl⟩, [(3, ⟨44, .st yT, out⟩)], [], [⟨42, .st yC, 0, true, ([] : List (Option Cs))⟩, ⟨42, .st yR, 0, true, ([] : List (Option (List Cn)))⟩, ⟨44, .st yT, 0, true, ([] : List Os)⟩, ⟨58, .st yT, 0, true, ([] : List Os)⟩, ⟨3, .int .i64, 0, true, ([] : List (Option (List Int)))⟩], ⟨.unit, ()⟩, [], T.sites 31⟩
def f12 (f : List ((List Int) × ByteArray × Unit)) (p : Int) : Option ((Int × Cs × Unit) × Int) := evI T B lf 33 (f, p)
def f12_L0 (f : List ((List Int) × ByteArray × Unit)) (p : Int) (j : Int) (t : Int) (t2 : Nat) (out : Int) (out2 : Nat) : Option ((Int × Cs × Unit) × Int) :=
 LL T B lf 33 0 ⟨⟨93, [(8, .rv (.cv ⟨.int .i64, j⟩)), (7, .box 7 0), (4, .box 4 0), (1, .rv (.cv ⟨.int .i64, p⟩)), (0, .rv (.cv ⟨.slice (.st (.pair (.slice (.int .i64)) (.pair (.str) (.unit)))), f⟩))], gl⟩, [], [(4, .cells [⟨.int .i64, t⟩, ⟨.ref 0, t2⟩]), (7, .cells [⟨.int .i64, out⟩, ⟨.ref 0, out2⟩])], [⟨42, .st yC, 0, true, ([] : List (Option Cs))⟩, ⟨42, .st yR, 0, true, ([] : List (Option (List Cn)))⟩, ⟨44, .st yT, 0, true, ([] : List Os)⟩, ⟨58, .st yT, 0, true, ([] : List Os)⟩, ⟨3, .int .i64, 0, true, ([] : List (Option (List Int)))⟩], ⟨.unit, ()⟩, [], T.sites 33⟩
def f12_L1 (f : List ((List Int) × ByteArray × Unit)) (p : Int) (j : Int) (v : Nat) (facets : List (List Int)) (k : Int) (t : Int) (t2 : Nat) (out : Int) (out2 : Nat) (hp4 : List (Option (List Int))) : Option ((Int × Cs × Unit) × Int) :=
 LL T B lf 33 1 ⟨⟨93, [(11, .rv (.cv ⟨.int .i64, k⟩)), (10, .rv (.cv ⟨.slice (.slice (.int .i64)), facets⟩)), (9, .rv (.cv ⟨.ref 4, v⟩)), (8, .rv (.cv ⟨.int .i64, j⟩)), (7, .box 7 0), (4, .box 4 0), (1, .rv (.cv ⟨.int .i64, p⟩)), (0, .rv (.cv ⟨.slice (.st (.pair (.slice (.int .i64)) (.pair (.str) (.unit)))), f⟩))], gl⟩, [], [(4, .cells [⟨.int .i64, t⟩, ⟨.ref 0, t2⟩]), (7, .cells [⟨.int .i64, out⟩, ⟨.ref 0, out2⟩])], [⟨42, .st yC, 0, true, ([] : List (Option Cs))⟩, ⟨42, .st yR, 0, true, ([] : List (Option (List Cn)))⟩, ⟨44, .st yT, 0, true, ([] : List Os)⟩, ⟨58, .st yT, 0, true, ([] : List Os)⟩, ⟨3, .int .i64, 0, true, hp4⟩], ⟨.unit, ()⟩, [], T.sites 33⟩
def f12_L2 (f : List ((List Int) × ByteArray × Unit)) (p : Int) (j : Int) (v : Nat) (facets : List (List Int)) (k : Int) (i : Int) (t : Int) (t2 : Nat) (out : Int) (out2 : Nat) (hp4 : List (Option (List Int))) : Option ((Int × Cs × Unit) × Int) :=
 LL T B lf 33 2 ⟨⟨93, [(12, .rv (.cv ⟨.int .i64, i⟩)), (11, .rv (.cv ⟨.int .i64, k⟩)), (10, .rv (.cv ⟨.slice (.slice (.int .i64)), facets⟩)), (9, .rv (.cv ⟨.ref 4, v⟩)), (8, .rv (.cv ⟨.int .i64, j⟩)), (7, .box 7 0), (4, .box 4 0), (1, .rv (.cv ⟨.int .i64, p⟩)), (0, .rv (.cv ⟨.slice (.st (.pair (.slice (.int .i64)) (.pair (.str) (.unit)))), f⟩))], gl⟩, [], [(4, .cells [⟨.int .i64, t⟩, ⟨.ref 0, t2⟩]), (7, .cells [⟨.int .i64, out⟩, ⟨.ref 0, out2⟩])], [⟨42, .st yC, 0, true, ([] : List (Option Cs))⟩, ⟨42, .st yR, 0, true, ([] : List (Option (List Cn)))⟩, ⟨44, .st yT, 0, true, ([] : List Os)⟩, ⟨58, .st yT, 0, true, ([] : List Os)⟩, ⟨3, .int .i64, 0, true, hp4⟩], ⟨.unit, ()⟩, [], T.sites 33⟩
def f13 (f : List ((List Int) × ByteArray × Unit)) (p : Int) (j : Int) (t : Int) (t2 : Nat) (out : Int) (out2 : Nat) (hp0 : List (Option Cs)) (hp4 : List (Option (List Int))) : Option ((Int × Cs × Unit) × Int) :=
 LL T B lf 33 0 ⟨⟨93, [(8, .rv (.cv ⟨.int .i64, j⟩)), (7, .box 7 0), (4, .box 4 0), (1, .rv (.cv ⟨.int .i64, p⟩)), (0, .rv (.cv ⟨.slice (.st (.pair (.slice (.int .i64)) (.pair (.str) (.unit)))), f⟩))], gl⟩, [], [(4, .cells [⟨.int .i64, t⟩, ⟨.ref 0, t2⟩]), (7, .cells [⟨.int .i64, out⟩, ⟨.ref 0, out2⟩])], [⟨42, .st yC, 0, true, hp0⟩, ⟨42, .st yR, 0, true, ([] : List (Option (List Cn)))⟩, ⟨44, .st yT, 0, true, ([] : List Os)⟩, ⟨58, .st yT, 0, true, ([] : List Os)⟩, ⟨3, .int .i64, 0, true, hp4⟩], ⟨.unit, ()⟩, [], T.sites 33⟩
def f14 (f : List ((List Int) × ByteArray × Unit)) (p : Int) (j : Int) (v : Nat) (facets : List (List Int)) (k : Int) (t : Int) (t2 : Nat) (out : Int) (out2 : Nat) (hp0 : List (Option Cs)) (hp4 : List (Option (List Int))) : Option ((Int × Cs × Unit) × Int) :=
 LL T B lf 33 1 ⟨⟨93, [(11, .rv (.cv ⟨.int .i64, k⟩)), (10, .rv (.cv ⟨.slice (.slice (.int .i64)), facets⟩)), (9, .rv (.cv ⟨.ref 4, v⟩)), (8, .rv (.cv ⟨.int .i64, j⟩)), (7, .box 7 0), (4, .box 4 0), (1, .rv (.cv ⟨.int .i64, p⟩)), (0, .rv (.cv ⟨.slice (.st (.pair (.slice (.int .i64)) (.pair (.str) (.unit)))), f⟩))], gl⟩, [], [(4, .cells [⟨.int .i64, t⟩, ⟨.ref 0, t2⟩]), (7, .cells [⟨.int .i64, out⟩, ⟨.ref 0, out2⟩])], [⟨42, .st yC, 0, true, hp0⟩, ⟨42, .st yR, 0, true, ([] : List (Option (List Cn)))⟩, ⟨44, .st yT, 0, true, ([] : List Os)⟩, ⟨58, .st yT, 0, true, ([] : List Os)⟩, ⟨3, .int .i64, 0, true, hp4⟩], ⟨.unit, ()⟩, [], T.sites 33⟩
def f15 (f : List ((List Int) × ByteArray × Unit)) (p : Int) (j : Int) (v : Nat) (facets : List (List Int)) (k : Int) (i : Int) (t : Int) (t2 : Nat) (out : Int) (out2 : Nat) (hp0 : List (Option Cs)) (hp4 : List (Option (List Int))) : Option ((Int × Cs × Unit) × Int) :=
 LL T B lf 33 2 ⟨⟨93, [(12, .rv (.cv ⟨.int .i64, i⟩)), (11, .rv (.cv ⟨.int .i64, k⟩)), (10, .rv (.cv ⟨.slice (.slice (.int .i64)), facets⟩)), (9, .rv (.cv ⟨.ref 4, v⟩)), (8, .rv (.cv ⟨.int .i64, j⟩)), (7, .box 7 0), (4, .box 4 0), (1, .rv (.cv ⟨.int .i64, p⟩)), (0, .rv (.cv ⟨.slice (.st (.pair (.slice (.int .i64)) (.pair (.str) (.unit)))), f⟩))], gl⟩, [], [(4, .cells [⟨.int .i64, t⟩, ⟨.ref 0, t2⟩]), (7, .cells [⟨.int .i64, out⟩, ⟨.ref 0, out2⟩])], [⟨42, .st yC, 0, true, hp0⟩, ⟨42, .st yR, 0, true, ([] : List (Option (List Cn)))⟩, ⟨44, .st yT, 0, true, ([] : List Os)⟩, ⟨58, .st yT, 0, true, ([] : List Os)⟩, ⟨3, .int .i64, 0, true, hp4⟩], ⟨.unit, ()⟩, [], T.sites 33⟩
def f16 (p : Int) : Option (Bool) := evI T B lf 36 p
def f16_L0 (p : Int) (k : Int) : Option (Bool) :=
 LL T B lf 36 0 ⟨⟨23, [(3, .rv (.cv ⟨.int .i64, k⟩)), (0, .rv (.cv ⟨.int .i64, p⟩))], gl⟩, [], [], [⟨42, .st yC, 0, true, ([] : List (Option Cs))⟩, ⟨42, .st yR, 0, true, ([] : List (Option (List Cn)))⟩, ⟨44, .st yT, 0, true, ([] : List Os)⟩, ⟨58, .st yT, 0, true, ([] : List Os)⟩, ⟨3, .int .i64, 0, true, ([] : List (Option (List Int)))⟩], ⟨.unit, ()⟩, [], T.sites 36⟩
def f17 (c : Int × Cs × Unit) : Option (Int) := evI T B lf 41 c
def f17_L0 (t : List Cl) (t2 : Int) (t3 : Int) (c : Int) (c2 : List Cl) (last : Bool) (last2 : List Int) (last3 : Bool) (last4 : List Int) : Option (Int) :=
 LL T B lf 41 0 ⟨⟨81, [(20, .rv (.cv ⟨.int .i64, t3⟩)), (19, .rv (.cv ⟨.int .i64, t2⟩)), (18, .rv (.cv ⟨.slice (.st yC), t⟩)), (3, .box 3 0), (1, .box 1 0)], gl⟩, [], [(1, .cells [⟨.int .i64, c⟩, ⟨.slice (.st yC), c2⟩]), (3, .cells [⟨.bool, last⟩, ⟨.slice (.int .u32), last2⟩, ⟨.bool, last3⟩, ⟨.slice (.int .u32), last4⟩])], [⟨42, .st yC, 0, true, ([] : List (Option Cs))⟩, ⟨42, .st yR, 0, true, ([] : List (Option (List Cn)))⟩, ⟨44, .st yT, 0, true, ([] : List Os)⟩, ⟨58, .st yT, 0, true, ([] : List Os)⟩, ⟨3, .int .i64, 0, true, ([] : List (Option (List Int)))⟩], ⟨.unit, ()⟩, [], T.sites 41⟩
def f18 (a : ByteArray) : Option (((Bool × (List Int) × Unit) × (Bool × (List Int) × Unit) × Unit) × Bool) := evI T B lf 42 a
def f19 (a : (Bool × (List Int) × Unit) × (Bool × (List Int) × Unit) × Unit) : Option ((Bool × (List Int) × Unit) × (Bool × (List Int) × Unit) × Unit) := evI T B lf 43 a
def f20 (a : (Bool × (List Int) × Unit) × (Bool × (List Int) × Unit) × Unit) : Option (ByteArray) := evI T B lf 44 a
def f21 (x : Nat) (hp3 : List Os) : Option ((Unit) × (List Os)) := evI T B lf 50 ((x, ()), hp3)
def f22 (a : Int × Int × Unit) (b : Int × Int × Unit) : Option (Int) := evI T B lf 51 (a, b)
def f23 (f : List ((List Int) × ByteArray × Unit)) : Option (Int) := evI T B lf 57 f
def f23_L0 (f : List ((List Int) × ByteArray × Unit)) (i : Int) : Option (Int) :=
 LL T B lf 57 0 ⟨⟨59, [(3, .rv (.cv ⟨.int .i64, i⟩)), (0, .rv (.cv ⟨.slice (.st (.pair (.slice (.int .i64)) (.pair (.str) (.unit)))), f⟩))], gl⟩, [], [], [⟨42, .st yC, 0, true, ([] : List (Option Cs))⟩, ⟨42, .st yR, 0, true, ([] : List (Option (List Cn)))⟩, ⟨44, .st yT, 0, true, ([] : List Os)⟩, ⟨58, .st yT, 0, true, ([] : List Os)⟩, ⟨3, .int .i64, 0, true, ([] : List (Option (List Int)))⟩], ⟨.unit, ()⟩, [], T.sites 57⟩
def f23_L1 (f : List ((List Int) × ByteArray × Unit)) (i : Int) (facets : List (List Int)) (k : Int) : Option (Int) :=
 LL T B lf 57 1 ⟨⟨59, [(6, .rv (.cv ⟨.int .i64, k⟩)), (5, .rv (.cv ⟨.slice (.slice (.int .i64)), facets⟩)), (3, .rv (.cv ⟨.int .i64, i⟩)), (0, .rv (.cv ⟨.slice (.st (.pair (.slice (.int .i64)) (.pair (.str) (.unit)))), f⟩))], gl⟩, [], [], [⟨42, .st yC, 0, true, ([] : List (Option Cs))⟩, ⟨42, .st yR, 0, true, ([] : List (Option (List Cn)))⟩, ⟨44, .st yT, 0, true, ([] : List Os)⟩, ⟨58, .st yT, 0, true, ([] : List Os)⟩, ⟨3, .int .i64, 0, true, ([] : List (Option (List Int)))⟩], ⟨.unit, ()⟩, [], T.sites 57⟩
def f24 (s : List Int) : Option (List (List Int)) := evI T B lf 58 s
def f24_L0 (s : List Int) (i : Int) (out : List (List Int)) : Option (List (List Int)) :=
 LL T B lf 58 0 ⟨⟨23, [(4, .rv (.cv ⟨.int .i64, i⟩)), (3, .rv (.own 3)), (0, .rv (.cv ⟨.slice (.int .i64), s⟩))], gl⟩, [(3, ⟨26, .slice (.int .i64), out⟩)], [], [⟨42, .st yC, 0, true, ([] : List (Option Cs))⟩, ⟨42, .st yR, 0, true, ([] : List (Option (List Cn)))⟩, ⟨44, .st yT, 0, true, ([] : List Os)⟩, ⟨58, .st yT, 0, true, ([] : List Os)⟩, ⟨3, .int .i64, 0, true, ([] : List (Option (List Int)))⟩], ⟨.unit, ()⟩, [], T.sites 58⟩
def f25 (a : List Int) (b : List Int) : Option (Int) := evI T B lf 59 (a, b)
def f25_L0 (a : List Int) (b : List Int) (i : Int) : Option (Int) :=
 LL T B lf 59 0 ⟨⟨40, [(5, .rv (.cv ⟨.int .i64, i⟩)), (1, .rv (.cv ⟨.slice (.int .i64), b⟩)), (0, .rv (.cv ⟨.slice (.int .i64), a⟩))], gl⟩, [], [], [⟨42, .st yC, 0, true, ([] : List (Option Cs))⟩, ⟨42, .st yR, 0, true, ([] : List (Option (List Cn)))⟩, ⟨44, .st yT, 0, true, ([] : List Os)⟩, ⟨58, .st yT, 0, true, ([] : List Os)⟩, ⟨3, .int .i64, 0, true, ([] : List (Option (List Int)))⟩], ⟨.unit, ()⟩, [], T.sites 59⟩
def f26 (a : ByteArray) : Option (Bool) := evI T B lf 61 a
def f27 (a : ByteArray) (b : ByteArray) : Option (Int) := evI T B lf 64 (a, b)
def f28 (a : ByteArray) : Option (ByteArray × ByteArray × Bool) := evI T B lf 65 a
def f28_L0 (a : ByteArray) (i : Int) : Option (ByteArray × ByteArray × Bool) :=
 LL T B lf 65 0 ⟨⟨24, [(5, .rv (.cv ⟨.int .i64, i⟩)), (0, .rv (.cv ⟨.str, a⟩))], gl⟩, [], [], [⟨42, .st yC, 0, true, ([] : List (Option Cs))⟩, ⟨42, .st yR, 0, true, ([] : List (Option (List Cn)))⟩, ⟨44, .st yT, 0, true, ([] : List Os)⟩, ⟨58, .st yT, 0, true, ([] : List Os)⟩, ⟨3, .int .i64, 0, true, ([] : List (Option (List Int)))⟩], ⟨.unit, ()⟩, [], T.sites 65⟩
def f29 (a : ByteArray) : Option (ByteArray) := evI T B lf 66 a
def f30 (p : Int) : Option (Bool) := evI T B lf 67 p
def f30_L0 (p : Int) (t : Int) : Option (Bool) :=
 LL T B lf 67 0 ⟨⟨27, [(4, .rv (.cv ⟨.int .i64, t⟩)), (0, .rv (.cv ⟨.int .i64, p⟩))], gl⟩, [], [], [⟨42, .st yC, 0, true, ([] : List (Option Cs))⟩, ⟨42, .st yR, 0, true, ([] : List (Option (List Cn)))⟩, ⟨44, .st yT, 0, true, ([] : List Os)⟩, ⟨58, .st yT, 0, true, ([] : List Os)⟩, ⟨3, .int .i64, 0, true, ([] : List (Option (List Int)))⟩], ⟨.unit, ()⟩, [], T.sites 67⟩
def f31 (a : ByteArray) : Option (Bool) := evI T B lf 68 a
def f32 (p : Int) (c : Ts) : Option (Int) := evI T B lf 69 (p, c)
def f32_L0 (p : Int) (c : Ts) (t : Ts) (t2 : Int) (t3 : Int) : Option (Int) :=
 LL T B lf 69 0 ⟨⟨52, [(12, .rv (.cv ⟨.int .i64, t3⟩)), (11, .rv (.cv ⟨.int .i64, t2⟩)), (10, .rv (.cv ⟨.slice (.st yT), t⟩)), (1, .rv (.cv ⟨.slice (.st yT), c⟩)), (0, .rv (.cv ⟨.int .i64, p⟩))], gl⟩, [], [], [⟨42, .st yC, 0, true, ([] : List (Option Cs))⟩, ⟨42, .st yR, 0, true, ([] : List (Option (List Cn)))⟩, ⟨44, .st yT, 0, true, ([] : List Os)⟩, ⟨58, .st yT, 0, true, ([] : List Os)⟩, ⟨3, .int .i64, 0, true, ([] : List (Option (List Int)))⟩], ⟨.unit, ()⟩, [], T.sites 69⟩
def f33 (t : Int × Int × Unit) (t2 : Int) : Option (Bool) := evI T B lf 71 (t, t2)
def f34 (t : Int × Int × Unit) (t2 : Int × Cs × Unit) (t3 : Int × ByteArray × Ts × Unit) : Option (Bool) := evI T B lf 72 (t, t2, t3)
def f35 (c : Int × Cs × Unit) (x : Ts) : Option Ts := evI T B lf 73 (c, x)
def f35_L0 (t : Ts) (t2 : Int) (t3 : Int) (out : Ts) (c : Int) (c2 : List Cl) : Option Ts :=
 LL T B lf 73 0 ⟨⟨31, [(9, .rv (.cv ⟨.int .i64, t3⟩)), (8, .rv (.cv ⟨.int .i64, t2⟩)), (7, .rv (.cv ⟨.slice (.st yT), t⟩)), (4, .rv (.own 4)), (2, .box 2 0)], gl⟩, [(4, ⟨44, .st yT, out⟩)], [(2, .cells [⟨.int .i64, c⟩, ⟨.slice (.st yC), c2⟩])], [⟨42, .st yC, 0, true, ([] : List (Option Cs))⟩, ⟨42, .st yR, 0, true, ([] : List (Option (List Cn)))⟩, ⟨44, .st yT, 0, true, ([] : List Os)⟩, ⟨58, .st yT, 0, true, ([] : List Os)⟩, ⟨3, .int .i64, 0, true, ([] : List (Option (List Int)))⟩], ⟨.unit, ()⟩, [], T.sites 73⟩
def f36 (out : Ts) (t : Ts) (t2 : Int) (t3 : Int) (c : Int) (c2 : List Cl) : Option Ts :=
 LL T B lf 73 0 ⟨⟨31, [(9, .rv (.cv ⟨.int .i64, t3⟩)), (8, .rv (.cv ⟨.int .i64, t2⟩)), (7, .rv (.cv ⟨.slice (.st yT), t⟩)), (4, .rv (.cv ⟨.slice (.st yT), out⟩)), (2, .box 2 0)], gl⟩, [], [(2, .cells [⟨.int .i64, c⟩, ⟨.slice (.st yC), c2⟩])], [⟨42, .st yC, 0, true, ([] : List (Option Cs))⟩, ⟨42, .st yR, 0, true, ([] : List (Option (List Cn)))⟩, ⟨44, .st yT, 0, true, ([] : List Os)⟩, ⟨58, .st yT, 0, true, ([] : List Os)⟩, ⟨3, .int .i64, 0, true, ([] : List (Option (List Int)))⟩], ⟨.unit, ()⟩, [], T.sites 73⟩
def f37 (a : (Bool × (List Int) × Unit) × (Bool × (List Int) × Unit) × Unit) (b : (Bool × (List Int) × Unit) × (Bool × (List Int) × Unit) × Unit) : Option (Int) := evI T B lf 74 (a, b)
def f38 (s : ByteArray) (sep : ByteArray) : Option (ByteArray × ByteArray × Bool) := evI T B lf 75 (s, sep)
def f39 (a : ByteArray) : Option ((Bool × (List Int) × Unit) × Bool) := evI T B lf 76 a
def f39_L0 (s : ByteArray) (neg : Bool) (end0 : Int) (d : List Int) (t : Bool) (t2 : List Int) : Option ((Bool × (List Int) × Unit) × Bool) :=
 LL T B lf 76 0 ⟨⟨71, [(7, .rv (.cv ⟨.int .i64, end0⟩)), (6, .rv (.own 6)), (5, .rv (.cv ⟨.bool, neg⟩)), (4, .rv (.cv ⟨.str, s⟩)), (2, .box 2 0)], gl⟩, [(6, ⟨168, .int .u32, d⟩)], [(2, .cells [⟨.bool, t⟩, ⟨.slice (.int .u32), t2⟩])], [⟨42, .st yC, 0, true, ([] : List (Option Cs))⟩, ⟨42, .st yR, 0, true, ([] : List (Option (List Cn)))⟩, ⟨44, .st yT, 0, true, ([] : List Os)⟩, ⟨58, .st yT, 0, true, ([] : List Os)⟩, ⟨3, .int .i64, 0, true, ([] : List (Option (List Int)))⟩], ⟨.unit, ()⟩, [], T.sites 76⟩
def f39_L1 (s : ByteArray) (neg : Bool) (end0 : Int) (x : Int) (t : List Int) (t2 : Int) (t3 : Int) (d : List Int) (t4 : Bool) (t5 : List Int) : Option ((Bool × (List Int) × Unit) × Bool) :=
 LL T B lf 76 1 ⟨⟨71, [(46, .rv (.cv ⟨.int .i64, t3⟩)), (45, .rv (.cv ⟨.int .i64, t2⟩)), (44, .rv (.cv ⟨.slice (.int .u8), t⟩)), (8, .rv (.cv ⟨.int .u32, x⟩)), (7, .rv (.cv ⟨.int .i64, end0⟩)), (6, .rv (.own 6)), (5, .rv (.cv ⟨.bool, neg⟩)), (4, .rv (.cv ⟨.str, s⟩)), (2, .box 2 0)], gl⟩, [(6, ⟨168, .int .u32, d⟩)], [(2, .cells [⟨.bool, t4⟩, ⟨.slice (.int .u32), t5⟩])], [⟨42, .st yC, 0, true, ([] : List (Option Cs))⟩, ⟨42, .st yR, 0, true, ([] : List (Option (List Cn)))⟩, ⟨44, .st yT, 0, true, ([] : List Os)⟩, ⟨58, .st yT, 0, true, ([] : List Os)⟩, ⟨3, .int .i64, 0, true, ([] : List (Option (List Int)))⟩], ⟨.unit, ()⟩, [], T.sites 76⟩
def f40 (n : Int) : Option (Bool × (List Int) × Unit) := evI T B lf 77 n
def f40_L0 (u : Int) (neg : Bool) (d : List Int) (t : Bool) (t2 : List Int) : Option (Bool × (List Int) × Unit) :=
 LL T B lf 77 0 ⟨⟨26, [(5, .rv (.own 5)), (4, .rv (.cv ⟨.bool, neg⟩)), (3, .rv (.cv ⟨.int .u64, u⟩)), (2, .box 2 0)], gl⟩, [(5, ⟨168, .int .u32, d⟩)], [(2, .cells [⟨.bool, t⟩, ⟨.slice (.int .u32), t2⟩])], [⟨42, .st yC, 0, true, ([] : List (Option Cs))⟩, ⟨42, .st yR, 0, true, ([] : List (Option (List Cn)))⟩, ⟨44, .st yT, 0, true, ([] : List Os)⟩, ⟨58, .st yT, 0, true, ([] : List Os)⟩, ⟨3, .int .i64, 0, true, ([] : List (Option (List Int)))⟩], ⟨.unit, ()⟩, [], T.sites 77⟩
def f41 (a : Bool × (List Int) × Unit) : Option (Int) := evI T B lf 78 a
def f42 (a : Bool × (List Int) × Unit) (b : Bool × (List Int) × Unit) : Option (Int) := evI T B lf 79 (a, b)
def f43 (a : Bool × (List Int) × Unit) (b : Bool × (List Int) × Unit) : Option (Bool × (List Int) × Unit) := evI T B lf 80 (a, b)
def f43_L0 (x : List Int) (y : List Int) (t : Bool) (t2 : List Int) : Option (Bool × (List Int) × Unit) :=
 LL T B lf 80 0 ⟨⟨41, [(6, .rv (.cv ⟨.slice (.int .u32), y⟩)), (5, .rv (.cv ⟨.slice (.int .u32), x⟩)), (4, .box 4 0)], gl⟩, [], [(4, .cells [⟨.bool, t⟩, ⟨.slice (.int .u32), t2⟩])], [⟨42, .st yC, 0, true, ([] : List (Option Cs))⟩, ⟨42, .st yR, 0, true, ([] : List (Option (List Cn)))⟩, ⟨44, .st yT, 0, true, ([] : List Os)⟩, ⟨58, .st yT, 0, true, ([] : List Os)⟩, ⟨3, .int .i64, 0, true, ([] : List (Option (List Int)))⟩], ⟨.unit, ()⟩, [], T.sites 80⟩
def f44 (a : Bool × (List Int) × Unit) : Option (Bool × (List Int) × Unit) := evI T B lf 81 a
def f45 (a : (Bool × (List Int) × Unit) × (Bool × (List Int) × Unit) × Unit) : Option (Bool × (List Int) × Unit) := evI T B lf 82 a
def f46 (a : Bool × (List Int) × Unit) : Option (ByteArray) := evI T B lf 83 a
def f46_L0 (t : List Int) (t2 : Int) (t3 : Int) (out : List Int) (a : Bool) (a2 : List Int) : Option (ByteArray) :=
 LL T B lf 83 0 ⟨⟨81, [(21, .rv (.cv ⟨.int .i64, t3⟩)), (20, .rv (.cv ⟨.int .i64, t2⟩)), (19, .rv (.cv ⟨.slice (.int .u32), t⟩)), (3, .rv (.own 3)), (1, .box 1 0)], gl⟩, [(3, ⟨5, .int .u8, out⟩)], [(1, .cells [⟨.bool, a⟩, ⟨.slice (.int .u32), a2⟩])], [⟨42, .st yC, 0, true, ([] : List (Option Cs))⟩, ⟨42, .st yR, 0, true, ([] : List (Option (List Cn)))⟩, ⟨44, .st yT, 0, true, ([] : List Os)⟩, ⟨58, .st yT, 0, true, ([] : List Os)⟩, ⟨3, .int .i64, 0, true, ([] : List (Option (List Int)))⟩], ⟨.unit, ()⟩, [], T.sites 83⟩
def f46_L1 (x : Int) (t : List Int) (t2 : Int) (t3 : Int) (t4 : Int) (out : List Int) (a : Bool) (a2 : List Int) : Option (ByteArray) :=
 LL T B lf 83 1 ⟨⟨81, [(25, .rv (.cv ⟨.int .i64, t4⟩)), (21, .rv (.cv ⟨.int .i64, t3⟩)), (20, .rv (.cv ⟨.int .i64, t2⟩)), (19, .rv (.cv ⟨.slice (.int .u32), t⟩)), (5, .rv (.cv ⟨.int .u32, x⟩)), (3, .rv (.own 3)), (1, .box 1 0)], gl⟩, [(3, ⟨5, .int .u8, out⟩)], [(1, .cells [⟨.bool, a⟩, ⟨.slice (.int .u32), a2⟩])], [⟨42, .st yC, 0, true, ([] : List (Option Cs))⟩, ⟨42, .st yR, 0, true, ([] : List (Option (List Cn)))⟩, ⟨44, .st yT, 0, true, ([] : List Os)⟩, ⟨58, .st yT, 0, true, ([] : List Os)⟩, ⟨3, .int .i64, 0, true, ([] : List (Option (List Int)))⟩], ⟨.unit, ()⟩, [], T.sites 83⟩
def f46_L2 (out : List Int) (a : Bool) (a2 : List Int) : Option (ByteArray) :=
 LL T B lf 83 2 ⟨⟨81, [(3, .rv (.own 3)), (1, .box 1 0)], gl⟩, [(3, ⟨5, .int .u8, out⟩)], [(1, .cells [⟨.bool, a⟩, ⟨.slice (.int .u32), a2⟩])], [⟨42, .st yC, 0, true, ([] : List (Option Cs))⟩, ⟨42, .st yR, 0, true, ([] : List (Option (List Cn)))⟩, ⟨44, .st yT, 0, true, ([] : List Os)⟩, ⟨58, .st yT, 0, true, ([] : List Os)⟩, ⟨3, .int .i64, 0, true, ([] : List (Option (List Int)))⟩], ⟨.unit, ()⟩, [], T.sites 83⟩
def f46_L3 (i : Int) (j : Int) (out : List Int) : Option (ByteArray) :=
 LL T B lf 83 3 ⟨⟨81, [(7, .rv (.cv ⟨.int .i64, j⟩)), (6, .rv (.cv ⟨.int .i64, i⟩)), (3, .rv (.own 3))], gl⟩, [(3, ⟨5, .int .u8, out⟩)], [], [⟨42, .st yC, 0, true, ([] : List (Option Cs))⟩, ⟨42, .st yR, 0, true, ([] : List (Option (List Cn)))⟩, ⟨44, .st yT, 0, true, ([] : List Os)⟩, ⟨58, .st yT, 0, true, ([] : List Os)⟩, ⟨3, .int .i64, 0, true, ([] : List (Option (List Int)))⟩], ⟨.unit, ()⟩, [], T.sites 83⟩
def f47 (s : Ts) : Option Ts := evI T B lf 84 s
def f48 (c : Ts) : Option (Int × Bool) := evI T B lf 85 c
def f49 (p : Int) (a : Int) : Option (Int × Int) := evI T B lf 86 (p, a)
def f50 (p : Int) (a : Ts) (k : Int) (b : Ts) : Option (Ts × Int) := evI T B lf 87 (p, a, k, b)
def f51 (p : Int) (a : Int) : Option (Int) := evI T B lf 88 (p, a)
def f52 (data : Nat) (a : Int) (b : Int) (limit : Int) (hp3 : List Os) : Option ((Unit) × (List Os)) := evI T B lf 90 ((data, a, b, limit, ()), hp3)
def f52_L0 (data : Nat) (a : Int) (b : Int) (limit : Int) (wasBalanced : Bool) (wasPartitioned : Bool) (hp3 : List Os) : Option ((Unit) × (List Os)) :=
 LL T B lf 90 0 ⟨⟨148, [(11, .rv (.cv ⟨.bool, wasPartitioned⟩)), (10, .rv (.cv ⟨.bool, wasBalanced⟩)), (4, .fn 51 []), (3, .rv (.cv ⟨.int .i64, limit⟩)), (2, .rv (.cv ⟨.int .i64, b⟩)), (1, .rv (.cv ⟨.int .i64, a⟩)), (0, .rv (.cv ⟨.ref 3, data⟩))], gl⟩, [], [], [⟨42, .st yC, 0, true, ([] : List (Option Cs))⟩, ⟨42, .st yR, 0, true, ([] : List (Option (List Cn)))⟩, ⟨44, .st yT, 0, true, ([] : List Os)⟩, ⟨58, .st yT, 0, true, hp3⟩, ⟨3, .int .i64, 0, true, ([] : List (Option (List Int)))⟩], ⟨.unit, ()⟩, [], T.sites 90⟩
def f53 (x : Int) : Option (Int) := evI T B lf 91 x
def f54 (f : List ((List Int) × ByteArray × Unit)) (i : Int) : Option (Int) := evI T B lf 99 (f, i)
def f55 (f : List ((List Int) × ByteArray × Unit)) (n : Int) (s : List Int) : Option (Int) := evI T B lf 100 (f, n, s)
def f55_L0 (f : List ((List Int) × ByteArray × Unit)) (n : Int) (s : List Int) (i : Int) : Option (Int) :=
 LL T B lf 100 0 ⟨⟨22, [(7, .rv (.cv ⟨.int .i64, i⟩)), (2, .rv (.cv ⟨.slice (.int .i64), s⟩)), (1, .rv (.cv ⟨.int .i64, n⟩)), (0, .rv (.cv ⟨.slice (.st (.pair (.slice (.int .i64)) (.pair (.str) (.unit)))), f⟩))], gl⟩, [], [], [⟨42, .st yC, 0, true, ([] : List (Option Cs))⟩, ⟨42, .st yR, 0, true, ([] : List (Option (List Cn)))⟩, ⟨44, .st yT, 0, true, ([] : List Os)⟩, ⟨58, .st yT, 0, true, ([] : List Os)⟩, ⟨3, .int .i64, 0, true, ([] : List (Option (List Int)))⟩], ⟨.unit, ()⟩, [], T.sites 100⟩
def f56 (s : List Int) (k : Int) : Option (List Int) := evI T B lf 101 (s, k)
def f56_L0 (s : List Int) (k : Int) (i : Int) (out : List Int) : Option (List Int) :=
 LL T B lf 101 0 ⟨⟨24, [(6, .rv (.cv ⟨.int .i64, i⟩)), (5, .rv (.own 5)), (1, .rv (.cv ⟨.int .i64, k⟩)), (0, .rv (.cv ⟨.slice (.int .i64), s⟩))], gl⟩, [(5, ⟨3, .int .i64, out⟩)], [], [⟨42, .st yC, 0, true, ([] : List (Option Cs))⟩, ⟨42, .st yR, 0, true, ([] : List (Option (List Cn)))⟩, ⟨44, .st yT, 0, true, ([] : List Os)⟩, ⟨58, .st yT, 0, true, ([] : List Os)⟩, ⟨3, .int .i64, 0, true, ([] : List (Option (List Int)))⟩], ⟨.unit, ()⟩, [], T.sites 101⟩
def f57 (a : ByteArray) : Option (Bool) := evI T B lf 102 a
def f58 (a : ByteArray) : Option (Bool) := evI T B lf 103 a
def f59 (a : ByteArray) (b : ByteArray) : Option (Int) := evI T B lf 104 (a, b)
def f60 (a : ByteArray) (b : ByteArray) : Option (ByteArray) := evI T B lf 105 (a, b)
def f60_L0 (p : Bool) (x : List Int) (q : Bool) (y : List Int) (i : Int) (out : List Int) : Option (ByteArray) :=
 LL T B lf 105 0 ⟨⟨120, [(14, .rv (.cv ⟨.int .i64, i⟩)), (13, .rv (.own 13)), (12, .rv (.cv ⟨.slice (.int .i64), y⟩)), (11, .rv (.cv ⟨.bool, q⟩)), (10, .rv (.cv ⟨.slice (.int .i64), x⟩)), (9, .rv (.cv ⟨.bool, p⟩))], gl⟩, [(13, ⟨3, .int .i64, out⟩)], [], [⟨42, .st yC, 0, true, ([] : List (Option Cs))⟩, ⟨42, .st yR, 0, true, ([] : List (Option (List Cn)))⟩, ⟨44, .st yT, 0, true, ([] : List Os)⟩, ⟨58, .st yT, 0, true, ([] : List Os)⟩, ⟨3, .int .i64, 0, true, ([] : List (Option (List Int)))⟩], ⟨.unit, ()⟩, [], T.sites 105⟩
def f60_L1 (p : Bool) (x : List Int) (q : Bool) (y : List Int) (i : Int) (k : Int) (out : List Int) : Option (ByteArray) :=
 LL T B lf 105 1 ⟨⟨120, [(15, .rv (.cv ⟨.int .i64, k⟩)), (14, .rv (.cv ⟨.int .i64, i⟩)), (13, .rv (.own 13)), (12, .rv (.cv ⟨.slice (.int .i64), y⟩)), (11, .rv (.cv ⟨.bool, q⟩)), (10, .rv (.cv ⟨.slice (.int .i64), x⟩)), (9, .rv (.cv ⟨.bool, p⟩))], gl⟩, [(13, ⟨3, .int .i64, out⟩)], [], [⟨42, .st yC, 0, true, ([] : List (Option Cs))⟩, ⟨42, .st yR, 0, true, ([] : List (Option (List Cn)))⟩, ⟨44, .st yT, 0, true, ([] : List Os)⟩, ⟨58, .st yT, 0, true, ([] : List Os)⟩, ⟨3, .int .i64, 0, true, ([] : List (Option (List Int)))⟩], ⟨.unit, ()⟩, [], T.sites 105⟩
def f60_L2 (p : Bool) (q : Bool) (i : Int) (out : List Int) : Option (ByteArray) :=
 LL T B lf 105 2 ⟨⟨120, [(16, .rv (.cv ⟨.int .i64, i⟩)), (13, .rv (.own 13)), (11, .rv (.cv ⟨.bool, q⟩)), (9, .rv (.cv ⟨.bool, p⟩))], gl⟩, [(13, ⟨3, .int .i64, out⟩)], [], [⟨42, .st yC, 0, true, ([] : List (Option Cs))⟩, ⟨42, .st yR, 0, true, ([] : List (Option (List Cn)))⟩, ⟨44, .st yT, 0, true, ([] : List Os)⟩, ⟨58, .st yT, 0, true, ([] : List Os)⟩, ⟨3, .int .i64, 0, true, ([] : List (Option (List Int)))⟩], ⟨.unit, ()⟩, [], T.sites 105⟩
def f61 (a : ByteArray) : Option (Bool × List Int) := evI T B lf 106 a
def f61_L0 (a : ByteArray) (minus : Bool) (i : Int) (d : List Int) : Option (Bool × List Int) :=
 LL T B lf 106 0 ⟨⟨37, [(6, .rv (.cv ⟨.int .i64, i⟩)), (5, .rv (.own 5)), (4, .rv (.cv ⟨.bool, minus⟩)), (0, .rv (.cv ⟨.str, a⟩))], gl⟩, [(5, ⟨3, .int .i64, d⟩)], [], [⟨42, .st yC, 0, true, ([] : List (Option Cs))⟩, ⟨42, .st yR, 0, true, ([] : List (Option (List Cn)))⟩, ⟨44, .st yT, 0, true, ([] : List Os)⟩, ⟨58, .st yT, 0, true, ([] : List Os)⟩, ⟨3, .int .i64, 0, true, ([] : List (Option (List Int)))⟩], ⟨.unit, ()⟩, [], T.sites 106⟩
def f62 (minus : Bool) (d : List Int) : Option (ByteArray) := evI T B lf 107 (minus, d)
def f62_L0 (d : List Int) (i : Int) (out : List Int) : Option (ByteArray) :=
 LL T B lf 107 0 ⟨⟨34, [(6, .rv (.cv ⟨.int .i64, i⟩)), (5, .rv (.own 5)), (1, .rv (.cv ⟨.slice (.int .i64), d⟩))], gl⟩, [(5, ⟨5, .int .u8, out⟩)], [], [⟨42, .st yC, 0, true, ([] : List (Option Cs))⟩, ⟨42, .st yR, 0, true, ([] : List (Option (List Cn)))⟩, ⟨44, .st yT, 0, true, ([] : List Os)⟩, ⟨58, .st yT, 0, true, ([] : List Os)⟩, ⟨3, .int .i64, 0, true, ([] : List (Option (List Int)))⟩], ⟨.unit, ()⟩, [], T.sites 107⟩
def f63 (a : ByteArray) : Option (((Bool × (List Int) × Unit) × (Bool × (List Int) × Unit) × Unit) × Bool) := evI T B lf 108 a
def f64 (a : Bool × (List Int) × Unit) (b : Bool × (List Int) × Unit) : Option (Bool × (List Int) × Unit) := evI T B lf 110 (a, b)
def f64_L0 (t : List Int) (t2 : Int) (t3 : Int) (out : List Int) (a : Bool) (a2 : List Int) (b : Bool) (b2 : List Int) (t4 : Bool) (t5 : List Int) : Option (Bool × (List Int) × Unit) :=
 LL T B lf 110 0 ⟨⟨78, [(22, .rv (.cv ⟨.int .i64, t3⟩)), (21, .rv (.cv ⟨.int .i64, t2⟩)), (20, .rv (.cv ⟨.slice (.int .u32), t⟩)), (5, .rv (.own 5)), (4, .box 4 0), (3, .box 3 0), (2, .box 2 0)], gl⟩, [(5, ⟨168, .int .u32, out⟩)], [(2, .cells [⟨.bool, a⟩, ⟨.slice (.int .u32), a2⟩]), (3, .cells [⟨.bool, b⟩, ⟨.slice (.int .u32), b2⟩]), (4, .cells [⟨.bool, t4⟩, ⟨.slice (.int .u32), t5⟩])], [⟨42, .st yC, 0, true, ([] : List (Option Cs))⟩, ⟨42, .st yR, 0, true, ([] : List (Option (List Cn)))⟩, ⟨44, .st yT, 0, true, ([] : List Os)⟩, ⟨58, .st yT, 0, true, ([] : List Os)⟩, ⟨3, .int .i64, 0, true, ([] : List (Option (List Int)))⟩], ⟨.unit, ()⟩, [], T.sites 110⟩
def f64_L1 (i : Int) (x : Int) (carry : Int) (t : List Int) (t2 : Int) (t3 : Int) (t4 : List Int) (t5 : Int) (t6 : Int) (out : List Int) (a : Bool) (a2 : List Int) (b : Bool) (b2 : List Int) (t7 : Bool) (t8 : List Int) : Option (Bool × (List Int) × Unit) :=
 LL T B lf 110 1 ⟨⟨78, [(30, .rv (.cv ⟨.int .i64, t6⟩)), (29, .rv (.cv ⟨.int .i64, t5⟩)), (28, .rv (.cv ⟨.slice (.int .u32), t4⟩)), (22, .rv (.cv ⟨.int .i64, t3⟩)), (21, .rv (.cv ⟨.int .i64, t2⟩)), (20, .rv (.cv ⟨.slice (.int .u32), t⟩)), (8, .rv (.cv ⟨.int .u64, carry⟩)), (7, .rv (.cv ⟨.int .u32, x⟩)), (6, .rv (.cv ⟨.int .i64, i⟩)), (5, .rv (.own 5)), (4, .box 4 0), (3, .box 3 0), (2, .box 2 0)], gl⟩, [(5, ⟨168, .int .u32, out⟩)], [(2, .cells [⟨.bool, a⟩, ⟨.slice (.int .u32), a2⟩]), (3, .cells [⟨.bool, b⟩, ⟨.slice (.int .u32), b2⟩]), (4, .cells [⟨.bool, t7⟩, ⟨.slice (.int .u32), t8⟩])], [⟨42, .st yC, 0, true, ([] : List (Option Cs))⟩, ⟨42, .st yR, 0, true, ([] : List (Option (List Cn)))⟩, ⟨44, .st yT, 0, true, ([] : List Os)⟩, ⟨58, .st yT, 0, true, ([] : List Os)⟩, ⟨3, .int .i64, 0, true, ([] : List (Option (List Int)))⟩], ⟨.unit, ()⟩, [], T.sites 110⟩
def f65 (s : ByteArray) (sep : ByteArray) : Option (ByteArray × ByteArray × Bool) := evI T B lf 111 (s, sep)
def f66 (s : ByteArray) (prefix0 : ByteArray) : Option (ByteArray × Bool) := evI T B lf 112 (s, prefix0)
def f67 (neg : Bool) (d : List Int) : Option (Bool × (List Int) × Unit) := evI T B lf 113 (neg, d)
def f68 (a : List Int) (b : List Int) : Option (Int) := evI T B lf 114 (a, b)
def f68_L0 (a : List Int) (b : List Int) (i : Int) : Option (Int) :=
 LL T B lf 114 0 ⟨⟨41, [(5, .rv (.cv ⟨.int .i64, i⟩)), (1, .rv (.cv ⟨.slice (.int .u32), b⟩)), (0, .rv (.cv ⟨.slice (.int .u32), a⟩))], gl⟩, [], [], [⟨42, .st yC, 0, true, ([] : List (Option Cs))⟩, ⟨42, .st yR, 0, true, ([] : List (Option (List Cn)))⟩, ⟨44, .st yT, 0, true, ([] : List Os)⟩, ⟨58, .st yT, 0, true, ([] : List Os)⟩, ⟨3, .int .i64, 0, true, ([] : List (Option (List Int)))⟩], ⟨.unit, ()⟩, [], T.sites 114⟩
def f69 (x : Int) (y : Int) : Option (Int) := evI T B lf 115 (x, y)
def f69_L0 (x : Int) (y : Int) : Option (Int) :=
 LL T B lf 115 0 ⟨⟨12, [(1, .rv (.cv ⟨.int .i64, y⟩)), (0, .rv (.cv ⟨.int .i64, x⟩))], gl⟩, [], [], [⟨42, .st yC, 0, true, ([] : List (Option Cs))⟩, ⟨42, .st yR, 0, true, ([] : List (Option (List Cn)))⟩, ⟨44, .st yT, 0, true, ([] : List Os)⟩, ⟨58, .st yT, 0, true, ([] : List Os)⟩, ⟨3, .int .i64, 0, true, ([] : List (Option (List Int)))⟩], ⟨.unit, ()⟩, [], T.sites 115⟩
def f70 (d : List Int) : Option (Int) := evI T B lf 116 d
def f70_L0 (d : List Int) (n : Int) (i : Int) : Option (Int) :=
 LL T B lf 116 0 ⟨⟨21, [(4, .rv (.cv ⟨.int .i64, i⟩)), (3, .rv (.cv ⟨.int .i64, n⟩)), (0, .rv (.cv ⟨.slice (.int .u32), d⟩))], gl⟩, [], [], [⟨42, .st yC, 0, true, ([] : List (Option Cs))⟩, ⟨42, .st yR, 0, true, ([] : List (Option (List Cn)))⟩, ⟨44, .st yT, 0, true, ([] : List Os)⟩, ⟨58, .st yT, 0, true, ([] : List Os)⟩, ⟨3, .int .i64, 0, true, ([] : List (Option (List Int)))⟩], ⟨.unit, ()⟩, [], T.sites 116⟩
def f71 (a : List Int) (b : List Int) : Option ((List Int) × List Int) := evI T B lf 117 (a, b)
def f72 (d : List Int) : Option (List Int) := evI T B lf 118 d
def f72_L0 (d : List Int) : Option (List Int) :=
 LL T B lf 118 0 ⟨⟨21, [(0, .rv (.cv ⟨.slice (.int .u32), d⟩))], gl⟩, [], [], [⟨42, .st yC, 0, true, ([] : List (Option Cs))⟩, ⟨42, .st yR, 0, true, ([] : List (Option (List Cn)))⟩, ⟨44, .st yT, 0, true, ([] : List Os)⟩, ⟨58, .st yT, 0, true, ([] : List Os)⟩, ⟨3, .int .i64, 0, true, ([] : List (Option (List Int)))⟩], ⟨.unit, ()⟩, [], T.sites 118⟩
def f73 (p : Int) : Option (Int × Int) := evI T B lf 119 p
def f74 (f : Int) (a : Int) : Option (Int) := evI T B lf 120 (f, a)
def f75 (f : Int) (a : Int) : Option (Int) := evI T B lf 121 (f, a)
def f76 (p : Int) (l : List Ts) : Option (Int) := evI T B lf 122 (p, l)
def f76_L0 (p : Int) (t : List Ts) (t2 : Int) (t3 : Int) : Option (Int) :=
 LL T B lf 122 0 ⟨⟨21, [(10, .rv (.cv ⟨.int .i64, t3⟩)), (9, .rv (.cv ⟨.int .i64, t2⟩)), (8, .rv (.cv ⟨.slice (.slice (.st yT)), t⟩)), (0, .rv (.cv ⟨.int .i64, p⟩))], gl⟩, [], [], [⟨42, .st yC, 0, true, ([] : List (Option Cs))⟩, ⟨42, .st yR, 0, true, ([] : List (Option (List Cn)))⟩, ⟨44, .st yT, 0, true, ([] : List Os)⟩, ⟨58, .st yT, 0, true, ([] : List Os)⟩, ⟨3, .int .i64, 0, true, ([] : List (Option (List Int)))⟩], ⟨.unit, ()⟩, [], T.sites 122⟩
def f77 (p : Int) (a : Ts) (k : Int) (b : Ts) : Option Ts := evI T B lf 123 (p, a, k, b)
def f77_L0 (row : Ts) (p : Int) (k : Int) (rest : List (Int × Tm × Unit)) : Option Ts :=
 LL T B lf 123 0 ⟨⟨36, [(9, .box 9 0), (6, .box 6 0), (4, .box 4 0)], [(10009, .box 9 0), (10006, .box 6 0), (10004, .box 4 0), (1000000000, .vel [⟨.fn, (197 : Nat)⟩, ⟨.bool, false⟩]), (1000000001, .vel [⟨.fn, (199 : Nat)⟩, ⟨.bool, true⟩])]⟩, [(9, ⟨44, .st yT, row⟩)], [(4, .cells [⟨.int .i64, p⟩]), (6, .cells [⟨.int .i64, k⟩]), (9, .own 9)], [⟨42, .st yC, 0, true, ([] : List (Option Cs))⟩, ⟨42, .st yR, 0, true, ([] : List (Option (List Cn)))⟩, ⟨44, .st yT, 0, true, ([] : List Os)⟩, ⟨58, .st yT, 0, true, ([] : List Os)⟩, ⟨3, .int .i64, 0, true, ([] : List (Option (List Int)))⟩], ⟨.unit, ()⟩, [⟨[.int .i64, .st yT], rest⟩], T.sites 123⟩
def f78 (data : Nat) (a : Int) (b : Int) (hp3 : List Os) : Option ((Unit) × (List Os)) := evI T B lf 124 ((data, a, b, ()), hp3)
def f78_L0 (data : Nat) (a : Int) (b : Int) (i : Int) (hp3 : List Os) : Option ((Unit) × (List Os)) :=
 LL T B lf 124 0 ⟨⟨53, [(8, .rv (.cv ⟨.int .i64, i⟩)), (3, .fn 51 []), (2, .rv (.cv ⟨.int .i64, b⟩)), (1, .rv (.cv ⟨.int .i64, a⟩)), (0, .rv (.cv ⟨.ref 3, data⟩))], gl⟩, [], [], [⟨42, .st yC, 0, true, ([] : List (Option Cs))⟩, ⟨42, .st yR, 0, true, ([] : List (Option (List Cn)))⟩, ⟨44, .st yT, 0, true, ([] : List Os)⟩, ⟨58, .st yT, 0, true, hp3⟩, ⟨3, .int .i64, 0, true, ([] : List (Option (List Int)))⟩], ⟨.unit, ()⟩, [], T.sites 124⟩
def f78_L1 (data : Nat) (a : Int) (b : Int) (i : Int) (j : Int) (hp3 : List Os) : Option ((Unit) × (List Os)) :=
 LL T B lf 124 1 ⟨⟨53, [(9, .rv (.cv ⟨.int .i64, j⟩)), (8, .rv (.cv ⟨.int .i64, i⟩)), (3, .fn 51 []), (2, .rv (.cv ⟨.int .i64, b⟩)), (1, .rv (.cv ⟨.int .i64, a⟩)), (0, .rv (.cv ⟨.ref 3, data⟩))], gl⟩, [], [], [⟨42, .st yC, 0, true, ([] : List (Option Cs))⟩, ⟨42, .st yR, 0, true, ([] : List (Option (List Cn)))⟩, ⟨44, .st yT, 0, true, ([] : List Os)⟩, ⟨58, .st yT, 0, true, hp3⟩, ⟨3, .int .i64, 0, true, ([] : List (Option (List Int)))⟩], ⟨.unit, ()⟩, [], T.sites 124⟩
def f79 (data : Nat) (a : Int) (b : Int) (hp3 : List Os) : Option ((Unit) × (List Os)) := evI T B lf 125 ((data, a, b, ()), hp3)
def f79_L0 (data : Nat) (first : Int) (lo : Int) (hi : Int) (i : Int) (hp3 : List Os) : Option ((Unit) × (List Os)) :=
 LL T B lf 125 0 ⟨⟨60, [(11, .rv (.cv ⟨.int .i64, i⟩)), (10, .rv (.cv ⟨.int .i64, hi⟩)), (9, .rv (.cv ⟨.int .i64, lo⟩)), (8, .rv (.cv ⟨.int .i64, first⟩)), (3, .fn 51 []), (0, .rv (.cv ⟨.ref 3, data⟩))], gl⟩, [], [], [⟨42, .st yC, 0, true, ([] : List (Option Cs))⟩, ⟨42, .st yR, 0, true, ([] : List (Option (List Cn)))⟩, ⟨44, .st yT, 0, true, ([] : List Os)⟩, ⟨58, .st yT, 0, true, hp3⟩, ⟨3, .int .i64, 0, true, ([] : List (Option (List Int)))⟩], ⟨.unit, ()⟩, [], T.sites 125⟩
def f79_L1 (data : Nat) (first : Int) (lo : Int) (i : Int) (hp3 : List Os) : Option ((Unit) × (List Os)) :=
 LL T B lf 125 1 ⟨⟨60, [(12, .rv (.cv ⟨.int .i64, i⟩)), (9, .rv (.cv ⟨.int .i64, lo⟩)), (8, .rv (.cv ⟨.int .i64, first⟩)), (3, .fn 51 []), (0, .rv (.cv ⟨.ref 3, data⟩))], gl⟩, [], [], [⟨42, .st yC, 0, true, ([] : List (Option Cs))⟩, ⟨42, .st yR, 0, true, ([] : List (Option (List Cn)))⟩, ⟨44, .st yT, 0, true, ([] : List Os)⟩, ⟨58, .st yT, 0, true, hp3⟩, ⟨3, .int .i64, 0, true, ([] : List (Option (List Int)))⟩], ⟨.unit, ()⟩, [], T.sites 125⟩
def f80 (data : Nat) (a : Int) (b : Int) (hp3 : List Os) : Option ((Unit) × (List Os)) := evI T B lf 126 ((data, a, b, ()), hp3)
def f80_L0 (data : Nat) (a : Int) (length : Int) (modulus : Int) (idx0 : Int) (random : Int) (hp3 : List Os) : Option ((Unit) × (List Os)) :=
 LL T B lf 126 0 ⟨⟨67, [(11, .rv (.cv ⟨.int .i64, idx0⟩)), (10, .rv (.cv ⟨.int .u64, modulus⟩)), (9, .box 9 0), (8, .rv (.cv ⟨.int .i64, length⟩)), (1, .rv (.cv ⟨.int .i64, a⟩)), (0, .rv (.cv ⟨.ref 3, data⟩))], gl⟩, [], [(9, .cells [⟨.int .u64, random⟩])], [⟨42, .st yC, 0, true, ([] : List (Option Cs))⟩, ⟨42, .st yR, 0, true, ([] : List (Option (List Cn)))⟩, ⟨44, .st yT, 0, true, ([] : List Os)⟩, ⟨58, .st yT, 0, true, hp3⟩, ⟨3, .int .i64, 0, true, ([] : List (Option (List Int)))⟩], ⟨.unit, ()⟩, [], T.sites 126⟩
def f81 (data : Nat) (a : Int) (b : Int) (hp3 : List Os) : Option ((Int × Int) × (List Os)) := evI T B lf 127 ((data, a, b, ()), hp3)
def f82 (data : Nat) (a : Int) (b : Int) (hp3 : List Os) : Option ((Unit) × (List Os)) := evI T B lf 128 ((data, a, b, ()), hp3)
def f82_L0 (data : Nat) (i : Int) (j : Int) (hp3 : List Os) : Option ((Unit) × (List Os)) :=
 LL T B lf 128 0 ⟨⟨34, [(9, .rv (.cv ⟨.int .i64, j⟩)), (8, .rv (.cv ⟨.int .i64, i⟩)), (0, .rv (.cv ⟨.ref 3, data⟩))], gl⟩, [], [], [⟨42, .st yC, 0, true, ([] : List (Option Cs))⟩, ⟨42, .st yR, 0, true, ([] : List (Option (List Cn)))⟩, ⟨44, .st yT, 0, true, ([] : List Os)⟩, ⟨58, .st yT, 0, true, hp3⟩, ⟨3, .int .i64, 0, true, ([] : List (Option (List Int)))⟩], ⟨.unit, ()⟩, [], T.sites 128⟩
def f83 (data : Nat) (a : Int) (b : Int) (hp3 : List Os) : Option ((Bool) × (List Os)) := evI T B lf 129 ((data, a, b, ()), hp3)
def f83_L0 (data : Nat) (a : Int) (b : Int) (i : Int) (j : Int) (hp3 : List Os) : Option ((Bool) × (List Os)) :=
 LL T B lf 129 0 ⟨⟨141, [(10, .rv (.cv ⟨.int .i64, j⟩)), (9, .rv (.cv ⟨.int .i64, i⟩)), (3, .fn 51 []), (2, .rv (.cv ⟨.int .i64, b⟩)), (1, .rv (.cv ⟨.int .i64, a⟩)), (0, .rv (.cv ⟨.ref 3, data⟩))], gl⟩, [], [], [⟨42, .st yC, 0, true, ([] : List (Option Cs))⟩, ⟨42, .st yR, 0, true, ([] : List (Option (List Cn)))⟩, ⟨44, .st yT, 0, true, ([] : List Os)⟩, ⟨58, .st yT, 0, true, hp3⟩, ⟨3, .int .i64, 0, true, ([] : List (Option (List Int)))⟩], ⟨.unit, ()⟩, [], T.sites 129⟩
def f83_L1 (data : Nat) (a : Int) (b : Int) (i : Int) (j : Int) (hp3 : List Os) : Option ((Bool) × (List Os)) :=
 LL T B lf 129 1 ⟨⟨141, [(10, .rv (.cv ⟨.int .i64, j⟩)), (9, .rv (.cv ⟨.int .i64, i⟩)), (3, .fn 51 []), (2, .rv (.cv ⟨.int .i64, b⟩)), (1, .rv (.cv ⟨.int .i64, a⟩)), (0, .rv (.cv ⟨.ref 3, data⟩))], gl⟩, [], [], [⟨42, .st yC, 0, true, ([] : List (Option Cs))⟩, ⟨42, .st yR, 0, true, ([] : List (Option (List Cn)))⟩, ⟨44, .st yT, 0, true, ([] : List Os)⟩, ⟨58, .st yT, 0, true, hp3⟩, ⟨3, .int .i64, 0, true, ([] : List (Option (List Int)))⟩], ⟨.unit, ()⟩, [], T.sites 129⟩
def f83_L2 (data : Nat) (a : Int) (b : Int) (i : Int) (j : Int) (j2 : Int) (hp3 : List Os) : Option ((Bool) × (List Os)) :=
 LL T B lf 129 2 ⟨⟨141, [(11, .rv (.cv ⟨.int .i64, j2⟩)), (10, .rv (.cv ⟨.int .i64, j⟩)), (9, .rv (.cv ⟨.int .i64, i⟩)), (3, .fn 51 []), (2, .rv (.cv ⟨.int .i64, b⟩)), (1, .rv (.cv ⟨.int .i64, a⟩)), (0, .rv (.cv ⟨.ref 3, data⟩))], gl⟩, [], [], [⟨42, .st yC, 0, true, ([] : List (Option Cs))⟩, ⟨42, .st yR, 0, true, ([] : List (Option (List Cn)))⟩, ⟨44, .st yT, 0, true, ([] : List Os)⟩, ⟨58, .st yT, 0, true, hp3⟩, ⟨3, .int .i64, 0, true, ([] : List (Option (List Int)))⟩], ⟨.unit, ()⟩, [], T.sites 129⟩
def f83_L3 (data : Nat) (a : Int) (b : Int) (i : Int) (j : Int) (j2 : Int) (hp3 : List Os) : Option ((Bool) × (List Os)) :=
 LL T B lf 129 3 ⟨⟨141, [(12, .rv (.cv ⟨.int .i64, j2⟩)), (10, .rv (.cv ⟨.int .i64, j⟩)), (9, .rv (.cv ⟨.int .i64, i⟩)), (3, .fn 51 []), (2, .rv (.cv ⟨.int .i64, b⟩)), (1, .rv (.cv ⟨.int .i64, a⟩)), (0, .rv (.cv ⟨.ref 3, data⟩))], gl⟩, [], [], [⟨42, .st yC, 0, true, ([] : List (Option Cs))⟩, ⟨42, .st yR, 0, true, ([] : List (Option (List Cn)))⟩, ⟨44, .st yT, 0, true, ([] : List Os)⟩, ⟨58, .st yT, 0, true, hp3⟩, ⟨3, .int .i64, 0, true, ([] : List (Option (List Int)))⟩], ⟨.unit, ()⟩, [], T.sites 129⟩
def f84 (data : Nat) (a : Int) (b : Int) (pivot : Int) (hp3 : List Os) : Option ((Int) × (List Os)) := evI T B lf 130 ((data, a, b, pivot, ()), hp3)
def f84_L0 (data : Nat) (a : Int) (i : Int) (j : Int) (hp3 : List Os) : Option ((Int) × (List Os)) :=
 LL T B lf 130 0 ⟨⟨90, [(12, .rv (.cv ⟨.int .i64, j⟩)), (11, .rv (.cv ⟨.int .i64, i⟩)), (4, .fn 51 []), (1, .rv (.cv ⟨.int .i64, a⟩)), (0, .rv (.cv ⟨.ref 3, data⟩))], gl⟩, [], [], [⟨42, .st yC, 0, true, ([] : List (Option Cs))⟩, ⟨42, .st yR, 0, true, ([] : List (Option (List Cn)))⟩, ⟨44, .st yT, 0, true, ([] : List Os)⟩, ⟨58, .st yT, 0, true, hp3⟩, ⟨3, .int .i64, 0, true, ([] : List (Option (List Int)))⟩], ⟨.unit, ()⟩, [], T.sites 130⟩
def f84_L1 (data : Nat) (a : Int) (i : Int) (j : Int) (hp3 : List Os) : Option ((Int) × (List Os)) :=
 LL T B lf 130 1 ⟨⟨90, [(12, .rv (.cv ⟨.int .i64, j⟩)), (11, .rv (.cv ⟨.int .i64, i⟩)), (4, .fn 51 []), (1, .rv (.cv ⟨.int .i64, a⟩)), (0, .rv (.cv ⟨.ref 3, data⟩))], gl⟩, [], [], [⟨42, .st yC, 0, true, ([] : List (Option Cs))⟩, ⟨42, .st yR, 0, true, ([] : List (Option (List Cn)))⟩, ⟨44, .st yT, 0, true, ([] : List Os)⟩, ⟨58, .st yT, 0, true, hp3⟩, ⟨3, .int .i64, 0, true, ([] : List (Option (List Int)))⟩], ⟨.unit, ()⟩, [], T.sites 130⟩
def f84_L2 (data : Nat) (a : Int) (i : Int) (j : Int) (hp3 : List Os) : Option ((Int) × (List Os)) :=
 LL T B lf 130 2 ⟨⟨90, [(12, .rv (.cv ⟨.int .i64, j⟩)), (11, .rv (.cv ⟨.int .i64, i⟩)), (4, .fn 51 []), (1, .rv (.cv ⟨.int .i64, a⟩)), (0, .rv (.cv ⟨.ref 3, data⟩))], gl⟩, [], [], [⟨42, .st yC, 0, true, ([] : List (Option Cs))⟩, ⟨42, .st yR, 0, true, ([] : List (Option (List Cn)))⟩, ⟨44, .st yT, 0, true, ([] : List Os)⟩, ⟨58, .st yT, 0, true, hp3⟩, ⟨3, .int .i64, 0, true, ([] : List (Option (List Int)))⟩], ⟨.unit, ()⟩, [], T.sites 130⟩
def f85 (data : Nat) (a : Int) (b : Int) (pivot : Int) (hp3 : List Os) : Option ((Int × Bool) × (List Os)) := evI T B lf 131 ((data, a, b, pivot, ()), hp3)
def f85_L0 (data : Nat) (a : Int) (i : Int) (j : Int) (hp3 : List Os) : Option ((Int × Bool) × (List Os)) :=
 LL T B lf 131 0 ⟨⟨178, [(13, .rv (.cv ⟨.int .i64, j⟩)), (12, .rv (.cv ⟨.int .i64, i⟩)), (4, .fn 51 []), (1, .rv (.cv ⟨.int .i64, a⟩)), (0, .rv (.cv ⟨.ref 3, data⟩))], gl⟩, [], [], [⟨42, .st yC, 0, true, ([] : List (Option Cs))⟩, ⟨42, .st yR, 0, true, ([] : List (Option (List Cn)))⟩, ⟨44, .st yT, 0, true, ([] : List Os)⟩, ⟨58, .st yT, 0, true, hp3⟩, ⟨3, .int .i64, 0, true, ([] : List (Option (List Int)))⟩], ⟨.unit, ()⟩, [], T.sites 131⟩
def f85_L1 (data : Nat) (a : Int) (i : Int) (j : Int) (hp3 : List Os) : Option ((Int × Bool) × (List Os)) :=
 LL T B lf 131 1 ⟨⟨178, [(13, .rv (.cv ⟨.int .i64, j⟩)), (12, .rv (.cv ⟨.int .i64, i⟩)), (4, .fn 51 []), (1, .rv (.cv ⟨.int .i64, a⟩)), (0, .rv (.cv ⟨.ref 3, data⟩))], gl⟩, [], [], [⟨42, .st yC, 0, true, ([] : List (Option Cs))⟩, ⟨42, .st yR, 0, true, ([] : List (Option (List Cn)))⟩, ⟨44, .st yT, 0, true, ([] : List Os)⟩, ⟨58, .st yT, 0, true, hp3⟩, ⟨3, .int .i64, 0, true, ([] : List (Option (List Int)))⟩], ⟨.unit, ()⟩, [], T.sites 131⟩
def f85_L2 (data : Nat) (a : Int) (i : Int) (j : Int) (hp3 : List Os) : Option ((Int × Bool) × (List Os)) :=
 LL T B lf 131 2 ⟨⟨178, [(13, .rv (.cv ⟨.int .i64, j⟩)), (12, .rv (.cv ⟨.int .i64, i⟩)), (4, .fn 51 []), (1, .rv (.cv ⟨.int .i64, a⟩)), (0, .rv (.cv ⟨.ref 3, data⟩))], gl⟩, [], [], [⟨42, .st yC, 0, true, ([] : List (Option Cs))⟩, ⟨42, .st yR, 0, true, ([] : List (Option (List Cn)))⟩, ⟨44, .st yT, 0, true, ([] : List Os)⟩, ⟨58, .st yT, 0, true, hp3⟩, ⟨3, .int .i64, 0, true, ([] : List (Option (List Int)))⟩], ⟨.unit, ()⟩, [], T.sites 131⟩
def f85_L3 (data : Nat) (a : Int) (i : Int) (j : Int) (hp3 : List Os) : Option ((Int × Bool) × (List Os)) :=
 LL T B lf 131 3 ⟨⟨178, [(13, .rv (.cv ⟨.int .i64, j⟩)), (12, .rv (.cv ⟨.int .i64, i⟩)), (4, .fn 51 []), (1, .rv (.cv ⟨.int .i64, a⟩)), (0, .rv (.cv ⟨.ref 3, data⟩))], gl⟩, [], [], [⟨42, .st yC, 0, true, ([] : List (Option Cs))⟩, ⟨42, .st yR, 0, true, ([] : List (Option (List Cn)))⟩, ⟨44, .st yT, 0, true, ([] : List Os)⟩, ⟨58, .st yT, 0, true, hp3⟩, ⟨3, .int .i64, 0, true, ([] : List (Option (List Int)))⟩], ⟨.unit, ()⟩, [], T.sites 131⟩
def f85_L4 (data : Nat) (a : Int) (i : Int) (j : Int) (hp3 : List Os) : Option ((Int × Bool) × (List Os)) :=
 LL T B lf 131 4 ⟨⟨178, [(13, .rv (.cv ⟨.int .i64, j⟩)), (12, .rv (.cv ⟨.int .i64, i⟩)), (4, .fn 51 []), (1, .rv (.cv ⟨.int .i64, a⟩)), (0, .rv (.cv ⟨.ref 3, data⟩))], gl⟩, [], [], [⟨42, .st yC, 0, true, ([] : List (Option Cs))⟩, ⟨42, .st yR, 0, true, ([] : List (Option (List Cn)))⟩, ⟨44, .st yT, 0, true, ([] : List Os)⟩, ⟨58, .st yT, 0, true, hp3⟩, ⟨3, .int .i64, 0, true, ([] : List (Option (List Int)))⟩], ⟨.unit, ()⟩, [], T.sites 131⟩
def f86 (x : Int) : Option (Int) := evI T B lf 133 x
def f87 (n : Int) : Option (ByteArray) := evI T B lf 139 n
def f87_L0 (q : Int) (d : List Int) : Option (ByteArray) :=
 LL T B lf 139 0 ⟨⟨42, [(5, .rv (.own 5)), (3, .rv (.cv ⟨.int .i64, q⟩))], gl⟩, [(5, ⟨3, .int .i64, d⟩)], [], [⟨42, .st yC, 0, true, ([] : List (Option Cs))⟩, ⟨42, .st yR, 0, true, ([] : List (Option (List Cn)))⟩, ⟨44, .st yT, 0, true, ([] : List Os)⟩, ⟨58, .st yT, 0, true, ([] : List Os)⟩, ⟨3, .int .i64, 0, true, ([] : List (Option (List Int)))⟩], ⟨.unit, ()⟩, [], T.sites 139⟩
def f87_L1 (n : Int) (d : List Int) : Option (ByteArray) :=
 LL T B lf 139 1 ⟨⟨42, [(6, .rv (.own 6)), (0, .rv (.cv ⟨.int .i64, n⟩))], gl⟩, [(6, ⟨3, .int .i64, d⟩)], [], [⟨42, .st yC, 0, true, ([] : List (Option Cs))⟩, ⟨42, .st yR, 0, true, ([] : List (Option (List Cn)))⟩, ⟨44, .st yT, 0, true, ([] : List Os)⟩, ⟨58, .st yT, 0, true, ([] : List Os)⟩, ⟨3, .int .i64, 0, true, ([] : List (Option (List Int)))⟩], ⟨.unit, ()⟩, [], T.sites 139⟩
def f88 (s : List Int) : Option (Int) := evI T B lf 140 s
def f88_L0 (s : List Int) (i : Int) : Option (Int) :=
 LL T B lf 140 0 ⟨⟨45, [(3, .rv (.cv ⟨.int .i64, i⟩)), (0, .rv (.cv ⟨.slice (.int .i64), s⟩))], gl⟩, [], [], [⟨42, .st yC, 0, true, ([] : List (Option Cs))⟩, ⟨42, .st yR, 0, true, ([] : List (Option (List Cn)))⟩, ⟨44, .st yT, 0, true, ([] : List Os)⟩, ⟨58, .st yT, 0, true, ([] : List Os)⟩, ⟨3, .int .i64, 0, true, ([] : List (Option (List Int)))⟩], ⟨.unit, ()⟩, [], T.sites 140⟩
def f88_L1 (s : List Int) (i : Int) : Option (Int) :=
 LL T B lf 140 1 ⟨⟨45, [(4, .rv (.cv ⟨.int .i64, i⟩)), (0, .rv (.cv ⟨.slice (.int .i64), s⟩))], gl⟩, [], [], [⟨42, .st yC, 0, true, ([] : List (Option Cs))⟩, ⟨42, .st yR, 0, true, ([] : List (Option (List Cn)))⟩, ⟨44, .st yT, 0, true, ([] : List Os)⟩, ⟨58, .st yT, 0, true, ([] : List Os)⟩, ⟨3, .int .i64, 0, true, ([] : List (Option (List Int)))⟩], ⟨.unit, ()⟩, [], T.sites 140⟩
def f89 (a : ByteArray) : Option (Bool) := evI T B lf 143 a
def f90 (a : ByteArray) : Option (Bool) := evI T B lf 144 a
def f90_L0 (s : ByteArray) (i : Int) : Option (Bool) :=
 LL T B lf 144 0 ⟨⟨53, [(4, .rv (.cv ⟨.int .i64, i⟩)), (3, .rv (.cv ⟨.str, s⟩))], gl⟩, [], [], [⟨42, .st yC, 0, true, ([] : List (Option Cs))⟩, ⟨42, .st yR, 0, true, ([] : List (Option (List Cn)))⟩, ⟨44, .st yT, 0, true, ([] : List Os)⟩, ⟨58, .st yT, 0, true, ([] : List Os)⟩, ⟨3, .int .i64, 0, true, ([] : List (Option (List Int)))⟩], ⟨.unit, ()⟩, [], T.sites 144⟩
def f91 (a : ByteArray) (b : ByteArray) : Option (ByteArray) := evI T B lf 145 (a, b)
def f91_L0 (x : ByteArray) (y : ByteArray) : Option (ByteArray) :=
 LL T B lf 145 0 ⟨⟨24, [(6, .rv (.cv ⟨.str, y⟩)), (5, .rv (.cv ⟨.str, x⟩))], gl⟩, [], [], [⟨42, .st yC, 0, true, ([] : List (Option Cs))⟩, ⟨42, .st yR, 0, true, ([] : List (Option (List Cn)))⟩, ⟨44, .st yT, 0, true, ([] : List Os)⟩, ⟨58, .st yT, 0, true, ([] : List Os)⟩, ⟨3, .int .i64, 0, true, ([] : List (Option (List Int)))⟩], ⟨.unit, ()⟩, [], T.sites 145⟩
def f92 (a : List Int) (b : List Int) : Option (Int) := evI T B lf 146 (a, b)
def f92_L0 (a : List Int) (b : List Int) (i : Int) : Option (Int) :=
 LL T B lf 146 0 ⟨⟨41, [(5, .rv (.cv ⟨.int .i64, i⟩)), (1, .rv (.cv ⟨.slice (.int .i64), b⟩)), (0, .rv (.cv ⟨.slice (.int .i64), a⟩))], gl⟩, [], [], [⟨42, .st yC, 0, true, ([] : List (Option Cs))⟩, ⟨42, .st yR, 0, true, ([] : List (Option (List Cn)))⟩, ⟨44, .st yT, 0, true, ([] : List Os)⟩, ⟨58, .st yT, 0, true, ([] : List Os)⟩, ⟨3, .int .i64, 0, true, ([] : List (Option (List Int)))⟩], ⟨.unit, ()⟩, [], T.sites 146⟩
def f93 (a : ByteArray) : Option (Int × Bool) := evI T B lf 147 a
def f93_L0 (a : ByteArray) (n : Int) (i : Int) : Option (Int × Bool) :=
 LL T B lf 147 0 ⟨⟨38, [(5, .rv (.cv ⟨.int .i64, i⟩)), (4, .rv (.cv ⟨.int .i64, n⟩)), (0, .rv (.cv ⟨.str, a⟩))], gl⟩, [], [], [⟨42, .st yC, 0, true, ([] : List (Option Cs))⟩, ⟨42, .st yR, 0, true, ([] : List (Option (List Cn)))⟩, ⟨44, .st yT, 0, true, ([] : List Os)⟩, ⟨58, .st yT, 0, true, ([] : List Os)⟩, ⟨3, .int .i64, 0, true, ([] : List (Option (List Int)))⟩], ⟨.unit, ()⟩, [], T.sites 147⟩
def f94 (d : List Int) : Option (List Int) := evI T B lf 148 d
def f94_L0 (d : List Int) : Option (List Int) :=
 LL T B lf 148 0 ⟨⟨21, [(0, .rv (.cv ⟨.slice (.int .i64), d⟩))], gl⟩, [], [], [⟨42, .st yC, 0, true, ([] : List (Option Cs))⟩, ⟨42, .st yR, 0, true, ([] : List (Option (List Cn)))⟩, ⟨44, .st yT, 0, true, ([] : List Os)⟩, ⟨58, .st yT, 0, true, ([] : List Os)⟩, ⟨3, .int .i64, 0, true, ([] : List (Option (List Int)))⟩], ⟨.unit, ()⟩, [], T.sites 148⟩
def f95 (a : (Bool × (List Int) × Unit) × (Bool × (List Int) × Unit) × Unit) : Option (Bool) := evI T B lf 149 a
def f96 (s : ByteArray) (substr : ByteArray) : Option (Int) := evI T B lf 150 (s, substr)
def f97 (s : ByteArray) (prefix0 : ByteArray) : Option (ByteArray × Bool) := evI T B lf 151 (s, prefix0)
def f98 (a : List Int) (b : Int) : Option ((List Int) × Int) := evI T B lf 152 (a, b)
def f98_L0 (a : List Int) (b : Int) (rest : Int) (i : Int) (out : List Int) : Option ((List Int) × Int) :=
 LL T B lf 152 0 ⟨⟨42, [(8, .rv (.cv ⟨.int .i64, i⟩)), (7, .rv (.cv ⟨.int .u64, rest⟩)), (6, .rv (.own 6)), (1, .rv (.cv ⟨.int .u32, b⟩)), (0, .rv (.cv ⟨.slice (.int .u32), a⟩))], gl⟩, [(6, ⟨168, .int .u32, out⟩)], [], [⟨42, .st yC, 0, true, ([] : List (Option Cs))⟩, ⟨42, .st yR, 0, true, ([] : List (Option (List Cn)))⟩, ⟨44, .st yT, 0, true, ([] : List Os)⟩, ⟨58, .st yT, 0, true, ([] : List Os)⟩, ⟨3, .int .i64, 0, true, ([] : List (Option (List Int)))⟩], ⟨.unit, ()⟩, [], T.sites 152⟩
def f99 (a : List Int) (b : List Int) : Option ((List Int) × List Int) := evI T B lf 153 (a, b)
def f99_L0 (k : Int) (u : List Int) (v : List Int) (n : Int) (j : Int) (q : List Int) : Option ((List Int) × List Int) :=
 LL T B lf 153 0 ⟨⟨239, [(10, .rv (.cv ⟨.int .i64, j⟩)), (9, .rv (.cv ⟨.int .i64, n⟩)), (8, .rv (.cv ⟨.slice (.int .u32), v⟩)), (7, .rv (.cv ⟨.slice (.int .u32), u⟩)), (6, .rv (.cv ⟨.int .u32, k⟩)), (4, .rv (.own 4))], gl⟩, [(4, ⟨168, .int .u32, q⟩)], [], [⟨42, .st yC, 0, true, ([] : List (Option Cs))⟩, ⟨42, .st yR, 0, true, ([] : List (Option (List Cn)))⟩, ⟨44, .st yT, 0, true, ([] : List Os)⟩, ⟨58, .st yT, 0, true, ([] : List Os)⟩, ⟨3, .int .i64, 0, true, ([] : List (Option (List Int)))⟩], ⟨.unit, ()⟩, [], T.sites 153⟩
def f99_L1 (k : Int) (u : List Int) (v : List Int) (n : Int) (j : Int) (guess : Int) (rest : Int) (q : List Int) : Option ((List Int) × List Int) :=
 LL T B lf 153 1 ⟨⟨239, [(13, .rv (.cv ⟨.int .u64, rest⟩)), (12, .rv (.cv ⟨.int .u64, guess⟩)), (10, .rv (.cv ⟨.int .i64, j⟩)), (9, .rv (.cv ⟨.int .i64, n⟩)), (8, .rv (.cv ⟨.slice (.int .u32), v⟩)), (7, .rv (.cv ⟨.slice (.int .u32), u⟩)), (6, .rv (.cv ⟨.int .u32, k⟩)), (4, .rv (.own 4))], gl⟩, [(4, ⟨168, .int .u32, q⟩)], [], [⟨42, .st yC, 0, true, ([] : List (Option Cs))⟩, ⟨42, .st yR, 0, true, ([] : List (Option (List Cn)))⟩, ⟨44, .st yT, 0, true, ([] : List Os)⟩, ⟨58, .st yT, 0, true, ([] : List Os)⟩, ⟨3, .int .i64, 0, true, ([] : List (Option (List Int)))⟩], ⟨.unit, ()⟩, [], T.sites 153⟩
def f99_L2 (k : Int) (u : List Int) (v : List Int) (n : Int) (j : Int) (guess : Int) (borrow : Int) (t : Int) (t2 : Int) (q : List Int) : Option ((List Int) × List Int) :=
 LL T B lf 153 2 ⟨⟨239, [(124, .rv (.cv ⟨.int .i64, t2⟩)), (123, .rv (.cv ⟨.int .i64, t⟩)), (14, .rv (.cv ⟨.int .i64, borrow⟩)), (12, .rv (.cv ⟨.int .u64, guess⟩)), (10, .rv (.cv ⟨.int .i64, j⟩)), (9, .rv (.cv ⟨.int .i64, n⟩)), (8, .rv (.cv ⟨.slice (.int .u32), v⟩)), (7, .rv (.cv ⟨.slice (.int .u32), u⟩)), (6, .rv (.cv ⟨.int .u32, k⟩)), (4, .rv (.own 4))], gl⟩, [(4, ⟨168, .int .u32, q⟩)], [], [⟨42, .st yC, 0, true, ([] : List (Option Cs))⟩, ⟨42, .st yR, 0, true, ([] : List (Option (List Cn)))⟩, ⟨44, .st yT, 0, true, ([] : List Os)⟩, ⟨58, .st yT, 0, true, ([] : List Os)⟩, ⟨3, .int .i64, 0, true, ([] : List (Option (List Int)))⟩], ⟨.unit, ()⟩, [], T.sites 153⟩
def f99_L3 (k : Int) (u : List Int) (v : List Int) (n : Int) (j : Int) (guess : Int) (x : Int) (carry : Int) (t : Int) (t2 : Int) (q : List Int) : Option ((List Int) × List Int) :=
 LL T B lf 153 3 ⟨⟨239, [(189, .rv (.cv ⟨.int .i64, t2⟩)), (188, .rv (.cv ⟨.int .i64, t⟩)), (18, .rv (.cv ⟨.int .u32, carry⟩)), (17, .rv (.cv ⟨.int .i64, x⟩)), (12, .rv (.cv ⟨.int .u64, guess⟩)), (10, .rv (.cv ⟨.int .i64, j⟩)), (9, .rv (.cv ⟨.int .i64, n⟩)), (8, .rv (.cv ⟨.slice (.int .u32), v⟩)), (7, .rv (.cv ⟨.slice (.int .u32), u⟩)), (6, .rv (.cv ⟨.int .u32, k⟩)), (4, .rv (.own 4))], gl⟩, [(4, ⟨168, .int .u32, q⟩)], [], [⟨42, .st yC, 0, true, ([] : List (Option Cs))⟩, ⟨42, .st yR, 0, true, ([] : List (Option (List Cn)))⟩, ⟨44, .st yT, 0, true, ([] : List Os)⟩, ⟨58, .st yT, 0, true, ([] : List Os)⟩, ⟨3, .int .i64, 0, true, ([] : List (Option (List Int)))⟩], ⟨.unit, ()⟩, [], T.sites 153⟩
def f100 (f : Int) (a : Int) (n : Int) : Option (Int) := evI T B lf 154 (f, a, n)
def f100_L0 (f : Int) (n : Int) (out : Int) (base : Int) : Option (Int) :=
 LL T B lf 154 0 ⟨⟨30, [(8, .rv (.cv ⟨.int .i64, base⟩)), (7, .rv (.cv ⟨.int .i64, out⟩)), (2, .rv (.cv ⟨.int .i64, n⟩)), (0, .rv (.cv ⟨.int .i64, f⟩))], gl⟩, [], [], [⟨42, .st yC, 0, true, ([] : List (Option Cs))⟩, ⟨42, .st yR, 0, true, ([] : List (Option (List Cn)))⟩, ⟨44, .st yT, 0, true, ([] : List Os)⟩, ⟨58, .st yT, 0, true, ([] : List Os)⟩, ⟨3, .int .i64, 0, true, ([] : List (Option (List Int)))⟩], ⟨.unit, ()⟩, [], T.sites 154⟩
def f101 (a : Ts) (b : Ts) : Option (Ts × Ts) := evI T B lf 155 (a, b)
def f102 (data : Nat) (lo : Int) (hi : Int) (first : Int) (hp3 : List Os) : Option ((Unit) × (List Os)) := evI T B lf 156 ((data, lo, hi, first, ()), hp3)
def f102_L0 (data : Nat) (hi : Int) (first : Int) (root : Int) (hp3 : List Os) : Option ((Unit) × (List Os)) :=
 LL T B lf 156 0 ⟨⟨82, [(10, .rv (.cv ⟨.int .i64, root⟩)), (4, .fn 51 []), (3, .rv (.cv ⟨.int .i64, first⟩)), (2, .rv (.cv ⟨.int .i64, hi⟩)), (0, .rv (.cv ⟨.ref 3, data⟩))], gl⟩, [], [], [⟨42, .st yC, 0, true, ([] : List (Option Cs))⟩, ⟨42, .st yR, 0, true, ([] : List (Option (List Cn)))⟩, ⟨44, .st yT, 0, true, ([] : List Os)⟩, ⟨58, .st yT, 0, true, hp3⟩, ⟨3, .int .i64, 0, true, ([] : List (Option (List Int)))⟩], ⟨.unit, ()⟩, [], T.sites 156⟩
def f103 (length : Int) : Option (Int) := evI T B lf 157 length
def f104 (a : ByteArray) (b : ByteArray) : Option (ByteArray × ByteArray) := evI T B lf 161 (a, b)
def f104_L0 (b : ByteArray) (p : Bool) (x : List Int) (s : Bool) (y : List Int) (r : List Int) (i : Int) (q : List Int) : Option (ByteArray × ByteArray) :=
 LL T B lf 161 0 ⟨⟨164, [(19, .rv (.cv ⟨.int .i64, i⟩)), (18, .rv (.cv ⟨.slice (.int .i64), r⟩)), (17, .rv (.own 17)), (15, .rv (.cv ⟨.slice (.int .i64), y⟩)), (14, .rv (.cv ⟨.bool, s⟩)), (13, .rv (.cv ⟨.slice (.int .i64), x⟩)), (12, .rv (.cv ⟨.bool, p⟩)), (1, .rv (.cv ⟨.str, b⟩))], gl⟩, [(17, ⟨3, .int .i64, q⟩)], [], [⟨42, .st yC, 0, true, ([] : List (Option Cs))⟩, ⟨42, .st yR, 0, true, ([] : List (Option (List Cn)))⟩, ⟨44, .st yT, 0, true, ([] : List Os)⟩, ⟨58, .st yT, 0, true, ([] : List Os)⟩, ⟨3, .int .i64, 0, true, ([] : List (Option (List Int)))⟩], ⟨.unit, ()⟩, [], T.sites 161⟩
def f104_L1 (b : ByteArray) (p : Bool) (x : List Int) (s : Bool) (y : List Int) (r : List Int) (i : Int) (k : Int) (q : List Int) : Option (ByteArray × ByteArray) :=
 LL T B lf 161 1 ⟨⟨164, [(20, .rv (.cv ⟨.int .i64, k⟩)), (19, .rv (.cv ⟨.int .i64, i⟩)), (18, .rv (.cv ⟨.slice (.int .i64), r⟩)), (17, .rv (.own 17)), (15, .rv (.cv ⟨.slice (.int .i64), y⟩)), (14, .rv (.cv ⟨.bool, s⟩)), (13, .rv (.cv ⟨.slice (.int .i64), x⟩)), (12, .rv (.cv ⟨.bool, p⟩)), (1, .rv (.cv ⟨.str, b⟩))], gl⟩, [(17, ⟨3, .int .i64, q⟩)], [], [⟨42, .st yC, 0, true, ([] : List (Option Cs))⟩, ⟨42, .st yR, 0, true, ([] : List (Option (List Cn)))⟩, ⟨44, .st yT, 0, true, ([] : List Os)⟩, ⟨58, .st yT, 0, true, ([] : List Os)⟩, ⟨3, .int .i64, 0, true, ([] : List (Option (List Int)))⟩], ⟨.unit, ()⟩, [], T.sites 161⟩
def f104_L2 (b : ByteArray) (p : Bool) (s : Bool) (r : List Int) (i : Int) (q : List Int) : Option (ByteArray × ByteArray) :=
 LL T B lf 161 2 ⟨⟨164, [(21, .rv (.cv ⟨.int .i64, i⟩)), (18, .rv (.cv ⟨.slice (.int .i64), r⟩)), (17, .rv (.own 17)), (14, .rv (.cv ⟨.bool, s⟩)), (12, .rv (.cv ⟨.bool, p⟩)), (1, .rv (.cv ⟨.str, b⟩))], gl⟩, [(17, ⟨3, .int .i64, q⟩)], [], [⟨42, .st yC, 0, true, ([] : List (Option Cs))⟩, ⟨42, .st yR, 0, true, ([] : List (Option (List Cn)))⟩, ⟨44, .st yT, 0, true, ([] : List Os)⟩, ⟨58, .st yT, 0, true, ([] : List Os)⟩, ⟨3, .int .i64, 0, true, ([] : List (Option (List Int)))⟩], ⟨.unit, ()⟩, [], T.sites 161⟩
def f105 (a : ByteArray) : Option (Int) := evI T B lf 162 a
def f106 (a : ByteArray) : Option (ByteArray) := evI T B lf 163 a
def f107 (a : Bool × (List Int) × Unit) : Option (Bool) := evI T B lf 164 a
def f108 (s : ByteArray) (c : Int) : Option (Int) := evI T B lf 165 (s, c)
def f109 (s : ByteArray) (prefix0 : ByteArray) : Option (Bool) := evI T B lf 169 (s, prefix0)
def f110 (a : List Int) (k : Int) : Option (List Int) := evI T B lf 170 (a, k)
def f110_L0 (k : Int) (carry : Int) (t : List Int) (t2 : Int) (t3 : Int) (out : List Int) : Option (List Int) :=
 LL T B lf 170 0 ⟨⟨40, [(15, .rv (.cv ⟨.int .i64, t3⟩)), (14, .rv (.cv ⟨.int .i64, t2⟩)), (13, .rv (.cv ⟨.slice (.int .u32), t⟩)), (6, .rv (.cv ⟨.int .u64, carry⟩)), (5, .rv (.own 5)), (1, .rv (.cv ⟨.int .u32, k⟩))], gl⟩, [(5, ⟨168, .int .u32, out⟩)], [], [⟨42, .st yC, 0, true, ([] : List (Option Cs))⟩, ⟨42, .st yR, 0, true, ([] : List (Option (List Cn)))⟩, ⟨44, .st yT, 0, true, ([] : List Os)⟩, ⟨58, .st yT, 0, true, ([] : List Os)⟩, ⟨3, .int .i64, 0, true, ([] : List (Option (List Int)))⟩], ⟨.unit, ()⟩, [], T.sites 170⟩
def f111 (t : Ts) (t2 : Ts) : Option (List (Int × Tm × Unit)) := evI T B lf 171 ((), t, t2)
def f111_L0 (t : Ts) (t2 : Ts) (trace : List (Int × Tm × Unit)) : Option (List (Int × Tm × Unit)) :=
 LL T B lf 171 0 ⟨⟨94, [(2, .box 2 0), (1, .box 1 0), (0, .yld)], gl⟩, [], [(1, .cells [⟨.slice (.st yT), t⟩]), (2, .cells [⟨.slice (.st yT), t2⟩])], [⟨42, .st yC, 0, true, ([] : List (Option Cs))⟩, ⟨42, .st yR, 0, true, ([] : List (Option (List Cn)))⟩, ⟨44, .st yT, 0, true, ([] : List Os)⟩, ⟨58, .st yT, 0, true, ([] : List Os)⟩, ⟨3, .int .i64, 0, true, ([] : List (Option (List Int)))⟩], ⟨.slice (.pair (.int .i64) (.pair (.st yT) (.unit))), trace⟩, [], T.sites 171⟩
def f112 (a : List Int) (b : List Int) : Option (List Int) := evI T B lf 173 (a, b)
def f112_L0 (a : List Int) (b : List Int) (borrow : Int) (i : Int) (out : List Int) : Option (List Int) :=
 LL T B lf 173 0 ⟨⟨41, [(7, .rv (.cv ⟨.int .i64, i⟩)), (6, .rv (.cv ⟨.int .i64, borrow⟩)), (5, .rv (.own 5)), (1, .rv (.cv ⟨.slice (.int .i64), b⟩)), (0, .rv (.cv ⟨.slice (.int .i64), a⟩))], gl⟩, [(5, ⟨3, .int .i64, out⟩)], [], [⟨42, .st yC, 0, true, ([] : List (Option Cs))⟩, ⟨42, .st yR, 0, true, ([] : List (Option (List Cn)))⟩, ⟨44, .st yT, 0, true, ([] : List Os)⟩, ⟨58, .st yT, 0, true, ([] : List Os)⟩, ⟨3, .int .i64, 0, true, ([] : List (Option (List Int)))⟩], ⟨.unit, ()⟩, [], T.sites 173⟩
def f113 (a : ByteArray) (b : ByteArray) : Option (ByteArray) := evI T B lf 174 (a, b)
def f114 (a : ByteArray) (b : ByteArray) : Option (ByteArray) := evI T B lf 175 (a, b)
def f115 (a : Bool × (List Int) × Unit) : Option (Int) := evI T B lf 176 a
def f115_L0 (n : Int) (x : Int) : Option (Int) :=
 LL T B lf 176 0 ⟨⟨29, [(4, .rv (.cv ⟨.int .u32, x⟩)), (3, .rv (.cv ⟨.int .i64, n⟩))], gl⟩, [], [], [⟨42, .st yC, 0, true, ([] : List (Option Cs))⟩, ⟨42, .st yR, 0, true, ([] : List (Option (List Cn)))⟩, ⟨44, .st yT, 0, true, ([] : List Os)⟩, ⟨58, .st yT, 0, true, ([] : List Os)⟩, ⟨3, .int .i64, 0, true, ([] : List (Option (List Int)))⟩], ⟨.unit, ()⟩, [], T.sites 176⟩
def f116 (a : List Int) (b : List Int) : Option (List Int) := evI T B lf 179 (a, b)
def f116_L0 (a : List Int) (b : List Int) (carry : Int) (i : Int) (out : List Int) : Option (List Int) :=
 LL T B lf 179 0 ⟨⟨54, [(7, .rv (.cv ⟨.int .i64, i⟩)), (6, .rv (.cv ⟨.int .i64, carry⟩)), (5, .rv (.own 5)), (1, .rv (.cv ⟨.slice (.int .i64), b⟩)), (0, .rv (.cv ⟨.slice (.int .i64), a⟩))], gl⟩, [(5, ⟨3, .int .i64, out⟩)], [], [⟨42, .st yC, 0, true, ([] : List (Option Cs))⟩, ⟨42, .st yR, 0, true, ([] : List (Option (List Cn)))⟩, ⟨44, .st yT, 0, true, ([] : List Os)⟩, ⟨58, .st yT, 0, true, ([] : List Os)⟩, ⟨3, .int .i64, 0, true, ([] : List (Option (List Int)))⟩], ⟨.unit, ()⟩, [], T.sites 179⟩
def f117 (c : Int × Cs × Unit) : Option (Int × Cs × Unit) := evI T B lf 196 c
def f118 (t : Int × Cs × Unit) : Option (List (Int × Unit)) := evI T B lf 197 ((), t)
def f118_L0 (t : Int) (t2 : Int) (trace : List (Int × Unit)) : Option (List (Int × Unit)) :=
 LL T B lf 197 0 ⟨⟨15, [(7, .rv (.cv ⟨.int .i64, t2⟩)), (6, .rv (.cv ⟨.int .i64, t⟩)), (0, .yld)], gl⟩, [], [], [⟨42, .st yC, 0, true, ([] : List (Option Cs))⟩, ⟨42, .st yR, 0, true, ([] : List (Option (List Cn)))⟩, ⟨44, .st yT, 0, true, ([] : List Os)⟩, ⟨58, .st yT, 0, true, ([] : List Os)⟩, ⟨3, .int .i64, 0, true, ([] : List (Option (List Int)))⟩], ⟨.slice (.pair (.int .i64) (.unit)), trace⟩, [], T.sites 197⟩
def f119 (c : Int × Cs × Unit) : Option (Int × Cs × Unit) := evI T B lf 198 c
def f120 (t : Int × Cs × Unit) : Option (List (Int × Unit)) := evI T B lf 199 ((), t)
def f120_L0 (d : Int) (t : Int) (t2 : List Cl) (trace : List (Int × Unit)) : Option (List (Int × Unit)) :=
 LL T B lf 199 0 ⟨⟨29, [(3, .rv (.cv ⟨.int .i64, d⟩)), (1, .box 1 0), (0, .yld)], gl⟩, [], [(1, .cells [⟨.int .i64, t⟩, ⟨.slice (.st yC), t2⟩])], [⟨42, .st yC, 0, true, ([] : List (Option Cs))⟩, ⟨42, .st yR, 0, true, ([] : List (Option (List Cn)))⟩, ⟨44, .st yT, 0, true, ([] : List Os)⟩, ⟨58, .st yT, 0, true, ([] : List Os)⟩, ⟨3, .int .i64, 0, true, ([] : List (Option (List Int)))⟩], ⟨.slice (.pair (.int .i64) (.unit)), trace⟩, [], T.sites 199⟩
def f120_L1 (d : Int) (t : List Cl) (t2 : Int) (t3 : Int) (t4 : Int) (t5 : List Cl) (trace : List (Int × Unit)) : Option (List (Int × Unit)) :=
 LL T B lf 199 1 ⟨⟨29, [(13, .rv (.cv ⟨.int .i64, t3⟩)), (12, .rv (.cv ⟨.int .i64, t2⟩)), (11, .rv (.cv ⟨.slice (.st yC), t⟩)), (3, .rv (.cv ⟨.int .i64, d⟩)), (1, .box 1 0), (0, .yld)], gl⟩, [], [(1, .cells [⟨.int .i64, t4⟩, ⟨.slice (.st yC), t5⟩])], [⟨42, .st yC, 0, true, ([] : List (Option Cs))⟩, ⟨42, .st yR, 0, true, ([] : List (Option (List Cn)))⟩, ⟨44, .st yT, 0, true, ([] : List Os)⟩, ⟨58, .st yT, 0, true, ([] : List Os)⟩, ⟨3, .int .i64, 0, true, ([] : List (Option (List Int)))⟩], ⟨.slice (.pair (.int .i64) (.unit)), trace⟩, [], T.sites 199⟩
def f121 (c : Int × Cs × Unit) (hp3 : List Os) : Option ((Nat × Tm × Int) × (List Os)) := evI T B lf 100045 ((c, (), ()), hp3)
def f122 (c : Int × Cs × Unit) (hp3 : List Os) : Option ((Nat × Tm × Int) × (List Os)) := evI T B lf 100145 ((c, (), ()), hp3)
def f123 (c : Int × Cs × Unit) (hp3 : List Os) : Option ((Nat × Int × Int × Unit) × (List Os)) := evI T B lf 100046 (((), c), hp3)
def f123_L0 (out : Nat) (t : Int) (t2 : Int) (row : List Os) (row2 : List Int) (e : Bool) (c : Int) (c2 : List Cl) (w : Int) (w2 : Int) (hp3 : List Os) : Option ((Nat × Int × Int × Unit) × (List Os)) :=
 LL T B lf 100046 0 ⟨⟨155, [(28, .rv (.cv ⟨.int .i64, t2⟩)), (27, .rv (.cv ⟨.int .i64, t⟩)), (8, .box 8 0), (7, .box 7 0), (5, .box 5 0), (4, .rv (.cv ⟨.ref 3, out⟩)), (3, .box 3 0), (2, .box 2 0)], gl⟩, [(7, ⟨40, .nsl (.st yT), row⟩), (8, ⟨3, .int .i64, row2⟩)], [(2, .cells [⟨.fn, (197 : Nat)⟩, ⟨.bool, e⟩]), (3, .cells [⟨.int .i64, c⟩, ⟨.slice (.st yC), c2⟩]), (5, .cells [⟨.int .i64, w⟩, ⟨.int .i64, w2⟩]), (7, .own 7), (8, .own 8)], [⟨42, .st yC, 0, true, ([] : List (Option Cs))⟩, ⟨42, .st yR, 0, true, ([] : List (Option (List Cn)))⟩, ⟨44, .st yT, 0, true, ([] : List Os)⟩, ⟨58, .st yT, 0, true, hp3⟩, ⟨3, .int .i64, 0, true, ([] : List (Option (List Int)))⟩], ⟨.unit, ()⟩, [], T.sites 100046⟩
def f123_L1 (out : Nat) (out2 : Nat) (row : List Os) (row2 : List Int) (e : Bool) (c : Int) (c2 : List Cl) (w : Int) (w2 : Int) (hp3 : List Os) (rest : List (Int × Unit)) : Option ((Nat × Int × Int × Unit) × (List Os)) :=
 LL T B lf 100046 1 ⟨⟨155, [(8, .box 8 0), (7, .box 7 0), (5, .box 5 0), (4, .rv (.cv ⟨.ref 3, out⟩)), (3, .box 3 0), (2, .box 2 0)], [(10008, .box 8 0), (10007, .box 7 0), (10005, .box 5 0), (10004, .rv (.cv ⟨.ref 3, out2⟩)), (10003, .box 3 0), (10002, .box 2 0), (1000000000, .vel [⟨.fn, (197 : Nat)⟩, ⟨.bool, false⟩]), (1000000001, .vel [⟨.fn, (199 : Nat)⟩, ⟨.bool, true⟩])]⟩, [(7, ⟨40, .nsl (.st yT), row⟩), (8, ⟨3, .int .i64, row2⟩)], [(2, .cells [⟨.fn, (197 : Nat)⟩, ⟨.bool, e⟩]), (3, .cells [⟨.int .i64, c⟩, ⟨.slice (.st yC), c2⟩]), (5, .cells [⟨.int .i64, w⟩, ⟨.int .i64, w2⟩]), (7, .own 7), (8, .own 8)], [⟨42, .st yC, 0, true, ([] : List (Option Cs))⟩, ⟨42, .st yR, 0, true, ([] : List (Option (List Cn)))⟩, ⟨44, .st yT, 0, true, ([] : List Os)⟩, ⟨58, .st yT, 0, true, hp3⟩, ⟨3, .int .i64, 0, true, ([] : List (Option (List Int)))⟩], ⟨.unit, ()⟩, [⟨[.int .i64], rest⟩], T.sites 100046⟩
def f123_L3 (out : Nat) (t : Int) (t2 : Int) (t3 : List Int) (w : Int) (w2 : Int) (hp3 : List Os) : Option ((Nat × Int × Int × Unit) × (List Os)) :=
 LL T B lf 100046 3 ⟨⟨155, [(139, .rv (.cv ⟨.int .i64, t2⟩)), (138, .rv (.cv ⟨.int .i64, t⟩)), (137, .rv (.own 8)), (5, .box 5 0), (4, .rv (.cv ⟨.ref 3, out⟩))], gl⟩, [(8, ⟨3, .int .i64, t3⟩)], [(5, .cells [⟨.int .i64, w⟩, ⟨.int .i64, w2⟩])], [⟨42, .st yC, 0, true, ([] : List (Option Cs))⟩, ⟨42, .st yR, 0, true, ([] : List (Option (List Cn)))⟩, ⟨44, .st yT, 0, true, ([] : List Os)⟩, ⟨58, .st yT, 0, true, hp3⟩, ⟨3, .int .i64, 0, true, ([] : List (Option (List Int)))⟩], ⟨.unit, ()⟩, [], T.sites 100046⟩
def f123_L2 (j : Int) (x : Ts) (low : Int) (is0 : Bool) (out : Nat) (row : List Os) (row2 : List Int) (e : Bool) (c : Int) (c2 : List Cl) (w : Int) (w2 : Int) (hp3 : List Os) (rest : List (Int × Unit)) : Option ((Nat × Int × Int × Unit) × (List Os)) :=
 LL T B lf 100046 2 ⟨⟨155, [(13, .rv (.cv ⟨.bool, is0⟩)), (12, .rv (.cv ⟨.int .i64, low⟩)), (11, .rv (.cv ⟨.slice (.st yT), x⟩)), (10, .rv (.cv ⟨.int .i64, j⟩)), (8, .box 8 0), (7, .box 7 0), (5, .box 5 0), (3, .box 3 0)], [(10008, .box 8 0), (10007, .box 7 0), (10005, .box 5 0), (10004, .rv (.cv ⟨.ref 3, out⟩)), (10003, .box 3 0), (10002, .box 2 0), (1000000000, .vel [⟨.fn, (197 : Nat)⟩, ⟨.bool, false⟩]), (1000000001, .vel [⟨.fn, (199 : Nat)⟩, ⟨.bool, true⟩])]⟩, [(7, ⟨40, .nsl (.st yT), row⟩), (8, ⟨3, .int .i64, row2⟩)], [(2, .cells [⟨.fn, (197 : Nat)⟩, ⟨.bool, e⟩]), (3, .cells [⟨.int .i64, c⟩, ⟨.slice (.st yC), c2⟩]), (5, .cells [⟨.int .i64, w⟩, ⟨.int .i64, w2⟩]), (7, .own 7), (8, .own 8)], [⟨42, .st yC, 0, true, ([] : List (Option Cs))⟩, ⟨42, .st yR, 0, true, ([] : List (Option (List Cn)))⟩, ⟨44, .st yT, 0, true, ([] : List Os)⟩, ⟨58, .st yT, 0, true, hp3⟩, ⟨3, .int .i64, 0, true, ([] : List (Option (List Int)))⟩], ⟨.unit, ()⟩, [⟨[.int .i64], rest⟩], T.sites 100046⟩
def f124 (c : Int × Cs × Unit) (hp3 : List Os) : Option ((Nat × Int × Int × Unit) × (List Os)) := evI T B lf 100146 (((), c), hp3)
def f124_L0 (out : Nat) (t : Int) (t2 : Int) (row : List Os) (row2 : List Int) (e : Bool) (c : Int) (c2 : List Cl) (w : Int) (w2 : Int) (hp3 : List Os) : Option ((Nat × Int × Int × Unit) × (List Os)) :=
 LL T B lf 100146 0 ⟨⟨155, [(28, .rv (.cv ⟨.int .i64, t2⟩)), (27, .rv (.cv ⟨.int .i64, t⟩)), (8, .box 8 0), (7, .box 7 0), (5, .box 5 0), (4, .rv (.cv ⟨.ref 3, out⟩)), (3, .box 3 0), (2, .box 2 0)], gl⟩, [(7, ⟨40, .nsl (.st yT), row⟩), (8, ⟨3, .int .i64, row2⟩)], [(2, .cells [⟨.fn, (199 : Nat)⟩, ⟨.bool, e⟩]), (3, .cells [⟨.int .i64, c⟩, ⟨.slice (.st yC), c2⟩]), (5, .cells [⟨.int .i64, w⟩, ⟨.int .i64, w2⟩]), (7, .own 7), (8, .own 8)], [⟨42, .st yC, 0, true, ([] : List (Option Cs))⟩, ⟨42, .st yR, 0, true, ([] : List (Option (List Cn)))⟩, ⟨44, .st yT, 0, true, ([] : List Os)⟩, ⟨58, .st yT, 0, true, hp3⟩, ⟨3, .int .i64, 0, true, ([] : List (Option (List Int)))⟩], ⟨.unit, ()⟩, [], T.sites 100146⟩
def f124_L1 (out : Nat) (out2 : Nat) (row : List Os) (row2 : List Int) (e : Bool) (c : Int) (c2 : List Cl) (w : Int) (w2 : Int) (hp3 : List Os) (rest : List (Int × Unit)) : Option ((Nat × Int × Int × Unit) × (List Os)) :=
 LL T B lf 100146 1 ⟨⟨155, [(8, .box 8 0), (7, .box 7 0), (5, .box 5 0), (4, .rv (.cv ⟨.ref 3, out⟩)), (3, .box 3 0), (2, .box 2 0)], [(10008, .box 8 0), (10007, .box 7 0), (10005, .box 5 0), (10004, .rv (.cv ⟨.ref 3, out2⟩)), (10003, .box 3 0), (10002, .box 2 0), (1000000000, .vel [⟨.fn, (197 : Nat)⟩, ⟨.bool, false⟩]), (1000000001, .vel [⟨.fn, (199 : Nat)⟩, ⟨.bool, true⟩])]⟩, [(7, ⟨40, .nsl (.st yT), row⟩), (8, ⟨3, .int .i64, row2⟩)], [(2, .cells [⟨.fn, (199 : Nat)⟩, ⟨.bool, e⟩]), (3, .cells [⟨.int .i64, c⟩, ⟨.slice (.st yC), c2⟩]), (5, .cells [⟨.int .i64, w⟩, ⟨.int .i64, w2⟩]), (7, .own 7), (8, .own 8)], [⟨42, .st yC, 0, true, ([] : List (Option Cs))⟩, ⟨42, .st yR, 0, true, ([] : List (Option (List Cn)))⟩, ⟨44, .st yT, 0, true, ([] : List Os)⟩, ⟨58, .st yT, 0, true, hp3⟩, ⟨3, .int .i64, 0, true, ([] : List (Option (List Int)))⟩], ⟨.unit, ()⟩, [⟨[.int .i64], rest⟩], T.sites 100146⟩
def f124_L3 (out : Nat) (t : Int) (t2 : Int) (t3 : List Int) (w : Int) (w2 : Int) (hp3 : List Os) : Option ((Nat × Int × Int × Unit) × (List Os)) :=
 LL T B lf 100146 3 ⟨⟨155, [(139, .rv (.cv ⟨.int .i64, t2⟩)), (138, .rv (.cv ⟨.int .i64, t⟩)), (137, .rv (.own 8)), (5, .box 5 0), (4, .rv (.cv ⟨.ref 3, out⟩))], gl⟩, [(8, ⟨3, .int .i64, t3⟩)], [(5, .cells [⟨.int .i64, w⟩, ⟨.int .i64, w2⟩])], [⟨42, .st yC, 0, true, ([] : List (Option Cs))⟩, ⟨42, .st yR, 0, true, ([] : List (Option (List Cn)))⟩, ⟨44, .st yT, 0, true, ([] : List Os)⟩, ⟨58, .st yT, 0, true, hp3⟩, ⟨3, .int .i64, 0, true, ([] : List (Option (List Int)))⟩], ⟨.unit, ()⟩, [], T.sites 100146⟩
def f124_L2 (j : Int) (x : Ts) (low : Int) (is0 : Bool) (out : Nat) (row : List Os) (row2 : List Int) (e : Bool) (c : Int) (c2 : List Cl) (w : Int) (w2 : Int) (hp3 : List Os) (rest : List (Int × Unit)) : Option ((Nat × Int × Int × Unit) × (List Os)) :=
 LL T B lf 100146 2 ⟨⟨155, [(13, .rv (.cv ⟨.bool, is0⟩)), (12, .rv (.cv ⟨.int .i64, low⟩)), (11, .rv (.cv ⟨.slice (.st yT), x⟩)), (10, .rv (.cv ⟨.int .i64, j⟩)), (8, .box 8 0), (7, .box 7 0), (5, .box 5 0), (3, .box 3 0)], [(10008, .box 8 0), (10007, .box 7 0), (10005, .box 5 0), (10004, .rv (.cv ⟨.ref 3, out⟩)), (10003, .box 3 0), (10002, .box 2 0), (1000000000, .vel [⟨.fn, (197 : Nat)⟩, ⟨.bool, false⟩]), (1000000001, .vel [⟨.fn, (199 : Nat)⟩, ⟨.bool, true⟩])]⟩, [(7, ⟨40, .nsl (.st yT), row⟩), (8, ⟨3, .int .i64, row2⟩)], [(2, .cells [⟨.fn, (199 : Nat)⟩, ⟨.bool, e⟩]), (3, .cells [⟨.int .i64, c⟩, ⟨.slice (.st yC), c2⟩]), (5, .cells [⟨.int .i64, w⟩, ⟨.int .i64, w2⟩]), (7, .own 7), (8, .own 8)], [⟨42, .st yC, 0, true, ([] : List (Option Cs))⟩, ⟨42, .st yR, 0, true, ([] : List (Option (List Cn)))⟩, ⟨44, .st yT, 0, true, ([] : List Os)⟩, ⟨58, .st yT, 0, true, hp3⟩, ⟨3, .int .i64, 0, true, ([] : List (Option (List Int)))⟩], ⟨.unit, ()⟩, [⟨[.int .i64], rest⟩], T.sites 100146⟩
def f125 (v : Nat) (hp4 : List (Option (List Int))) : Option Ts := evI T B lf 100040 (v, hp4)
def f125_L0 (v : Nat) (i : Int) (out : Ts) (hp4 : List (Option (List Int))) : Option Ts :=
 LL T B lf 100040 0 ⟨⟨26, [(4, .rv (.cv ⟨.int .i64, i⟩)), (3, .rv (.own 3)), (0, .rv (.cv ⟨.ref 4, v⟩))], gl⟩, [(3, ⟨44, .st yT, out⟩)], [], [⟨42, .st yC, 0, true, ([] : List (Option Cs))⟩, ⟨42, .st yR, 0, true, ([] : List (Option (List Cn)))⟩, ⟨44, .st yT, 0, true, ([] : List Os)⟩, ⟨58, .st yT, 0, true, ([] : List Os)⟩, ⟨3, .int .i64, 0, false, hp4⟩], ⟨.unit, ()⟩, [], T.sites 100040⟩
def f126 (s : Ts) (f : Int) : Option (Bool) := evI T B lf 100070 (s, f)
def f127 (s : Ts) (f : (Int × Cs × Unit) × Int × ByteArray × Ts × Unit) : Option (Bool) := evI T B lf 100071 (s, f)
def f128 (s : Ts) (f : Int) : Option (Int) := evI T B lf 100109 (s, f)
def f128_L0 (s : Ts) (f : Int) (t : Int) (t2 : Int) : Option (Int) :=
 LL T B lf 100109 0 ⟨⟨19, [(8, .rv (.cv ⟨.int .i64, t2⟩)), (7, .rv (.cv ⟨.int .i64, t⟩)), (1, .fn 71 [.vel [⟨.int .i64, f⟩]]), (0, .rv (.cv ⟨.slice (.st yT), s⟩))], gl⟩, [], [], [⟨42, .st yC, 0, true, ([] : List (Option Cs))⟩, ⟨42, .st yR, 0, true, ([] : List (Option (List Cn)))⟩, ⟨44, .st yT, 0, true, ([] : List Os)⟩, ⟨58, .st yT, 0, true, ([] : List Os)⟩, ⟨3, .int .i64, 0, true, ([] : List (Option (List Int)))⟩], ⟨.unit, ()⟩, [], T.sites 100109⟩
def f129 (s : Ts) (f : (Int × Cs × Unit) × Int × ByteArray × Ts × Unit) : Option (Int) := evI T B lf 100110 (s, f)
def f129_L0 (s : Ts) (f : Int) (f2 : List Cl) (f3 : Int) (f4 : ByteArray) (f5 : Ts) (t : Int) (t2 : Int) : Option (Int) :=
 LL T B lf 100110 0 ⟨⟨19, [(8, .rv (.cv ⟨.int .i64, t2⟩)), (7, .rv (.cv ⟨.int .i64, t⟩)), (1, .fn 72 [.vel [⟨.int .i64, f⟩, ⟨.slice (.st yC), f2⟩], .vel [⟨.int .i64, f3⟩, ⟨.str, f4⟩, ⟨.slice (.st yT), f5⟩]]), (0, .rv (.cv ⟨.slice (.st yT), s⟩))], gl⟩, [], [], [⟨42, .st yC, 0, true, ([] : List (Option Cs))⟩, ⟨42, .st yR, 0, true, ([] : List (Option (List Cn)))⟩, ⟨44, .st yT, 0, true, ([] : List Os)⟩, ⟨58, .st yT, 0, true, ([] : List Os)⟩, ⟨3, .int .i64, 0, true, ([] : List (Option (List Int)))⟩], ⟨.unit, ()⟩, [], T.sites 100110⟩
end
end Go.Proofs.YtofjebmoebhiiaaGreatDoor.Ev

