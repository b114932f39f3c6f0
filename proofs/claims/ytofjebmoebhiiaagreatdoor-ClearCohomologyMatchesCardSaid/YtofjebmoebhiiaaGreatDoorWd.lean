/- YtofjebmoebhiiaaGreatDoorWd: a part of the proof (Tab, Defs, Eqchain ..). No condition. -/
import Derived.Test.YtofjebmoebhiiaaGreatDoorWc
import Derived.KernelRfl
import Derived.Test.YtofjebmoebhiiaaGreatDoorProg
set_option linter.unusedVariables false
set_option linter.unusedSimpArgs false
set_option maxRecDepth 100000
set_option exponentiation.threshold 2000
namespace Go.Proofs.YtofjebmoebhiiaaGreatDoor.Ev
open Go.Abs
abbrev ff:Bool:=false
abbrev zI:Ty:= .int .i64
abbrev zT:Ty:= .pair zI (.pair zI .unit)
abbrev zC:Ty:= .pair zI (.pair .str (.pair (.slice (.st zT)) .unit))
abbrev zR:Ty:= .pair zI (.pair .str (.pair (.ref 2) .unit))
abbrev zH:Ty:= .st (.pair zI (.pair (.slice (.st zC)) .unit))
abbrev zW:Ty:= .st (.pair (.slice (.slice zI)) (.pair (.slice zI) (.pair zI (.pair (.slice zI) .unit))))
abbrev zB:List (Ty×Option Nat):=[(.bool,none)]
def tys:List gJ:=[
 ⟨1, .fn,8,0,[],false⟩,
 ⟨2,zI,8,0,[],false⟩,
 ⟨3,zI,8,0,[],false⟩,
 ⟨4, .bool,1,0,[],false⟩,
 ⟨5,(.int .u8),1,0,[],false⟩,
 ⟨6,(.int .u8),1,0,[],false⟩,
 ⟨7,(.st (.pair zI (.pair zI (.pair .bool (.pair (.int .u8) .unit))))),24,0,[(0,1),(1,1),(2,1),(3,1)],false⟩,
 ⟨8,(.st (.pair zI (.pair zI (.pair .bool (.pair (.int .u8) .unit))))),24,0,[(0,1),(1,1),(2,1),(3,1)],false⟩,
 ⟨9, .str,16,0,[],false⟩,
 ⟨10, .str,16,0,[],false⟩,
 ⟨11, .str,16,0,[],false⟩,
 ⟨12,(.int .u64),8,0,[],false⟩,
 ⟨13,(.st (.pair .str (.pair (.int .u64) .unit))),24,0,[(0,1),(1,1)],false⟩,
 ⟨14,(.st (.pair .str (.pair (.int .u64) .unit))),24,0,[(0,1),(1,1)],false⟩,
 ⟨21,(.int .i32),4,0,[],false⟩,
 ⟨22,(.slice (.st zC)),24,42,[],false⟩,
 ⟨23,(.st (.pair zI (.pair (.ref 0) .unit))),32,0,[(0,1),(1,1)],false⟩,
 ⟨24,(.st (.pair zI (.pair (.ref 0) .unit))),32,0,[(0,1),(1,1)],false⟩,
 ⟨25,(.slice (.slice zI)),24,26,[],false⟩,
 ⟨26,(.slice zI),24,3,[],false⟩,
 ⟨27,zW,80,0,[(0,1),(1,1),(2,1),(3,1)],false⟩,
 ⟨28,zW,80,0,[(0,1),(1,1),(2,1),(3,1)],false⟩,
 ⟨29, .fn,8,0,[],false⟩,
 ⟨30, .fn,8,0,[],false⟩,
 ⟨31, .fn,8,0,[],false⟩,
 ⟨32,(.slice (.st (.pair zI (.pair (.ref 0) .unit)))),24,24,[],false⟩,
 ⟨33, .fn,8,0,[],false⟩,
 ⟨34,zI,8,0,[],false⟩,
 ⟨35, .fn,8,0,[],false⟩,
 ⟨37, .fn,8,0,[],false⟩,
 ⟨38, .fn,8,0,[],false⟩,
 ⟨39, .str,16,0,[],false⟩,
 ⟨40,(.slice (.st zT)),24,44,[],false⟩,
 ⟨41,(.st zC),48,0,[(0,1),(1,1),(2,1)],false⟩,
 ⟨42,(.st zC),48,0,[(0,1),(1,1),(2,1)],false⟩,
 ⟨43,(.st zT),16,0,[(0,1),(1,1)],false⟩,
 ⟨44,(.st zT),16,0,[(0,1),(1,1)],false⟩,
 ⟨45, .fn,8,0,[],false⟩,
 ⟨46,(.slice (.st zT)),24,58,[],false⟩,
 ⟨47,(.st zT),16,0,[(0,1),(1,1)],false⟩,
 ⟨48,(.st zT),16,0,[(0,1),(1,1)],false⟩,
 ⟨50, .fn,8,0,[],false⟩,
 ⟨51, .fn,8,0,[],false⟩,
 ⟨53, .fn,8,0,[],false⟩,
 ⟨54, .fn,8,0,[],false⟩,
 ⟨55, .fn,8,0,[],false⟩,
 ⟨56, .fn,8,0,[],false⟩,
 ⟨57,(.st zT),16,0,[(0,1),(1,1)],false⟩,
 ⟨58,(.st zT),16,0,[(0,1),(1,1)],false⟩,
 ⟨59, .fn,8,0,[],false⟩,
 ⟨60, .fn,8,0,[],false⟩,
 ⟨61, .fn,8,0,[],false⟩,
 ⟨62,(.slice (.st (.pair (.slice zI) (.pair .str .unit)))),24,101,[],false⟩,
 ⟨63,(.slice (.st (.pair (.slice zI) (.pair .str .unit)))),24,101,[],false⟩,
 ⟨64, .fn,8,0,[],false⟩,
 ⟨65, .fn,8,0,[],false⟩,
 ⟨66, .fn,8,0,[],false⟩,
 ⟨67, .fn,8,0,[],false⟩,
 ⟨68, .fn,8,0,[],false⟩,
 ⟨69, .fn,8,0,[],false⟩,
 ⟨70, .fn,8,0,[],false⟩,
 ⟨71, .fn,8,0,[],false⟩,
 ⟨72, .fn,8,0,[],false⟩,
 ⟨73,(.slice (.int .u32)),24,168,[],false⟩,
 ⟨74,(.st (.pair .bool (.pair (.slice (.int .u32)) .unit))),32,0,[(0,1),(1,1)],false⟩,
 ⟨75,(.st (.pair .bool (.pair (.slice (.int .u32)) .unit))),32,0,[(0,1),(1,1)],false⟩,
 ⟨76,(.st (.pair (.st (.pair .bool (.pair (.slice (.int .u32)) .unit))) (.pair (.st (.pair .bool (.pair (.slice (.int .u32)) .unit))) .unit))),64,0,[(0,2),(2,2)],false⟩,
 ⟨77,(.st (.pair (.st (.pair .bool (.pair (.slice (.int .u32)) .unit))) (.pair (.st (.pair .bool (.pair (.slice (.int .u32)) .unit))) .unit))),64,0,[(0,2),(2,2)],false⟩,
 ⟨79, .fn,8,0,[],false⟩,
 ⟨80, .fn,8,0,[],false⟩,
 ⟨81, .fn,8,0,[],false⟩,
 ⟨83, .fn,8,0,[],false⟩,
 ⟨84, .fn,8,0,[],false⟩,
 ⟨85,(.st (.pair .fn (.pair .bool .unit))),16,0,[(0,1),(1,1)],false⟩,
 ⟨86,(.st (.pair .fn (.pair .bool .unit))),16,0,[(0,1),(1,1)],false⟩,
 ⟨87, .fn,8,0,[],false⟩,
 ⟨88, .fn,8,0,[],false⟩,
 ⟨89,(.ptr 5),8,0,[],false⟩,
 ⟨90, .fn,8,0,[],false⟩,
 ⟨91, .fn,8,0,[],false⟩,
 ⟨92, .fn,8,0,[],false⟩,
 ⟨93,(.slice .bool),24,4,[],false⟩,
 ⟨94,(.st (.pair zH (.pair (.ref 6) (.pair (.ref 4) (.pair (.ref 7) zT))))),120,0,[(0,2),(2,1),(3,1),(4,1),(5,1),(6,1)],false⟩,
 ⟨95,(.st (.pair zH (.pair (.ref 6) (.pair (.ref 4) (.pair (.ref 7) zT))))),120,0,[(0,2),(2,1),(3,1),(4,1),(5,1),(6,1)],false⟩,
 ⟨97, .fn,8,0,[],false⟩,
 ⟨98, .fn,8,0,[],false⟩,
 ⟨99,(.slice zI),24,3,[],false⟩,
 ⟨100,(.st (.pair (.slice zI) (.pair .str .unit))),40,0,[(0,1),(1,1)],false⟩,
 ⟨101,(.st (.pair (.slice zI) (.pair .str .unit))),40,0,[(0,1),(1,1)],false⟩,
 ⟨102, .fn,8,0,[],false⟩,
 ⟨103, .fn,8,0,[],false⟩,
 ⟨104,(.slice (.slice zI)),24,99,[],false⟩,
 ⟨105, .fn,8,0,[],false⟩,
 ⟨106,(.slice .str),24,39,[],false⟩,
 ⟨107, .fn,8,0,[],false⟩,
 ⟨109, .fn,8,0,[],false⟩,
 ⟨110, .fn,8,0,[],false⟩,
 ⟨111, .fn,8,0,[],false⟩,
 ⟨112, .fn,8,0,[],false⟩,
 ⟨113, .fn,8,0,[],false⟩,
 ⟨114, .fn,8,0,[],false⟩,
 ⟨115, .fn,8,0,[],false⟩,
 ⟨116, .fn,8,0,[],false⟩,
 ⟨117, .fn,8,0,[],false⟩,
 ⟨118, .str,16,0,[],false⟩,
 ⟨120, .fn,8,0,[],false⟩,
 ⟨121, .fn,8,0,[],false⟩,
 ⟨122, .fn,8,0,[],false⟩,
 ⟨123, .fn,8,0,[],false⟩,
 ⟨124, .fn,8,0,[],false⟩,
 ⟨125, .fn,8,0,[],false⟩,
 ⟨127, .fn,8,0,[],false⟩,
 ⟨129, .fn,8,0,[],false⟩,
 ⟨130, .fn,8,0,[],false⟩,
 ⟨131, .fn,8,0,[],false⟩,
 ⟨132, .fn,8,0,[],false⟩,
 ⟨133, .fn,8,0,[],false⟩,
 ⟨134, .fn,8,0,[],false⟩,
 ⟨135, .fn,8,0,[],false⟩,
 ⟨136,(.slice (.slice (.st zT))),24,40,[],false⟩,
 ⟨137, .fn,8,0,[],false⟩,
 ⟨138, .fn,8,0,[],false⟩,
 ⟨139, .fn,8,0,[],false⟩,
 ⟨141, .fn,8,0,[],false⟩,
 ⟨143, .fn,8,0,[],false⟩,
 ⟨145, .fn,8,0,[],false⟩,
 ⟨146, .fn,8,0,[],false⟩,
 ⟨147, .fn,8,0,[],false⟩,
 ⟨148, .fn,8,0,[],false⟩,
 ⟨149,(.int .u64),8,0,[],false⟩,
 ⟨150, .fn,8,0,[],false⟩,
 ⟨151, .fn,8,0,[],false⟩,
 ⟨152, .fn,8,0,[],false⟩,
 ⟨153, .fn,8,0,[],false⟩,
 ⟨154, .fn,8,0,[],false⟩,
 ⟨155, .fn,8,0,[],false⟩,
 ⟨156, .fn,8,0,[],false⟩,
 ⟨157, .fn,8,0,[],false⟩,
 ⟨158, .fn,8,0,[],false⟩,
 ⟨159, .fn,8,0,[],false⟩,
 ⟨160, .fn,8,0,[],false⟩,
 ⟨161, .fn,8,0,[],false⟩,
 ⟨163, .fn,8,0,[],false⟩,
 ⟨164, .fn,8,0,[],false⟩,
 ⟨165, .fn,8,0,[],false⟩,
 ⟨167, .fn,8,0,[],false⟩,
 ⟨168,(.int .u32),4,0,[],false⟩,
 ⟨169,(.slice (.int .u8)),24,5,[],false⟩,
 ⟨170, .fn,8,0,[],false⟩,
 ⟨171,(.int .u64),8,0,[],false⟩,
 ⟨172, .fn,8,0,[],false⟩,
 ⟨173, .fn,8,0,[],false⟩,
 ⟨175, .fn,8,0,[],false⟩,
 ⟨176, .fn,8,0,[],false⟩,
 ⟨177,zI,8,0,[],false⟩,
 ⟨179, .fn,8,0,[],false⟩,
 ⟨180, .fn,8,0,[],false⟩,
 ⟨181, .fn,8,0,[],false⟩,
 ⟨182, .fn,8,0,[],false⟩,
 ⟨183,zI,8,0,[],false⟩,
 ⟨185, .fn,8,0,[],false⟩,
 ⟨186, .fn,8,0,[],false⟩,
 ⟨187, .fn,8,0,[],false⟩,
 ⟨188, .fn,8,0,[],false⟩,
 ⟨189, .fn,8,0,[],false⟩,
 ⟨190, .fn,8,0,[],false⟩,
 ⟨191, .fn,8,0,[],false⟩,
 ⟨193, .fn,8,0,[],false⟩,
 ⟨194, .fn,8,0,[],false⟩,
 ⟨195, .fn,8,0,[],false⟩,
 ⟨196, .fn,8,0,[],false⟩,
 ⟨197, .fn,8,0,[],false⟩,
 ⟨198, .fn,8,0,[],false⟩,
 ⟨199, .fn,8,0,[],false⟩,
 ⟨200, .fn,8,0,[],false⟩,
 ⟨201, .fn,8,0,[],false⟩,
 ⟨202, .fn,8,0,[],false⟩,
 ⟨204, .fn,8,0,[],false⟩,
 ⟨205, .fn,8,0,[],false⟩,
 ⟨206, .fn,8,0,[],false⟩,
 ⟨207, .fn,8,0,[],false⟩,
 ⟨208,(.st zT),16,0,[(0,1),(1,1)],true⟩,
 ⟨209,(.int .u64),8,0,[],false⟩,
 ⟨210, .fn,8,0,[],false⟩,
 ⟨211, .fn,8,0,[],false⟩,
 ⟨212, .fn,8,0,[],false⟩,
 ⟨214, .fn,8,0,[],false⟩,
 ⟨216, .fn,8,0,[],false⟩,
 ⟨217, .fn,8,0,[],false⟩,
 ⟨218, .fn,8,0,[],false⟩,
 ⟨219, .fn,8,0,[],false⟩,
 ⟨220, .fn,8,0,[],false⟩,
 ⟨221, .fn,8,0,[],false⟩,
 ⟨224, .fn,8,0,[],false⟩,
 ⟨225, .fn,8,0,[],false⟩,
 ⟨227, .fn,8,0,[],false⟩,
 ⟨228, .fn,8,0,[],false⟩,
 ⟨234,(.int .u8),1,0,[],false⟩,
 ⟨235,(.int .u8),1,0,[],false⟩,
 ⟨236, .fn,8,0,[],false⟩,
 ⟨238,(.int .i32),4,0,[],false⟩,
 ⟨239,(.int .i32),4,0,[],false⟩]
def ag:List HT:=[⟨42,(.st zC),0⟩,⟨42,(.st zR),0⟩,⟨44,(.st zT),0⟩,⟨58,(.st zT),0⟩,⟨3,zI,0⟩,⟨95,(.st (.pair zH (.pair (.ref 6) (.pair (.ref 4) (.pair (.ref 7) zT))))),1⟩,⟨26,(.pg zI),0⟩,⟨4, .bool,0⟩,⟨101,(.st (.pair (.ref 4) (.pair .str .unit))),0⟩,⟨24,zH,0⟩]
def ap3:List (Nat×Nat):=[(100045,45),(100145,45),(100046,46),(100146,46),(100084,84),(101038,38),(102038,38),(100040,40),(100070,70),(100071,70),(100109,109),(100110,109)]
def real (v:Nat):Nat:=bif Nat.blt v 100000 then v else (Go.Abs.look ap3 v).getD 0
def sigs:List (Nat×KX):=[
 (3,⟨[.v zH, .v zW],zB,none,[],none⟩),
 (4,⟨[.v zH, .v zW],zB,none,[],none⟩),
 (5,⟨[.v zH, .v zW],zB,none,[],none⟩),
 (6,⟨[.v zH, .v zW],zB,none,[],none⟩),
 (7,⟨[],zB,none,[],none⟩),
 (8,⟨[.v zW],zB,none,[],none⟩),
 (9,⟨[.v zW],zB,none,[],none⟩),
 (10,⟨[.v zW],zB,none,[],none⟩),
 (11,⟨[.v zW],zB,none,[],none⟩),
 (12,⟨[.v zH, .v zI],zB,none,[],none⟩),
 (13,⟨[],zB,none,[],none⟩),
 (14,⟨[.v zW, .v zI],[(zH,none)],none,[],none⟩),
 (15,⟨[.v zH],[((.st (.pair zI (.pair (.ref 0) .unit))),none)],none,[(0,true)],none⟩),
 (16,⟨[.v zH],[(zI,none)],none,[],none⟩),
 (17,⟨[.v zH],[(zH,none)],none,[],none⟩),
 (18,⟨[.v zH],[(zH,none),(zI,none)],none,[],none⟩),
 (19,⟨[.v zH, .v zH],zB,none,[],none⟩),
 (20,⟨[.v zH],[((.slice (.st zT)),none),((.st zT),none),(zI,none)],none,[],none⟩),
 (21,⟨[.v (.slice (.st zT)), .v (.st zT)],zB,none,[],none⟩),
 (22,⟨[.v zH],[((.slice (.st zT)),none),(zI,none),(zI,none)],none,[],none⟩),
 (23,⟨[.v (.slice (.st zT)), .v (.slice (.st zT))],zB,none,[],none⟩),
 (24,⟨[.v zH],[((.slice (.st zT)),none),((.st zT),none),(zI,none)],none,[],none⟩),
 (25,⟨[.v zH],[((.slice (.st zT)),none),(zI,none),(zI,none)],none,[],none⟩),
 (26,⟨[.v zH],[((.slice (.st zT)),none),((.st zT),none),(zI,none)],none,[],none⟩),
 (27,⟨[.v zH],[((.slice (.st zT)),none),(zI,none),(zI,none)],none,[],none⟩),
 (28,⟨[],[(zH,none)],none,[],none⟩),
 (29,⟨[.v zH],[((.slice (.st zT)),none)],none,[],none⟩),
 (30,⟨[.v (.slice (.st zT)), .v (.slice (.st zT))],zB,none,[],none⟩),
 (31,⟨[.v (.slice zI)],[((.slice (.st zT)),some 44)],none,[],none⟩),
 (32,⟨[.v (.slice (.slice zI)), .v (.slice zI), .v zI, .v zI, .v zI],[((.slice (.st (.pair (.slice zI) (.pair .str .unit)))),none)],none,[],none⟩),
 (33,⟨[.v (.slice (.st (.pair (.slice zI) (.pair .str .unit)))), .v zI],[(zH,none),(zI,none)],none,[],none⟩),
 (34,⟨[.v zI],[(zI,none)],none,[],none⟩),
 (35,⟨[.v zH, .v zI, .v zI, .v zI, .v zI],[(zH,none)],none,[],none⟩),
 (36,⟨[.v zI],zB,none,[],none⟩),
 (37,⟨[.v zH, .v zI],[(zI,none)],none,[],none⟩),
 (38,⟨[.v (.slice (.st zT)), .v zI],[((.slice zI),none)],none,[],none⟩),
 (39,⟨[.v .str],[(.str,none)],none,[],none⟩),
 (40,⟨[.v (.slice zI)],[((.slice (.st zT)),none)],none,[],none⟩),
 (41,⟨[.v zH],[(zI,none)],none,[],none⟩),
 (42,⟨[.v .str],[((.st (.pair (.st (.pair .bool (.pair (.slice (.int .u32)) .unit))) (.pair (.st (.pair .bool (.pair (.slice (.int .u32)) .unit))) .unit))),none),(.bool,none)],none,[],none⟩),
 (43,⟨[.v (.st (.pair (.st (.pair .bool (.pair (.slice (.int .u32)) .unit))) (.pair (.st (.pair .bool (.pair (.slice (.int .u32)) .unit))) .unit)))],[((.st (.pair (.st (.pair .bool (.pair (.slice (.int .u32)) .unit))) (.pair (.st (.pair .bool (.pair (.slice (.int .u32)) .unit))) .unit))),none)],none,[],none⟩),
 (44,⟨[.v (.st (.pair (.st (.pair .bool (.pair (.slice (.int .u32)) .unit))) (.pair (.st (.pair .bool (.pair (.slice (.int .u32)) .unit))) .unit)))],[(.str,none)],none,[],none⟩),
 (47,⟨[.v zH],[((.ptr 5),none)],none,[(5,true),(6,true),(4,true),(7,true)],none⟩),
 (48,⟨[.v (.ptr 5), .v zI],[],none,[(5,true),(6,true),(4,true),(7,true)],none⟩),
 (49,⟨[.v (.ptr 5)],[((.slice (.st zT)),none)],none,[(5,ff),(6,ff),(4,ff),(7,ff)],none⟩),
 (50,⟨[.v (.ref 3), .fn 51 []],[],none,[(3,true)],none⟩),
 (51,⟨[.v (.st zT), .v (.st zT)],[(zI,none)],none,[],none⟩),
 (52,⟨[.v zH, .v zI, .v zI],[(zI,none)],none,[],none⟩),
 (53,⟨[.v (.slice (.slice zI))],[((.slice (.slice zI)),none)],none,[],none⟩),
 (54,⟨[.v (.slice (.slice zI)), .v zI, .v zI, .v zI],[((.slice (.slice zI)),none)],none,[],none⟩),
 (55,⟨[.v zI],[(.str,none)],none,[],none⟩),
 (56,⟨[.v (.slice (.slice zI)), .v (.slice .str)],[((.slice (.st (.pair (.slice zI) (.pair .str .unit)))),none),(zI,none)],none,[],none⟩),
 (57,⟨[.v (.slice (.st (.pair (.slice zI) (.pair .str .unit))))],[(zI,none)],none,[],none⟩),
 (58,⟨[.v (.slice zI)],[((.slice (.slice zI)),none)],none,[],none⟩),
 (59,⟨[.v (.slice zI), .v (.slice zI)],[(zI,none)],none,[],none⟩),
 (60,⟨[.v zI, .v zI],[(zI,none)],none,[],none⟩),
 (61,⟨[.v .str],zB,none,[],none⟩),
 (62,⟨[.v zI, .v (.slice (.st zT))],[(zI,none)],none,[],none⟩),
 (63,⟨[.v zH, .v (.slice (.st zT))],[((.slice zI),none)],none,[],none⟩),
 (64,⟨[.v .str, .v .str],[(zI,none)],none,[],none⟩),
 (65,⟨[.v .str],[(.str,none),(.str,none),(.bool,none)],none,[],none⟩),
 (66,⟨[.v .str],[(.str,none)],none,[],none⟩),
 (67,⟨[.v zI],zB,none,[],none⟩),
 (68,⟨[.v .str],zB,none,[],none⟩),
 (69,⟨[.v zI, .v (.slice (.st zT))],[(zI,none)],none,[],none⟩),
 (71,⟨[.v (.st zT), .rp zI],zB,none,[],none⟩),
 (72,⟨[.v (.st zT), .rp zH, .rp (.st zC)],zB,none,[],none⟩),
 (73,⟨[.v zH, .v (.slice (.st zT))],[((.slice (.st zT)),none)],none,[],none⟩),
 (74,⟨[.v (.st (.pair (.st (.pair .bool (.pair (.slice (.int .u32)) .unit))) (.pair (.st (.pair .bool (.pair (.slice (.int .u32)) .unit))) .unit))), .v (.st (.pair (.st (.pair .bool (.pair (.slice (.int .u32)) .unit))) (.pair (.st (.pair .bool (.pair (.slice (.int .u32)) .unit))) .unit)))],[(zI,none)],none,[],none⟩),
 (75,⟨[.v .str, .v .str],[(.str,none),(.str,none),(.bool,none)],none,[],none⟩),
 (76,⟨[.v .str],[((.st (.pair .bool (.pair (.slice (.int .u32)) .unit))),none),(.bool,none)],none,[],none⟩),
 (77,⟨[.v zI],[((.st (.pair .bool (.pair (.slice (.int .u32)) .unit))),none)],none,[],none⟩),
 (78,⟨[.v (.st (.pair .bool (.pair (.slice (.int .u32)) .unit)))],[(zI,none)],none,[],none⟩),
 (79,⟨[.v (.st (.pair .bool (.pair (.slice (.int .u32)) .unit))), .v (.st (.pair .bool (.pair (.slice (.int .u32)) .unit)))],[(zI,none)],none,[],none⟩),
 (80,⟨[.v (.st (.pair .bool (.pair (.slice (.int .u32)) .unit))), .v (.st (.pair .bool (.pair (.slice (.int .u32)) .unit)))],[((.st (.pair .bool (.pair (.slice (.int .u32)) .unit))),none)],none,[],none⟩),
 (81,⟨[.v (.st (.pair .bool (.pair (.slice (.int .u32)) .unit)))],[((.st (.pair .bool (.pair (.slice (.int .u32)) .unit))),none)],none,[],none⟩),
 (82,⟨[.v (.st (.pair (.st (.pair .bool (.pair (.slice (.int .u32)) .unit))) (.pair (.st (.pair .bool (.pair (.slice (.int .u32)) .unit))) .unit)))],[((.st (.pair .bool (.pair (.slice (.int .u32)) .unit))),none)],none,[],none⟩),
 (83,⟨[.v (.st (.pair .bool (.pair (.slice (.int .u32)) .unit)))],[(.str,none)],none,[],none⟩),
 (84,⟨[.v (.slice (.st zT))],[((.slice (.st zT)),none)],none,[],none⟩),
 (85,⟨[.v (.slice (.st zT))],[(zI,none),(.bool,none)],none,[],none⟩),
 (86,⟨[.v zI, .v zI],[(zI,none),(zI,none)],none,[],none⟩),
 (87,⟨[.v zI, .v (.slice (.st zT)), .v zI, .v (.slice (.st zT))],[((.slice (.st zT)),none),(zI,none)],none,[],none⟩),
 (88,⟨[.v zI, .v zI],[(zI,none)],none,[],none⟩),
 (89,⟨[.v (.slice zI)],[(zI,none)],none,[],none⟩),
 (90,⟨[.v (.ref 3), .v zI, .v zI, .v zI, .fn 51 []],[],none,[(3,true)],none⟩),
 (91,⟨[.v (.int .u64)],[(zI,none)],none,[],none⟩),
 (92,⟨[.v zI, .v (.slice (.slice zI))],[(zI,none)],none,[],none⟩),
 (93,⟨[.v (.slice zI), .v zI, .v zI],[((.slice zI),none)],none,[],none⟩),
 (94,⟨[.v (.slice (.slice zI))],[((.slice (.slice zI)),none)],none,[],none⟩),
 (95,⟨[.v zI, .v zI],[(.str,none)],none,[],none⟩),
 (96,⟨[.v (.slice (.slice zI))],[(zI,none)],none,[],none⟩),
 (97,⟨[.v (.slice zI), .v (.slice zI)],zB,none,[],none⟩),
 (98,⟨[.v (.slice (.st (.pair (.slice zI) (.pair .str .unit))))],[((.slice (.st (.pair (.slice zI) (.pair .str .unit)))),none)],none,[],none⟩),
 (99,⟨[.v (.slice (.st (.pair (.slice zI) (.pair .str .unit)))), .v zI],[(zI,none)],none,[],none⟩),
 (100,⟨[.v (.slice (.st (.pair (.slice zI) (.pair .str .unit)))), .v zI, .v (.slice zI)],[(zI,none)],none,[],none⟩),
 (101,⟨[.v (.slice zI), .v zI],[((.slice zI),none)],none,[],none⟩),
 (102,⟨[.v .str],zB,none,[],none⟩),
 (103,⟨[.v .str],zB,none,[],none⟩),
 (104,⟨[.v .str, .v .str],[(zI,none)],none,[],none⟩),
 (105,⟨[.v .str, .v .str],[(.str,none)],none,[],none⟩),
 (106,⟨[.v .str],[(.bool,none),((.slice zI),none)],none,[],none⟩),
 (107,⟨[.v .bool, .v (.slice zI)],[(.str,none)],none,[],none⟩),
 (108,⟨[.v .str],[((.st (.pair (.st (.pair .bool (.pair (.slice (.int .u32)) .unit))) (.pair (.st (.pair .bool (.pair (.slice (.int .u32)) .unit))) .unit))),none),(.bool,none)],none,[],none⟩),
 (110,⟨[.v (.st (.pair .bool (.pair (.slice (.int .u32)) .unit))), .v (.st (.pair .bool (.pair (.slice (.int .u32)) .unit)))],[((.st (.pair .bool (.pair (.slice (.int .u32)) .unit))),none)],none,[],none⟩),
 (111,⟨[.v .str, .v .str],[(.str,none),(.str,none),(.bool,none)],none,[],none⟩),
 (112,⟨[.v .str, .v .str],[(.str,none),(.bool,none)],none,[],none⟩),
 (113,⟨[.v .bool, .v (.slice (.int .u32))],[((.st (.pair .bool (.pair (.slice (.int .u32)) .unit))),none)],none,[],none⟩),
 (114,⟨[.v (.slice (.int .u32)), .v (.slice (.int .u32))],[(zI,none)],none,[],none⟩),
 (115,⟨[.v zI, .v zI],[(zI,none)],none,[],none⟩),
 (116,⟨[.v (.slice (.int .u32))],[(zI,none)],none,[],none⟩),
 (117,⟨[.v (.slice (.int .u32)), .v (.slice (.int .u32))],[((.slice (.int .u32)),none),((.slice (.int .u32)),none)],none,[],none⟩),
 (118,⟨[.v (.slice (.int .u32))],[((.slice (.int .u32)),none)],none,[],none⟩),
 (119,⟨[.v zI],[(zI,none),(zI,none)],none,[],none⟩),
 (120,⟨[.v zI, .v zI],[(zI,none)],none,[],none⟩),
 (121,⟨[.v zI, .v zI],[(zI,none)],none,[],none⟩),
 (122,⟨[.v zI, .v (.slice (.slice (.st zT)))],[(zI,none)],none,[],none⟩),
 (123,⟨[.v zI, .v (.slice (.st zT)), .v zI, .v (.slice (.st zT))],[((.slice (.st zT)),none)],none,[],none⟩),
 (124,⟨[.v (.ref 3), .v zI, .v zI, .fn 51 []],[],none,[(3,true)],none⟩),
 (125,⟨[.v (.ref 3), .v zI, .v zI, .fn 51 []],[],none,[(3,true)],none⟩),
 (126,⟨[.v (.ref 3), .v zI, .v zI, .fn 51 []],[],none,[(3,true)],none⟩),
 (127,⟨[.v (.ref 3), .v zI, .v zI, .fn 51 []],[(zI,none),(zI,none)],none,[(3,true)],none⟩),
 (128,⟨[.v (.ref 3), .v zI, .v zI, .fn 51 []],[],none,[(3,true)],none⟩),
 (129,⟨[.v (.ref 3), .v zI, .v zI, .fn 51 []],zB,none,[(3,true)],none⟩),
 (130,⟨[.v (.ref 3), .v zI, .v zI, .v zI, .fn 51 []],[(zI,none)],none,[(3,true)],none⟩),
 (131,⟨[.v (.ref 3), .v zI, .v zI, .v zI, .fn 51 []],[(zI,none),(.bool,none)],none,[(3,true)],none⟩),
 (132,⟨[.v (.int .u32)],[(zI,none)],none,[],none⟩),
 (133,⟨[.v (.int .u64)],[(zI,none)],none,[],none⟩),
 (134,⟨[.v (.slice zI), .v zI],zB,none,[],none⟩),
 (135,⟨[.v (.slice zI)],[((.slice zI),none),(zI,none)],none,[],none⟩),
 (136,⟨[.v (.slice zI)],[((.slice (.slice zI)),none)],none,[],none⟩),
 (137,⟨[.v (.slice (.slice zI)), .v (.slice zI)],[((.slice (.slice zI)),none)],none,[],none⟩),
 (138,⟨[.v .str, .v .str],[(.str,none)],none,[],none⟩),
 (139,⟨[.v zI],[(.str,none)],none,[],none⟩),
 (140,⟨[.v (.slice zI)],[(zI,none)],none,[],none⟩),
 (141,⟨[.v (.slice (.slice zI)), .v (.slice zI)],[(zI,none)],none,[],none⟩),
 (142,⟨[.v (.slice (.st (.pair (.slice zI) (.pair .str .unit))))],[((.ref 8),none)],none,[(8,true),(4,true)],none⟩),
 (143,⟨[.v .str],zB,none,[],none⟩),
 (144,⟨[.v .str],zB,none,[],none⟩),
 (145,⟨[.v .str, .v .str],[(.str,none)],none,[],none⟩),
 (146,⟨[.v (.slice zI), .v (.slice zI)],[(zI,none)],none,[],none⟩),
 (147,⟨[.v .str],[(zI,none),(.bool,none)],none,[],none⟩),
 (148,⟨[.v (.slice zI)],[((.slice zI),none)],none,[],none⟩),
 (149,⟨[.v (.st (.pair (.st (.pair .bool (.pair (.slice (.int .u32)) .unit))) (.pair (.st (.pair .bool (.pair (.slice (.int .u32)) .unit))) .unit)))],zB,none,[],none⟩),
 (150,⟨[.v .str, .v .str],[(zI,none)],none,[],none⟩),
 (151,⟨[.v .str, .v .str],[(.str,none),(.bool,none)],none,[],none⟩),
 (152,⟨[.v (.slice (.int .u32)), .v (.int .u32)],[((.slice (.int .u32)),none),((.int .u32),none)],none,[],none⟩),
 (153,⟨[.v (.slice (.int .u32)), .v (.slice (.int .u32))],[((.slice (.int .u32)),none),((.slice (.int .u32)),none)],none,[],none⟩),
 (154,⟨[.v zI, .v zI, .v zI],[(zI,none)],none,[],none⟩),
 (155,⟨[.v (.slice (.st zT)), .v (.slice (.st zT))],[],some (171,[(.slice (.st zT)),(.slice (.st zT))]),[],none⟩),
 (156,⟨[.v (.ref 3), .v zI, .v zI, .v zI, .fn 51 []],[],none,[(3,true)],none⟩),
 (157,⟨[.v zI],[((.int .u64),none)],none,[],none⟩),
 (161,⟨[.v .str, .v .str],[(.str,none),(.str,none)],none,[],none⟩),
 (162,⟨[.v .str],[(zI,none)],none,[],none⟩),
 (163,⟨[.v .str],[(.str,none)],none,[],none⟩),
 (164,⟨[.v (.st (.pair .bool (.pair (.slice (.int .u32)) .unit)))],zB,none,[],none⟩),
 (165,⟨[.v .str, .v (.int .u8)],[(zI,none)],none,[],none⟩),
 (167,⟨[.v zI],[(zI,none)],none,[],none⟩),
 (168,⟨[.v .str, .v .str],[(zI,none)],none,[],none⟩),
 (169,⟨[.v .str, .v .str],zB,none,[],none⟩),
 (170,⟨[.v (.slice (.int .u32)), .v (.int .u32)],[((.slice (.int .u32)),some 168)],none,[],none⟩),
 (171,⟨[.N3, .bx (.slice (.st zT)), .bx (.slice (.st zT))],[],none,[],some [zI,(.st zT)]⟩),
 (173,⟨[.v (.slice zI), .v (.slice zI)],[((.slice zI),none)],none,[],none⟩),
 (174,⟨[.v .str, .v .str],[(.str,none)],none,[],none⟩),
 (175,⟨[.v .str, .v .str],[(.str,none)],none,[],none⟩),
 (176,⟨[.v (.st (.pair .bool (.pair (.slice (.int .u32)) .unit)))],[(zI,none)],none,[],none⟩),
 (178,⟨[.v .str],[((.int .u32),none),((.int .u32),none)],none,[],none⟩),
 (179,⟨[.v (.slice zI), .v (.slice zI)],[((.slice zI),none)],none,[],none⟩),
 (196,⟨[.v zH],[],some (197,[zH]),[],none⟩),
 (197,⟨[.N3, .bx zH],[],none,[],some [zI]⟩),
 (198,⟨[.v zH],[],some (199,[zH]),[],none⟩),
 (199,⟨[.N3, .bx zH],[],none,[],some [zI]⟩),
 (100045,⟨[.v zH, .c [⟨.fn,(197:Nat)⟩,⟨.bool,false⟩], .fn 46 []],[((.ref 3),none),((.st zT),none),(zI,none)],none,[(3,true)],none⟩),
 (100145,⟨[.v zH, .c [⟨.fn,(199:Nat)⟩,⟨.bool,true⟩], .fn 46 []],[((.ref 3),none),((.st zT),none),(zI,none)],none,[(3,true)],none⟩),
 (100046,⟨[.c [⟨.fn,(197:Nat)⟩,⟨.bool,false⟩], .v zH],[((.ref 3),none),((.st zT),none)],none,[(3,true)],none⟩),
 (100146,⟨[.c [⟨.fn,(199:Nat)⟩,⟨.bool,true⟩], .v zH],[((.ref 3),none),((.st zT),none)],none,[(3,true)],none⟩),
 (100084,⟨[.v (.pg (.st zT))],[((.slice (.st zT)),none)],none,[],none⟩),
 (101038,⟨[.v (.slice (.st zT)), .v zI],[((.slice zI),some 3)],none,[],none⟩),
 (102038,⟨[.v (.slice (.st zT)), .v zI],[((.ref 4),none)],none,[(4,true)],none⟩),
 (100040,⟨[.v (.ref 4)],[((.slice (.st zT)),none)],none,[(4,ff)],none⟩),
 (100070,⟨[.v (.slice (.st zT)), .fn 71 [zI]],zB,none,[],none⟩),
 (100071,⟨[.v (.slice (.st zT)), .fn 72 [zH,(.st zC)]],zB,none,[],none⟩),
 (100109,⟨[.v (.slice (.st zT)), .fn 71 [zI]],[(zI,none)],none,[],none⟩),
 (100110,⟨[.v (.slice (.st zT)), .fn 72 [zH,(.st zC)]],[(zI,none)],none,[],none⟩)]
def sig (v:Nat):KX:=(Go.Abs.look sigs v).getD ⟨[],[],none,[],none⟩
def ap4:List (Nat×List Nat):=[(45,[100045,100145]),(46,[100046,100146]),(70,[100070,100071]),(109,[100109,100110])]
def ak5 (f:Nat):List Nat:=(Go.Abs.look ap4 f).getD [f]
def hints:List (Nat×List (List (Nat×Bool))):=[
 (3,[[(21,ff),(22,ff),(23,ff)],[(6,ff),(7,ff),(8,ff),(9,ff),(10,ff),(21,ff),(22,ff),(23,ff)],[(6,ff),(7,ff),(8,ff),(9,ff),(10,ff),(11,ff),(21,ff),(22,ff),(23,ff),(61,ff),(62,ff)],[(6,ff),(7,ff),(8,ff),(9,ff),(10,ff),(11,ff),(13,ff),(21,ff),(22,ff),(23,ff),(61,ff),(62,ff),(71,ff),(72,ff)]]),
 (4,[[(20,ff),(21,ff),(22,ff)]]),
 (5,[[(20,ff),(21,ff),(22,ff)]]),
 (6,[[(20,ff),(21,ff),(22,ff)]]),
 (9,[[(4,ff),(10,ff),(60,ff),(61,ff),(62,ff)],[(4,ff),(10,ff),(15,ff),(16,ff),(60,ff),(61,ff),(62,ff),(86,ff),(87,ff),(88,ff)]]),
 (10,[[(5,ff),(6,ff),(8,ff),(9,ff),(11,ff),(12,ff),(13,ff),(38,ff),(39,ff),(40,ff)]]),
 (12,[[(13,ff),(14,ff),(15,ff)]]),
 (14,[[(2,ff),(4,ff),(7,ff),(9,ff)],[(2,ff),(4,ff),(7,ff),(9,ff),(10,ff),(11,ff),(12,ff)]]),
 (15,[[(1,ff),(2,ff),(3,ff),(4,ff)]]),
 (16,[[(1,ff),(3,ff)]]),
 (17,[[(1,ff),(2,ff),(3,ff),(4,ff),(5,ff)],[(1,ff),(2,ff),(3,ff),(4,ff),(5,ff),(6,ff),(7,ff),(8,ff)]]),
 (18,[[(1,ff),(2,ff),(5,ff),(6,ff),(34,ff),(35,ff)],[(1,ff),(2,ff),(5,ff),(6,ff),(11,ff)],[(1,ff),(2,ff),(5,ff),(6,ff),(11,ff),(78,ff),(79,ff),(80,ff)]]),
 (19,[[(2,ff),(3,ff),(5,ff)]]),
 (22,[[(1,ff),(5,ff),(6,ff)]]),
 (23,[[(0,ff),(1,ff),(5,ff)]]),
 (25,[[(1,ff),(5,ff),(6,ff)],[(1,ff),(5,ff),(6,ff),(7,ff)]]),
 (26,[[(3,ff),(7,ff),(8,ff),(9,ff),(31,ff),(32,ff),(33,ff)]]),
 (27,[[(5,ff),(6,ff),(7,ff),(8,ff),(9,ff),(10,ff)],[(5,ff),(6,ff),(7,ff),(8,ff),(9,ff),(11,ff)],[(5,ff),(7,ff),(8,ff),(9,ff),(12,ff),(13,ff)]]),
 (29,[[(1,ff),(3,ff),(4,ff),(5,ff)],[(1,ff),(3,ff),(4,ff),(5,ff),(6,ff)],[(3,ff),(4,ff),(7,ff),(8,ff),(9,ff)],[(3,ff),(4,ff),(7,ff),(8,ff),(9,ff),(10,ff)],[(3,ff),(7,ff),(8,ff),(11,ff),(12,ff)]]),
 (30,[[(0,ff),(1,ff),(5,ff)]]),
 (31,[[(0,ff),(3,ff),(4,ff)]]),
 (32,[[(1,ff),(11,ff),(12,ff),(13,ff)]]),
 (33,[[(0,ff),(1,ff),(4,ff),(7,ff),(8,ff)],[(0,ff),(1,ff),(4,ff),(7,ff),(8,ff),(9,ff),(10,ff),(11,ff)],[(0,ff),(1,ff),(4,ff),(7,ff),(8,ff),(9,ff),(10,ff),(11,ff),(12,ff)]]),
 (35,[[(1,ff),(2,ff),(3,ff),(4,ff),(5,ff),(10,ff),(11,ff),(12,ff),(13,ff),(14,ff),(15,ff),(16,ff)],[(1,ff),(2,ff),(4,ff),(5,ff),(10,ff),(11,ff),(12,ff),(17,ff)]]),
 (36,[[(0,ff),(3,ff)]]),
 (37,[[(1,ff),(2,ff),(5,ff),(7,ff)],[(1,ff),(2,ff),(5,ff),(8,ff)]]),
 (38,[[(0,ff),(5,ff),(6,ff)]]),
 (40,[[(0,ff),(3,ff),(4,ff)]]),
 (41,[[(1,ff),(3,ff),(18,ff),(19,ff),(20,ff)]]),
 (48,[[(0,ff),(1,ff),(4,ff),(5,ff)],[(0,ff),(1,ff),(4,ff),(5,ff),(6,ff),(7,ff),(8,ff)]]),
 (49,[[(0,ff),(3,ff),(4,ff)]]),
 (52,[[(1,ff),(2,ff),(3,ff),(7,ff),(8,ff)]]),
 (53,[[(0,ff),(3,ff),(4,ff)]]),
 (54,[[(0,ff),(1,ff),(2,ff),(3,ff),(9,ff),(10,ff)],[(11,ff),(37,ff),(38,ff),(39,ff)]]),
 (56,[[(0,ff),(1,ff),(7,ff)],[(0,ff),(1,ff),(8,ff),(9,ff)],[(0,ff),(1,ff),(8,ff),(9,ff),(10,ff),(11,ff)]]),
 (57,[[(0,ff),(3,ff)],[(0,ff),(3,ff),(5,ff),(6,ff)]]),
 (58,[[(0,ff),(3,ff),(4,ff)]]),
 (59,[[(0,ff),(1,ff),(5,ff)]]),
 (60,[[(0,ff),(1,ff),(5,ff)]]),
 (62,[[(0,ff),(1,ff),(5,ff)]]),
 (63,[[(1,ff),(2,ff),(5,ff),(6,ff)],[(1,ff),(2,ff),(5,ff),(6,ff),(7,ff),(8,ff)]]),
 (65,[[(0,ff),(5,ff)]]),
 (67,[[(0,ff),(4,ff)]]),
 (69,[[(0,ff),(1,ff),(10,ff),(11,ff),(12,ff)]]),
 (73,[[(2,ff),(4,ff),(7,ff),(8,ff),(9,ff)]]),
 (76,[[(2,ff),(4,ff),(5,ff),(6,ff),(7,ff)],[(2,ff),(4,ff),(5,ff),(6,ff),(7,ff),(8,ff),(44,ff),(45,ff),(46,ff)]]),
 (77,[[(2,ff),(3,ff),(4,ff),(5,ff)]]),
 (80,[[(4,ff),(5,ff),(6,ff)]]),
 (83,[[(1,ff),(3,ff),(19,ff),(20,ff),(21,ff)],[(1,ff),(3,ff),(5,ff),(19,ff),(20,ff),(21,ff),(25,ff)],[(1,ff),(3,ff)],[(3,ff),(6,ff),(7,ff)]]),
 (89,[[(0,ff),(3,ff)]]),
 (90,[[(0,ff),(1,ff),(2,ff),(3,ff),(4,ff),(10,ff),(11,ff)]]),
 (92,[[(0,ff),(1,ff),(5,ff),(6,ff)],[(0,ff),(5,ff),(7,ff),(8,ff)],[(0,ff),(5,ff),(7,ff),(8,ff),(9,ff)],[(0,ff),(5,ff),(7,ff),(8,ff),(10,ff),(11,ff)],[(0,ff),(5,ff),(7,ff),(8,ff),(10,ff),(11,ff),(12,ff),(13,ff)]]),
 (93,[[(0,ff),(1,ff),(2,ff),(7,ff),(8,ff)]]),
 (94,[[(0,ff),(3,ff),(4,ff)],[(0,ff),(3,ff),(4,ff),(5,ff),(6,ff)]]),
 (96,[[(0,ff),(3,ff)],[(0,ff),(3,ff),(5,ff),(6,ff)]]),
 (97,[[(0,ff),(1,ff),(5,ff)]]),
 (98,[[(3,ff),(4,ff)],[(3,ff),(4,ff),(5,ff)]]),
 (100,[[(0,ff),(1,ff),(2,ff),(7,ff)]]),
 (101,[[(0,ff),(1,ff),(5,ff),(6,ff)]]),
 (105,[[(9,ff),(10,ff),(11,ff),(12,ff),(13,ff),(14,ff)],[(9,ff),(10,ff),(11,ff),(12,ff),(13,ff),(14,ff),(15,ff)],[(9,ff),(11,ff),(13,ff),(16,ff)]]),
 (106,[[(0,ff),(4,ff),(5,ff),(6,ff)]]),
 (107,[[(1,ff),(5,ff),(6,ff)]]),
 (110,[[(2,ff),(3,ff),(4,ff),(5,ff),(20,ff),(21,ff),(22,ff)],[(2,ff),(3,ff),(4,ff),(5,ff),(6,ff),(7,ff),(8,ff),(20,ff),(21,ff),(22,ff),(28,ff),(29,ff),(30,ff)]]),
 (114,[[(0,ff),(1,ff),(5,ff)]]),
 (115,[[(0,ff),(1,ff)]]),
 (116,[[(0,ff),(3,ff),(4,ff)]]),
 (118,[[(0,ff)]]),
 (122,[[(0,ff),(8,ff),(9,ff),(10,ff)]]),
 (123,[[(4,ff),(6,ff),(9,ff)]]),
 (124,[[(0,ff),(1,ff),(2,ff),(3,ff),(8,ff)],[(0,ff),(1,ff),(2,ff),(3,ff),(8,ff),(9,ff)]]),
 (125,[[(0,ff),(3,ff),(8,ff),(9,ff),(10,ff),(11,ff)],[(0,ff),(3,ff),(8,ff),(9,ff),(12,ff)]]),
 (126,[[(0,ff),(1,ff),(8,ff),(9,ff),(10,ff),(11,ff)]]),
 (128,[[(0,ff),(8,ff),(9,ff)]]),
 (129,[[(0,ff),(1,ff),(2,ff),(3,ff),(9,ff),(10,ff)],[(0,ff),(1,ff),(2,ff),(3,ff),(9,ff),(10,ff)],[(0,ff),(1,ff),(2,ff),(3,ff),(9,ff),(10,ff),(11,ff)],[(0,ff),(1,ff),(2,ff),(3,ff),(9,ff),(10,ff),(12,ff)]]),
 (130,[[(0,ff),(1,ff),(4,ff),(11,ff),(12,ff)],[(0,ff),(1,ff),(4,ff),(11,ff),(12,ff)],[(0,ff),(1,ff),(4,ff),(11,ff),(12,ff)]]),
 (131,[[(0,ff),(1,ff),(4,ff),(12,ff),(13,ff)],[(0,ff),(1,ff),(4,ff),(12,ff),(13,ff)],[(0,ff),(1,ff),(4,ff),(12,ff),(13,ff)],[(0,ff),(1,ff),(4,ff),(12,ff),(13,ff)],[(0,ff),(1,ff),(4,ff),(12,ff),(13,ff)]]),
 (134,[[(0,ff),(1,ff),(5,ff)]]),
 (135,[[(4,ff),(5,ff),(6,ff)],[(4,ff),(5,ff),(6,ff),(7,ff)]]),
 (136,[[(0,ff),(3,ff),(4,ff)],[(0,ff),(3,ff),(4,ff),(5,ff),(6,ff)]]),
 (137,[[(0,ff),(1,ff),(5,ff),(6,ff),(7,ff)]]),
 (139,[[(3,ff),(5,ff)],[(0,ff),(6,ff)]]),
 (140,[[(0,ff),(3,ff)],[(0,ff),(4,ff)]]),
 (141,[[(0,ff),(1,ff),(5,ff)]]),
 (142,[[(0,ff),(3,ff),(4,ff)]]),
 (144,[[(3,ff),(4,ff)]]),
 (145,[[(5,ff),(6,ff)]]),
 (146,[[(0,ff),(1,ff),(5,ff)]]),
 (147,[[(0,ff),(4,ff),(5,ff)]]),
 (148,[[(0,ff)]]),
 (150,[[(0,ff),(1,ff),(5,ff),(6,ff),(7,ff),(8,ff),(9,ff),(10,ff)]]),
 (152,[[(0,ff),(1,ff),(6,ff),(7,ff),(8,ff)]]),
 (153,[[(4,ff),(6,ff),(7,ff),(8,ff),(9,ff),(10,ff)],[(4,ff),(6,ff),(7,ff),(8,ff),(9,ff),(10,ff),(12,ff),(13,ff)],[(4,ff),(6,ff),(7,ff),(8,ff),(9,ff),(10,ff),(12,ff),(14,ff),(123,ff),(124,ff)],[(4,ff),(6,ff),(7,ff),(8,ff),(9,ff),(10,ff),(12,ff),(17,ff),(18,ff),(188,ff),(189,ff)]]),
 (154,[[(0,ff),(2,ff),(7,ff),(8,ff)]]),
 (156,[[(0,ff),(2,ff),(3,ff),(4,ff),(10,ff)]]),
 (161,[[(1,ff),(12,ff),(13,ff),(14,ff),(15,ff),(17,ff),(18,ff),(19,ff)],[(1,ff),(12,ff),(13,ff),(14,ff),(15,ff),(17,ff),(18,ff),(19,ff),(20,ff)],[(1,ff),(12,ff),(14,ff),(17,ff),(18,ff),(21,ff)]]),
 (168,[[(0,ff),(1,ff),(5,ff),(6,ff),(7,ff),(8,ff),(9,ff)],[(0,ff),(1,ff),(5,ff),(6,ff),(7,ff),(8,ff),(10,ff)]]),
 (170,[[(1,ff),(5,ff),(6,ff),(13,ff),(14,ff),(15,ff)]]),
 (171,[[(0,ff),(1,ff),(2,ff)]]),
 (173,[[(0,ff),(1,ff),(5,ff),(6,ff),(7,ff)]]),
 (176,[[(3,ff),(4,ff)]]),
 (178,[[(0,ff),(4,ff),(5,ff)],[(4,ff),(6,ff),(7,ff),(8,ff)]]),
 (179,[[(0,ff),(1,ff),(5,ff),(6,ff),(7,ff)]]),
 (197,[[(0,ff),(6,ff),(7,ff)]]),
 (199,[[(0,ff),(1,ff),(3,ff)],[(0,ff),(1,ff),(3,ff),(11,ff),(12,ff),(13,ff)]]),
 (100046,[[(2,ff),(3,ff),(4,ff),(5,ff),(7,ff),(8,ff),(27,ff),(28,ff)],[(2,ff),(3,ff),(4,ff),(5,ff),(7,ff),(8,ff)],[(3,ff),(5,ff),(7,ff),(8,ff),(10,ff),(11,ff),(12,ff),(13,ff)],[(4,ff),(5,ff),(137,ff),(138,ff),(139,ff)]]),
 (100146,[[(2,ff),(3,ff),(4,ff),(5,ff),(7,ff),(8,ff),(27,ff),(28,ff)],[(2,ff),(3,ff),(4,ff),(5,ff),(7,ff),(8,ff)],[(3,ff),(5,ff),(7,ff),(8,ff),(10,ff),(11,ff),(12,ff),(13,ff)],[(4,ff),(5,ff),(137,ff),(138,ff),(139,ff)]]),
 (101038,[[(0,ff),(5,ff),(6,ff)]]),
 (102038,[[(0,ff),(5,ff),(6,ff)]]),
 (100040,[[(0,ff),(3,ff),(4,ff)]]),
 (100109,[[(0,ff),(1,ff),(7,ff),(8,ff)]]),
 (100110,[[(0,ff),(1,ff),(7,ff),(8,ff)]])]
def hint (v:Nat):List (List (Nat×Bool)):=(Go.Abs.look hints v).getD []
def aob:List (Nat×List (Nat×Site)):=[(3,[(21, .heap 9)]),(4,[(20, .heap 9)]),(5,[(20, .heap 9)]),(6,[(20, .heap 9)]),(17,[(29, .heap 4),(64, .vid 100040)]),(18,[(30, .heap 1)]),(33,[(32, .heap 4),(87, .vid 100040)]),(35,[(28, .heap 4),(78, .vid 100040),(99, .vid 102038),(145, .vid 100040)]),(47,[(9, .heap 6),(11, .heap 4),(13, .heap 7)]),(48,[(29, .vid 101038)]),(142,[(2, .heap 8),(3, .heap 8),(12, .heap 4),(25, .heap 8)]),(100045,[(6, .heap 3)]),(100145,[(6, .heap 3)]),(100046,[(4, .heap 3),(23, .pg)]),(100146,[(4, .heap 3),(23, .pg)]),(102038,[(4, .heap 4),(8, .heap 4)])]
def sites (v:Nat):List (Nat×Site):=(Go.Abs.look aob v).getD []
def T:c9:=⟨tys,ag,real,sig,ak5,hint,sites,[(1000000000, .qB [⟨.fn,(197:Nat)⟩,⟨.bool,false⟩]),(1000000001, .qB [⟨.fn,(199:Nat)⟩,⟨.bool,true⟩])],[48,58,44]⟩
noncomputable def fns:List (Nat×Func):=[
 (3,Tryz.f3),(4,Tryz.f4),(5,Tryz.f5),(6,Tryz.f6),(7,Tryz.f7),(8,Tryz.f8),(9,Tryz.f9),(10,Tryz.f10),(11,Tryz.f11),(12,Tryz.f12),(13,Tryz.f13),(14,Tryz.f14),(15,Tryz.f15),(16,Tryz.f16),(17,Tryz.f17),(18,Tryz.f18),(19,Tryz.f19),(20,Tryz.f20),(21,Tryz.f21),(22,Tryz.f22),(23,Tryz.f23),(24,Tryz.f24),(25,Tryz.f25),(26,Tryz.f26),(27,Tryz.f27),(28,Tryz.f28),(29,Tryz.f29),(30,Tryz.f30),(31,Tryz.f31),(32,Tryz.f32),(33,Tryz.f33),(34,Tryz.f34),(35,Tryz.f35),(36,Tryz.f36),(37,Tryz.f37),(38,Tryz.f38),(39,Tryz.f39),(40,Tryz.f40),(41,Tryz.f41),(42,Tryz.f42),(43,Tryz.f43),(44,Tryz.f44),(47,Tryz.f47),(48,Tryz.f48),(49,Tryz.f49),(50,Tryz.f50),(51,Tryz.f51),(52,Tryz.f52),(53,Tryz.f53),(54,Tryz.f54),(55,Tryz.f55),(56,Tryz.f56),(57,Tryz.f57),(58,Tryz.f58),(59,Tryz.f59),(60,Tryz.f60),(61,Tryz.f61),(62,Tryz.f62),(63,Tryz.f63),(64,Tryz.f64),(65,Tryz.f65),(66,Tryz.f66),(67,Tryz.f67),(68,Tryz.f68),(69,Tryz.f69),(71,Tryz.f71),(72,Tryz.f72),(73,Tryz.f73),(74,Tryz.f74),(75,Tryz.f75),(76,Tryz.f76),(77,Tryz.f77),(78,Tryz.f78),(79,Tryz.f79),(80,Tryz.f80),(81,Tryz.f81),(82,Tryz.f82),(83,Tryz.f83),(84,Tryz.f84),(85,Tryz.f85),(86,Tryz.f86),(87,Tryz.f87),(88,Tryz.f88),(89,Tryz.f89),(90,Tryz.f90),(91,Tryz.f91),(92,Tryz.f92),(93,Tryz.f93),(94,Tryz.f94),(95,Tryz.f95),(96,Tryz.f96),(97,Tryz.f97),(98,Tryz.f98),(99,Tryz.f99),(100,Tryz.f100),(101,Tryz.f101),(102,Tryz.f102),(103,Tryz.f103),(104,Tryz.f104),(105,Tryz.f105),(106,Tryz.f106),(107,Tryz.f107),(108,Tryz.f108),(110,Tryz.f110),(111,Tryz.f111),(112,Tryz.f112),(113,Tryz.f113),(114,Tryz.f114),(115,Tryz.f115),(116,Tryz.f116),(117,Tryz.f117),(118,Tryz.f118),(119,Tryz.f119),(120,Tryz.f120),(121,Tryz.f121),(122,Tryz.f122),(123,Tryz.f123),(124,Tryz.f124),(125,Tryz.f125),(126,Tryz.f126),(127,Tryz.f127),(128,Tryz.f128),(129,Tryz.f129),(130,Tryz.f130),(131,Tryz.f131),(132,Tryz.f132),(133,Tryz.f133),(134,Tryz.f134),(135,Tryz.f135),(136,Tryz.f136),(137,Tryz.f137),(138,Tryz.f138),(139,Tryz.f139),(140,Tryz.f140),(141,Tryz.f141),(142,Tryz.f142),(143,Tryz.f143),(144,Tryz.f144),(145,Tryz.f145),(146,Tryz.f146),(147,Tryz.f147),(148,Tryz.f148),(149,Tryz.f149),(150,Tryz.f150),(151,Tryz.f151),(152,Tryz.f152),(153,Tryz.f153),(154,Tryz.f154),(155,Tryz.f155),(156,Tryz.f156),(157,Tryz.f157),(161,Tryz.f161),(162,Tryz.f162),(163,Tryz.f163),(164,Tryz.f164),(165,Tryz.f165),(167,Tryz.f167),(168,Tryz.f168),(169,Tryz.f169),(170,Tryz.f170),(171,Tryz.f171),(173,Tryz.f173),(174,Tryz.f174),(175,Tryz.f175),(176,Tryz.f176),(178,Tryz.f178),(179,Tryz.f179),(196,Tryz.f196),(197,Tryz.f197),(198,Tryz.f198),(199,Tryz.f199),(100045,Tryz.f45),(100145,Tryz.f45),(100046,Tryz.f46),(100146,Tryz.f46),(100084,Tryz.f84),(101038,Tryz.f38),(102038,Tryz.f38),(100040,Tryz.f40),(100070,Tryz.f70),(100071,Tryz.f70),(100109,Tryz.f109),(100110,Tryz.f109)]
def anV (x:Int×Int×Unit):List (Int×Int×Unit)→List (Int×Int×Unit)
 | []=>[x]
 |y::r=>bif decide (x.1<y.1) then x::y::r else y::anV x r
def ahe:List (Int×Int×Unit)→List (Int×Int×Unit)
 | []=>[]
 |x::r=>anV x (ahe r)
def okT:List (Int×Int×Unit)→Bool
 | []=>true
 |x::r=>decide (0≤x.1)&&decide (x.1<1000000000)&&(r.all fun y=> !decide (x.1=y.1))&&okT r
def amV (n:Nat)(hp:List (Option (List (Int×Int×Unit)))):Option (Unit×List (Option (List (Int×Int×Unit)))):=match n with
 |0=>some ((),hp)
 |n+1=>(af hp (n+1)).bind fun l=>bif Nat.ble l.length 1000000&&okT l then some ((),b9 hp (n+1) (ahe l)) else none
def Xo (c:Int)(i:Nat):List UInt8→Int
 | []=> -1
 |x::r=>bif ((x.toNat:Int)==c) then (i:Int) else Xo c (i+1) r
def B:OU T:=fun v=>match v with
 |50=>some fun(x:(Nat×Unit)×List (Option (List (Int×Int×Unit))))=>amV x.1.1 x.2
 |84=>some fun(x:List (Int×Int×Unit))=>bif aP 16 2 0 x.length then some x else none
 |165=>some fun(x:ByteArray×Int)=>bif decide (0≤x.2)&&decide (x.2<256) then some (Xo x.2 0 x.1.data.toList) else none
 |_=>none
theorem aoc:jA Tryz.prog T.rows:=an6 (by kernel_rfl)
theorem mixed:Tryz.prog.follows .mixedOrders=true:=by kernel_rfl
theorem aha:F6 Tryz.prog T:=ajy (by kernel_rfl)
theorem alP:aiB Tryz.prog T:=an8 (by kernel_rfl)
theorem ajI:VD T:=alM (l:=sigs) (by kernel_rfl) fun _=>rfl
theorem afH:O6 Tryz.prog T:=⟨mixed,aoc,aha,alP,ajI⟩
theorem aod:afA Tryz.prog T (Go.Abs.look fns):=We (
 ⟨⟨Tryz.func3,by kernel_rfl⟩,⟨⟨Tryz.func4,by kernel_rfl⟩,⟨⟨Tryz.func5,by kernel_rfl⟩,⟨⟨Tryz.func6,by kernel_rfl⟩,⟨⟨Tryz.func7,by kernel_rfl⟩,⟨⟨Tryz.func8,by kernel_rfl⟩,⟨⟨Tryz.func9,by kernel_rfl⟩,⟨⟨Tryz.func10,by kernel_rfl⟩,⟨⟨Tryz.func11,by kernel_rfl⟩,⟨⟨Tryz.func12,by kernel_rfl⟩,⟨⟨Tryz.func13,by kernel_rfl⟩,⟨⟨Tryz.func14,by kernel_rfl⟩,⟨⟨Tryz.func15,by kernel_rfl⟩,⟨⟨Tryz.func16,by kernel_rfl⟩,⟨⟨Tryz.func17,by kernel_rfl⟩,⟨⟨Tryz.func18,by kernel_rfl⟩,⟨⟨Tryz.func19,by kernel_rfl⟩,⟨⟨Tryz.func20,by kernel_rfl⟩,⟨⟨Tryz.func21,by kernel_rfl⟩,⟨⟨Tryz.func22,by kernel_rfl⟩,⟨⟨Tryz.func23,by kernel_rfl⟩,⟨⟨Tryz.func24,by kernel_rfl⟩,⟨⟨Tryz.func25,by kernel_rfl⟩,⟨⟨Tryz.func26,by kernel_rfl⟩,⟨⟨Tryz.func27,by kernel_rfl⟩,⟨⟨Tryz.func28,by kernel_rfl⟩,⟨⟨Tryz.func29,by kernel_rfl⟩,⟨⟨Tryz.func30,by kernel_rfl⟩,⟨⟨Tryz.func31,by kernel_rfl⟩,⟨⟨Tryz.func32,by kernel_rfl⟩,⟨⟨Tryz.func33,by kernel_rfl⟩,⟨⟨Tryz.func34,by kernel_rfl⟩,⟨⟨Tryz.func35,by kernel_rfl⟩,⟨⟨Tryz.func36,by kernel_rfl⟩,⟨⟨Tryz.func37,by kernel_rfl⟩,⟨⟨Tryz.func38,by kernel_rfl⟩,⟨⟨Tryz.func39,by kernel_rfl⟩,⟨⟨Tryz.func40,by kernel_rfl⟩,⟨⟨Tryz.func41,by kernel_rfl⟩,⟨⟨Tryz.func42,by kernel_rfl⟩,⟨⟨Tryz.func43,by kernel_rfl⟩,⟨⟨Tryz.func44,by kernel_rfl⟩,⟨⟨Tryz.func47,by kernel_rfl⟩,⟨⟨Tryz.func48,by kernel_rfl⟩,⟨⟨Tryz.func49,by kernel_rfl⟩,⟨⟨Tryz.func50,by kernel_rfl⟩,⟨⟨Tryz.func51,by kernel_rfl⟩,⟨⟨Tryz.func52,by kernel_rfl⟩,⟨⟨Tryz.func53,by kernel_rfl⟩,⟨⟨Tryz.func54,by kernel_rfl⟩,⟨⟨Tryz.func55,by kernel_rfl⟩,⟨⟨Tryz.func56,by kernel_rfl⟩,⟨⟨Tryz.func57,by kernel_rfl⟩,⟨⟨Tryz.func58,by kernel_rfl⟩,⟨⟨Tryz.func59,by kernel_rfl⟩,⟨⟨Tryz.func60,by kernel_rfl⟩,⟨⟨Tryz.func61,by kernel_rfl⟩,⟨⟨Tryz.func62,by kernel_rfl⟩,⟨⟨Tryz.func63,by kernel_rfl⟩,⟨⟨Tryz.func64,by kernel_rfl⟩,⟨⟨Tryz.func65,by kernel_rfl⟩,⟨⟨Tryz.func66,by kernel_rfl⟩,⟨⟨Tryz.func67,by kernel_rfl⟩,⟨⟨Tryz.func68,by kernel_rfl⟩,⟨⟨Tryz.func69,by kernel_rfl⟩,⟨⟨Tryz.func71,by kernel_rfl⟩,⟨⟨Tryz.func72,by kernel_rfl⟩,⟨⟨Tryz.func73,by kernel_rfl⟩,⟨⟨Tryz.func74,by kernel_rfl⟩,⟨⟨Tryz.func75,by kernel_rfl⟩,⟨⟨Tryz.func76,by kernel_rfl⟩,⟨⟨Tryz.func77,by kernel_rfl⟩,⟨⟨Tryz.func78,by kernel_rfl⟩,⟨⟨Tryz.func79,by kernel_rfl⟩,⟨⟨Tryz.func80,by kernel_rfl⟩,⟨⟨Tryz.func81,by kernel_rfl⟩,⟨⟨Tryz.func82,by kernel_rfl⟩,⟨⟨Tryz.func83,by kernel_rfl⟩,⟨⟨Tryz.func84,by kernel_rfl⟩,⟨⟨Tryz.func85,by kernel_rfl⟩,⟨⟨Tryz.func86,by kernel_rfl⟩,⟨⟨Tryz.func87,by kernel_rfl⟩,⟨⟨Tryz.func88,by kernel_rfl⟩,⟨⟨Tryz.func89,by kernel_rfl⟩,⟨⟨Tryz.func90,by kernel_rfl⟩,⟨⟨Tryz.func91,by kernel_rfl⟩,⟨⟨Tryz.func92,by kernel_rfl⟩,⟨⟨Tryz.func93,by kernel_rfl⟩,⟨⟨Tryz.func94,by kernel_rfl⟩,⟨⟨Tryz.func95,by kernel_rfl⟩,⟨⟨Tryz.func96,by kernel_rfl⟩,⟨⟨Tryz.func97,by kernel_rfl⟩,⟨⟨Tryz.func98,by kernel_rfl⟩,⟨⟨Tryz.func99,by kernel_rfl⟩,⟨⟨Tryz.func100,by kernel_rfl⟩,⟨⟨Tryz.func101,by kernel_rfl⟩,⟨⟨Tryz.func102,by kernel_rfl⟩,⟨⟨Tryz.func103,by kernel_rfl⟩,⟨⟨Tryz.func104,by kernel_rfl⟩,⟨⟨Tryz.func105,by kernel_rfl⟩,⟨⟨Tryz.func106,by kernel_rfl⟩,⟨⟨Tryz.func107,by kernel_rfl⟩,⟨⟨Tryz.func108,by kernel_rfl⟩,⟨⟨Tryz.func110,by kernel_rfl⟩,⟨⟨Tryz.func111,by kernel_rfl⟩,⟨⟨Tryz.func112,by kernel_rfl⟩,⟨⟨Tryz.func113,by kernel_rfl⟩,⟨⟨Tryz.func114,by kernel_rfl⟩,⟨⟨Tryz.func115,by kernel_rfl⟩,⟨⟨Tryz.func116,by kernel_rfl⟩,⟨⟨Tryz.func117,by kernel_rfl⟩,⟨⟨Tryz.func118,by kernel_rfl⟩,⟨⟨Tryz.func119,by kernel_rfl⟩,⟨⟨Tryz.func120,by kernel_rfl⟩,⟨⟨Tryz.func121,by kernel_rfl⟩,⟨⟨Tryz.func122,by kernel_rfl⟩,⟨⟨Tryz.func123,by kernel_rfl⟩,⟨⟨Tryz.func124,by kernel_rfl⟩,⟨⟨Tryz.func125,by kernel_rfl⟩,⟨⟨Tryz.func126,by kernel_rfl⟩,⟨⟨Tryz.func127,by kernel_rfl⟩,⟨⟨Tryz.func128,by kernel_rfl⟩,⟨⟨Tryz.func129,by kernel_rfl⟩,⟨⟨Tryz.func130,by kernel_rfl⟩,⟨⟨Tryz.func131,by kernel_rfl⟩,⟨⟨Tryz.func132,by kernel_rfl⟩,⟨⟨Tryz.func133,by kernel_rfl⟩,⟨⟨Tryz.func134,by kernel_rfl⟩,⟨⟨Tryz.func135,by kernel_rfl⟩,⟨⟨Tryz.func136,by kernel_rfl⟩,⟨⟨Tryz.func137,by kernel_rfl⟩,⟨⟨Tryz.func138,by kernel_rfl⟩,⟨⟨Tryz.func139,by kernel_rfl⟩,⟨⟨Tryz.func140,by kernel_rfl⟩,⟨⟨Tryz.func141,by kernel_rfl⟩,⟨⟨Tryz.func142,by kernel_rfl⟩,⟨⟨Tryz.func143,by kernel_rfl⟩,⟨⟨Tryz.func144,by kernel_rfl⟩,⟨⟨Tryz.func145,by kernel_rfl⟩,⟨⟨Tryz.func146,by kernel_rfl⟩,⟨⟨Tryz.func147,by kernel_rfl⟩,⟨⟨Tryz.func148,by kernel_rfl⟩,⟨⟨Tryz.func149,by kernel_rfl⟩,⟨⟨Tryz.func150,by kernel_rfl⟩,⟨⟨Tryz.func151,by kernel_rfl⟩,⟨⟨Tryz.func152,by kernel_rfl⟩,⟨⟨Tryz.func153,by kernel_rfl⟩,⟨⟨Tryz.func154,by kernel_rfl⟩,⟨⟨Tryz.func155,by kernel_rfl⟩,⟨⟨Tryz.func156,by kernel_rfl⟩,⟨⟨Tryz.func157,by kernel_rfl⟩,⟨⟨Tryz.func161,by kernel_rfl⟩,⟨⟨Tryz.func162,by kernel_rfl⟩,⟨⟨Tryz.func163,by kernel_rfl⟩,⟨⟨Tryz.func164,by kernel_rfl⟩,⟨⟨Tryz.func165,by kernel_rfl⟩,⟨⟨Tryz.func167,by kernel_rfl⟩,⟨⟨Tryz.func168,by kernel_rfl⟩,⟨⟨Tryz.func169,by kernel_rfl⟩,⟨⟨Tryz.func170,by kernel_rfl⟩,⟨⟨Tryz.func171,by kernel_rfl⟩,⟨⟨Tryz.func173,by kernel_rfl⟩,⟨⟨Tryz.func174,by kernel_rfl⟩,⟨⟨Tryz.func175,by kernel_rfl⟩,⟨⟨Tryz.func176,by kernel_rfl⟩,⟨⟨Tryz.func178,by kernel_rfl⟩,⟨⟨Tryz.func179,by kernel_rfl⟩,⟨⟨Tryz.func196,by kernel_rfl⟩,⟨⟨Tryz.func197,by kernel_rfl⟩,⟨⟨Tryz.func198,by kernel_rfl⟩,⟨⟨Tryz.func199,by kernel_rfl⟩,⟨⟨Tryz.func45,by kernel_rfl⟩,⟨⟨Tryz.func45,by kernel_rfl⟩,⟨⟨Tryz.func46,by kernel_rfl⟩,⟨⟨Tryz.func46,by kernel_rfl⟩,⟨⟨Tryz.func84,by kernel_rfl⟩,⟨⟨Tryz.func38,by kernel_rfl⟩,⟨⟨Tryz.func38,by kernel_rfl⟩,⟨⟨Tryz.func40,by kernel_rfl⟩,⟨⟨Tryz.func70,by kernel_rfl⟩,⟨⟨Tryz.func70,by kernel_rfl⟩,⟨⟨Tryz.func109,by kernel_rfl⟩,⟨⟨Tryz.func109,by kernel_rfl⟩,trivial⟩⟩⟩⟩⟩⟩⟩⟩⟩⟩⟩⟩⟩⟩⟩⟩⟩⟩⟩⟩⟩⟩⟩⟩⟩⟩⟩⟩⟩⟩⟩⟩⟩⟩⟩⟩⟩⟩⟩⟩⟩⟩⟩⟩⟩⟩⟩⟩⟩⟩⟩⟩⟩⟩⟩⟩⟩⟩⟩⟩⟩⟩⟩⟩⟩⟩⟩⟩⟩⟩⟩⟩⟩⟩⟩⟩⟩⟩⟩⟩⟩⟩⟩⟩⟩⟩⟩⟩⟩⟩⟩⟩⟩⟩⟩⟩⟩⟩⟩⟩⟩⟩⟩⟩⟩⟩⟩⟩⟩⟩⟩⟩⟩⟩⟩⟩⟩⟩⟩⟩⟩⟩⟩⟩⟩⟩⟩⟩⟩⟩⟩⟩⟩⟩⟩⟩⟩⟩⟩⟩⟩⟩⟩⟩⟩⟩⟩⟩⟩⟩⟩⟩⟩⟩⟩⟩⟩⟩⟩⟩⟩⟩⟩⟩⟩⟩⟩⟩⟩⟩⟩⟩⟩⟩⟩⟩⟩⟩⟩⟩⟩⟩⟩)
end Go.Proofs.YtofjebmoebhiiaaGreatDoor.Ev
namespace Go.Proofs.YtofjebmoebhiiaaGreatDoor.Ev
open Go.Abs
noncomputable section
abbrev I2:=Int×Int×Unit
abbrev bX:=List I2
abbrev zqC:=Int×ByteArray×bX×Unit
abbrev tB:=List zqC
abbrev zqN:=Int×ByteArray×Nat×Unit
abbrev gi:=Int×tB×Unit
noncomputable abbrev lf:Nat→Option Func:=Go.Abs.look fns
abbrev yT:Ty:= .pair (.int .i64) (.pair (.int .i64) .unit)
abbrev yC:Ty:= .pair (.int .i64) (.pair .str (.pair (.slice (.st yT)) .unit))
abbrev yR:Ty:= .pair (.int .i64) (.pair .str (.pair (.ref 2) .unit))
abbrev yH:Ty:= .st (.pair (.int .i64) (.pair (.slice (.st yC)) .unit))
abbrev yG:Ty:= .st (.pair (.int .i64) (.pair (.ref 0) .unit))
abbrev H0:=List (Option (List zqC))
abbrev H1:=List (Option (List zqN))
abbrev H2:=List (Option (List I2))
abbrev H3:=List (Option (List I2))
abbrev H4:=List (Option (List Int))
abbrev H5:=List (Option (List ((gi)×Nat×Nat×Nat×Int×Int×Unit)))
abbrev H6:=List (Option (List (Option (List Int))))
abbrev H7:=List (Option (List Bool))
abbrev H8:=List (Option (List (Nat×ByteArray×Unit)))
abbrev H9:=List (Option (List gi))
abbrev hs (a0:H0)(a1:H1)(a2:H2)(a3:H3)(a4:H4)(a5:H5)(a6:H6)(a7:H7)(a8:H8)(a9:H9):List bK:=[⟨42, .st yC,0,true,a0⟩,⟨42, .st yR,0,true,a1⟩,⟨44, .st yT,0,true,a2⟩,⟨58, .st yT,0,true,a3⟩,⟨3, .int .i64,0,true,a4⟩,⟨95, .st (.pair (.st (.pair (.int .i64) (.pair (.slice (.st yC)) .unit))) (.pair (.ref 6) (.pair (.ref 4) (.pair (.ref 7) yT)))),1,true,a5⟩,⟨26, .pg (.int .i64),0,true,a6⟩,⟨4, .bool,0,true,a7⟩,⟨101, .st (.pair (.ref 4) (.pair .str .unit)),0,true,a8⟩,⟨24,yH,0,true,a9⟩]
abbrev h0:List bK:=hs [] [] [] [] [] [] [] [] [] []
abbrev gl:List (Nat×AV):=[(1000000000, .qB [⟨.fn,(197:Nat)⟩,⟨.bool,false⟩]),(1000000001, .qB [⟨.fn,(199:Nat)⟩,⟨.bool,true⟩])]
abbrev aG (x:Int):AV:= .rv (.cv ⟨.int .i64,x⟩)
theorem e1 (v:Nat)(x:D2 T v):cr T B lf v x=aoa T B lf v x:=Ju T B lf v x
theorem l1 (v i:Nat)(σ:AS):LL T B lf v i σ=LL1 T B lf v i σ:=ap1 T B lf v i σ
abbrev ms (n:Nat)(a:List (Nat×AV))(b:List (Nat×BX))(h:List bK)(s:Nat):AS:=⟨⟨n,a,gl⟩,[],b,h,⟨.unit,()⟩,[],T.sites s⟩
theorem x1 {t0:Type}{r:Type}{f g:t0→r}(h:∀a0,f a0=g a0):g=f:=(funext fun a0=>h a0).symm
theorem x2 {t0:Type}{t1:Type}{r:Type}{f g:t0→t1→r}(h:∀a0 a1,f a0 a1=g a0 a1):g=f:=(funext fun a0=>funext fun a1=>h a0 a1).symm
theorem x3 {t0:Type}{t1:Type}{t2:Type}{r:Type}{f g:t0→t1→t2→r}(h:∀a0 a1 a2,f a0 a1 a2=g a0 a1 a2):g=f:=(funext fun a0=>funext fun a1=>funext fun a2=>h a0 a1 a2).symm
theorem x4 {t0:Type}{t1:Type}{t2:Type}{t3:Type}{r:Type}{f g:t0→t1→t2→t3→r}(h:∀a0 a1 a2 a3,f a0 a1 a2 a3=g a0 a1 a2 a3):g=f:=(funext fun a0=>funext fun a1=>funext fun a2=>funext fun a3=>h a0 a1 a2 a3).symm
theorem x5 {t0:Type}{t1:Type}{t2:Type}{t3:Type}{t4:Type}{r:Type}{f g:t0→t1→t2→t3→t4→r}(h:∀a0 a1 a2 a3 a4,f a0 a1 a2 a3 a4=g a0 a1 a2 a3 a4):g=f:=(funext fun a0=>funext fun a1=>funext fun a2=>funext fun a3=>funext fun a4=>h a0 a1 a2 a3 a4).symm
theorem x6 {t0:Type}{t1:Type}{t2:Type}{t3:Type}{t4:Type}{t5:Type}{r:Type}{f g:t0→t1→t2→t3→t4→t5→r}(h:∀a0 a1 a2 a3 a4 a5,f a0 a1 a2 a3 a4 a5=g a0 a1 a2 a3 a4 a5):g=f:=(funext fun a0=>funext fun a1=>funext fun a2=>funext fun a3=>funext fun a4=>funext fun a5=>h a0 a1 a2 a3 a4 a5).symm
theorem x7 {t0:Type}{t1:Type}{t2:Type}{t3:Type}{t4:Type}{t5:Type}{t6:Type}{r:Type}{f g:t0→t1→t2→t3→t4→t5→t6→r}(h:∀a0 a1 a2 a3 a4 a5 a6,f a0 a1 a2 a3 a4 a5 a6=g a0 a1 a2 a3 a4 a5 a6):g=f:=(funext fun a0=>funext fun a1=>funext fun a2=>funext fun a3=>funext fun a4=>funext fun a5=>funext fun a6=>h a0 a1 a2 a3 a4 a5 a6).symm
theorem x8 {t0:Type}{t1:Type}{t2:Type}{t3:Type}{t4:Type}{t5:Type}{t6:Type}{t7:Type}{r:Type}{f g:t0→t1→t2→t3→t4→t5→t6→t7→r}(h:∀a0 a1 a2 a3 a4 a5 a6 a7,f a0 a1 a2 a3 a4 a5 a6 a7=g a0 a1 a2 a3 a4 a5 a6 a7):g=f:=(funext fun a0=>funext fun a1=>funext fun a2=>funext fun a3=>funext fun a4=>funext fun a5=>funext fun a6=>funext fun a7=>h a0 a1 a2 a3 a4 a5 a6 a7).symm
theorem x9 {t0:Type}{t1:Type}{t2:Type}{t3:Type}{t4:Type}{t5:Type}{t6:Type}{t7:Type}{t8:Type}{r:Type}{f g:t0→t1→t2→t3→t4→t5→t6→t7→t8→r}(h:∀a0 a1 a2 a3 a4 a5 a6 a7 a8,f a0 a1 a2 a3 a4 a5 a6 a7 a8=g a0 a1 a2 a3 a4 a5 a6 a7 a8):g=f:=(funext fun a0=>funext fun a1=>funext fun a2=>funext fun a3=>funext fun a4=>funext fun a5=>funext fun a6=>funext fun a7=>funext fun a8=>h a0 a1 a2 a3 a4 a5 a6 a7 a8).symm
theorem x10 {t0:Type}{t1:Type}{t2:Type}{t3:Type}{t4:Type}{t5:Type}{t6:Type}{t7:Type}{t8:Type}{t9:Type}{r:Type}{f g:t0→t1→t2→t3→t4→t5→t6→t7→t8→t9→r}(h:∀a0 a1 a2 a3 a4 a5 a6 a7 a8 a9,f a0 a1 a2 a3 a4 a5 a6 a7 a8 a9=g a0 a1 a2 a3 a4 a5 a6 a7 a8 a9):g=f:=(funext fun a0=>funext fun a1=>funext fun a2=>funext fun a3=>funext fun a4=>funext fun a5=>funext fun a6=>funext fun a7=>funext fun a8=>funext fun a9=>h a0 a1 a2 a3 a4 a5 a6 a7 a8 a9).symm
theorem x11 {t0:Type}{t1:Type}{t2:Type}{t3:Type}{t4:Type}{t5:Type}{t6:Type}{t7:Type}{t8:Type}{t9:Type}{t10:Type}{r:Type}{f g:t0→t1→t2→t3→t4→t5→t6→t7→t8→t9→t10→r}(h:∀a0 a1 a2 a3 a4 a5 a6 a7 a8 a9 DP,f a0 a1 a2 a3 a4 a5 a6 a7 a8 a9 DP=g a0 a1 a2 a3 a4 a5 a6 a7 a8 a9 DP):g=f:=(funext fun a0=>funext fun a1=>funext fun a2=>funext fun a3=>funext fun a4=>funext fun a5=>funext fun a6=>funext fun a7=>funext fun a8=>funext fun a9=>funext fun DP=>h a0 a1 a2 a3 a4 a5 a6 a7 a8 a9 DP).symm
theorem x12 {t0:Type}{t1:Type}{t2:Type}{t3:Type}{t4:Type}{t5:Type}{t6:Type}{t7:Type}{t8:Type}{t9:Type}{t10:Type}{t11:Type}{r:Type}{f g:t0→t1→t2→t3→t4→t5→t6→t7→t8→t9→t10→t11→r}(h:∀a0 a1 a2 a3 a4 a5 a6 a7 a8 a9 DP Ge,f a0 a1 a2 a3 a4 a5 a6 a7 a8 a9 DP Ge=g a0 a1 a2 a3 a4 a5 a6 a7 a8 a9 DP Ge):g=f:=(funext fun a0=>funext fun a1=>funext fun a2=>funext fun a3=>funext fun a4=>funext fun a5=>funext fun a6=>funext fun a7=>funext fun a8=>funext fun a9=>funext fun DP=>funext fun Ge=>h a0 a1 a2 a3 a4 a5 a6 a7 a8 a9 DP Ge).symm
theorem x13 {t0:Type}{t1:Type}{t2:Type}{t3:Type}{t4:Type}{t5:Type}{t6:Type}{t7:Type}{t8:Type}{t9:Type}{t10:Type}{t11:Type}{t12:Type}{r:Type}{f g:t0→t1→t2→t3→t4→t5→t6→t7→t8→t9→t10→t11→t12→r}(h:∀a0 a1 a2 a3 a4 a5 a6 a7 a8 a9 DP Ge a12,f a0 a1 a2 a3 a4 a5 a6 a7 a8 a9 DP Ge a12=g a0 a1 a2 a3 a4 a5 a6 a7 a8 a9 DP Ge a12):g=f:=(funext fun a0=>funext fun a1=>funext fun a2=>funext fun a3=>funext fun a4=>funext fun a5=>funext fun a6=>funext fun a7=>funext fun a8=>funext fun a9=>funext fun DP=>funext fun Ge=>funext fun a12=>h a0 a1 a2 a3 a4 a5 a6 a7 a8 a9 DP Ge a12).symm
theorem x14 {t0:Type}{t1:Type}{t2:Type}{t3:Type}{t4:Type}{t5:Type}{t6:Type}{t7:Type}{t8:Type}{t9:Type}{t10:Type}{t11:Type}{t12:Type}{t13:Type}{r:Type}{f g:t0→t1→t2→t3→t4→t5→t6→t7→t8→t9→t10→t11→t12→t13→r}(h:∀a0 a1 a2 a3 a4 a5 a6 a7 a8 a9 DP Ge a12 MY,f a0 a1 a2 a3 a4 a5 a6 a7 a8 a9 DP Ge a12 MY=g a0 a1 a2 a3 a4 a5 a6 a7 a8 a9 DP Ge a12 MY):g=f:=(funext fun a0=>funext fun a1=>funext fun a2=>funext fun a3=>funext fun a4=>funext fun a5=>funext fun a6=>funext fun a7=>funext fun a8=>funext fun a9=>funext fun DP=>funext fun Ge=>funext fun a12=>funext fun MY=>h a0 a1 a2 a3 a4 a5 a6 a7 a8 a9 DP Ge a12 MY).symm
theorem x15 {t0:Type}{t1:Type}{t2:Type}{t3:Type}{t4:Type}{t5:Type}{t6:Type}{t7:Type}{t8:Type}{t9:Type}{t10:Type}{t11:Type}{t12:Type}{t13:Type}{t14:Type}{r:Type}{f g:t0→t1→t2→t3→t4→t5→t6→t7→t8→t9→t10→t11→t12→t13→t14→r}(h:∀a0 a1 a2 a3 a4 a5 a6 a7 a8 a9 DP Ge a12 MY QO,f a0 a1 a2 a3 a4 a5 a6 a7 a8 a9 DP Ge a12 MY QO=g a0 a1 a2 a3 a4 a5 a6 a7 a8 a9 DP Ge a12 MY QO):g=f:=(funext fun a0=>funext fun a1=>funext fun a2=>funext fun a3=>funext fun a4=>funext fun a5=>funext fun a6=>funext fun a7=>funext fun a8=>funext fun a9=>funext fun DP=>funext fun Ge=>funext fun a12=>funext fun MY=>funext fun QO=>h a0 a1 a2 a3 a4 a5 a6 a7 a8 a9 DP Ge a12 MY QO).symm
theorem x16 {t0:Type}{t1:Type}{t2:Type}{t3:Type}{t4:Type}{t5:Type}{t6:Type}{t7:Type}{t8:Type}{t9:Type}{t10:Type}{t11:Type}{t12:Type}{t13:Type}{t14:Type}{t15:Type}{r:Type}{f g:t0→t1→t2→t3→t4→t5→t6→t7→t8→t9→t10→t11→t12→t13→t14→t15→r}(h:∀a0 a1 a2 a3 a4 a5 a6 a7 a8 a9 DP Ge a12 MY QO UW,f a0 a1 a2 a3 a4 a5 a6 a7 a8 a9 DP Ge a12 MY QO UW=g a0 a1 a2 a3 a4 a5 a6 a7 a8 a9 DP Ge a12 MY QO UW):g=f:=(funext fun a0=>funext fun a1=>funext fun a2=>funext fun a3=>funext fun a4=>funext fun a5=>funext fun a6=>funext fun a7=>funext fun a8=>funext fun a9=>funext fun DP=>funext fun Ge=>funext fun a12=>funext fun MY=>funext fun QO=>funext fun UW=>h a0 a1 a2 a3 a4 a5 a6 a7 a8 a9 DP Ge a12 MY QO UW).symm
theorem x17 {t0:Type}{t1:Type}{t2:Type}{t3:Type}{t4:Type}{t5:Type}{t6:Type}{t7:Type}{t8:Type}{t9:Type}{t10:Type}{t11:Type}{t12:Type}{t13:Type}{t14:Type}{t15:Type}{t16:Type}{r:Type}{f g:t0→t1→t2→t3→t4→t5→t6→t7→t8→t9→t10→t11→t12→t13→t14→t15→t16→r}(h:∀a0 a1 a2 a3 a4 a5 a6 a7 a8 a9 DP Ge a12 MY QO UW ZJ,f a0 a1 a2 a3 a4 a5 a6 a7 a8 a9 DP Ge a12 MY QO UW ZJ=g a0 a1 a2 a3 a4 a5 a6 a7 a8 a9 DP Ge a12 MY QO UW ZJ):g=f:=(funext fun a0=>funext fun a1=>funext fun a2=>funext fun a3=>funext fun a4=>funext fun a5=>funext fun a6=>funext fun a7=>funext fun a8=>funext fun a9=>funext fun DP=>funext fun Ge=>funext fun a12=>funext fun MY=>funext fun QO=>funext fun UW=>funext fun ZJ=>h a0 a1 a2 a3 a4 a5 a6 a7 a8 a9 DP Ge a12 MY QO UW ZJ).symm
theorem x18 {t0:Type}{t1:Type}{t2:Type}{t3:Type}{t4:Type}{t5:Type}{t6:Type}{t7:Type}{t8:Type}{t9:Type}{t10:Type}{t11:Type}{t12:Type}{t13:Type}{t14:Type}{t15:Type}{t16:Type}{t17:Type}{r:Type}{f g:t0→t1→t2→t3→t4→t5→t6→t7→t8→t9→t10→t11→t12→t13→t14→t15→t16→t17→r}(h:∀a0 a1 a2 a3 a4 a5 a6 a7 a8 a9 DP Ge a12 MY QO UW ZJ a17,f a0 a1 a2 a3 a4 a5 a6 a7 a8 a9 DP Ge a12 MY QO UW ZJ a17=g a0 a1 a2 a3 a4 a5 a6 a7 a8 a9 DP Ge a12 MY QO UW ZJ a17):g=f:=(funext fun a0=>funext fun a1=>funext fun a2=>funext fun a3=>funext fun a4=>funext fun a5=>funext fun a6=>funext fun a7=>funext fun a8=>funext fun a9=>funext fun DP=>funext fun Ge=>funext fun a12=>funext fun MY=>funext fun QO=>funext fun UW=>funext fun ZJ=>funext fun a17=>h a0 a1 a2 a3 a4 a5 a6 a7 a8 a9 DP Ge a12 MY QO UW ZJ a17).symm
theorem x19 {t0:Type}{t1:Type}{t2:Type}{t3:Type}{t4:Type}{t5:Type}{t6:Type}{t7:Type}{t8:Type}{t9:Type}{t10:Type}{t11:Type}{t12:Type}{t13:Type}{t14:Type}{t15:Type}{t16:Type}{t17:Type}{t18:Type}{r:Type}{f g:t0→t1→t2→t3→t4→t5→t6→t7→t8→t9→t10→t11→t12→t13→t14→t15→t16→t17→t18→r}(h:∀a0 a1 a2 a3 a4 a5 a6 a7 a8 a9 DP Ge a12 MY QO UW ZJ a17 a18,f a0 a1 a2 a3 a4 a5 a6 a7 a8 a9 DP Ge a12 MY QO UW ZJ a17 a18=g a0 a1 a2 a3 a4 a5 a6 a7 a8 a9 DP Ge a12 MY QO UW ZJ a17 a18):g=f:=(funext fun a0=>funext fun a1=>funext fun a2=>funext fun a3=>funext fun a4=>funext fun a5=>funext fun a6=>funext fun a7=>funext fun a8=>funext fun a9=>funext fun DP=>funext fun Ge=>funext fun a12=>funext fun MY=>funext fun QO=>funext fun UW=>funext fun ZJ=>funext fun a17=>funext fun a18=>h a0 a1 a2 a3 a4 a5 a6 a7 a8 a9 DP Ge a12 MY QO UW ZJ a17 a18).symm
theorem x20 {t0:Type}{t1:Type}{t2:Type}{t3:Type}{t4:Type}{t5:Type}{t6:Type}{t7:Type}{t8:Type}{t9:Type}{t10:Type}{t11:Type}{t12:Type}{t13:Type}{t14:Type}{t15:Type}{t16:Type}{t17:Type}{t18:Type}{t19:Type}{r:Type}{f g:t0→t1→t2→t3→t4→t5→t6→t7→t8→t9→t10→t11→t12→t13→t14→t15→t16→t17→t18→t19→r}(h:∀a0 a1 a2 a3 a4 a5 a6 a7 a8 a9 DP Ge a12 MY QO UW ZJ a17 a18 a19,f a0 a1 a2 a3 a4 a5 a6 a7 a8 a9 DP Ge a12 MY QO UW ZJ a17 a18 a19=g a0 a1 a2 a3 a4 a5 a6 a7 a8 a9 DP Ge a12 MY QO UW ZJ a17 a18 a19):g=f:=(funext fun a0=>funext fun a1=>funext fun a2=>funext fun a3=>funext fun a4=>funext fun a5=>funext fun a6=>funext fun a7=>funext fun a8=>funext fun a9=>funext fun DP=>funext fun Ge=>funext fun a12=>funext fun MY=>funext fun QO=>funext fun UW=>funext fun ZJ=>funext fun a17=>funext fun a18=>funext fun a19=>h a0 a1 a2 a3 a4 a5 a6 a7 a8 a9 DP Ge a12 MY QO UW ZJ a17 a18 a19).symm
abbrev ae {α:Type}(_:α):Type:=α
def gI {α:Type}(f:α)(b:Nat→α)(n:Nat):α:=Nat.rec f (fun k _=>b k) n
def ve {α:Type}(f:α)(b:Nat→α→α)(n:Nat):α:=Nat.rec f (fun k x=>b k x) n
theorem bf {α:Type}{f:α}{b:Nat→α}(h:∀w,b w=f):∀w,gI f b w=f
 |0=>rfl
 |w+1=>h w
theorem mkLe {α:Type}{f:α}{b:Nat→α→α}(h:∀w,b w f=f):∀w,ve f b w=f
 |0=>rfl
 |w+1=>by
  show b w (ve f b w)=f
  rw[mkLe h w]
  exact h w
def ac4 (c:gi)(raw:(List (List Int))×(List Int)×Int×(List Int)×Unit):Option (Bool):=cr T B lf 6 (c,raw)
def D1 (t:Nat)(t2:Int)(t3:Int)(hp9:H9):Option (Bool):=
 LL T B lf 6 0 (ms 68 [(22,aG t3),(21,aG t2),(20, .rv (.cv ⟨.ref 9,t⟩))] [] (hs [] [] [] [] [] [] [] [] [] hp9) 6)
def vN (c:gi)(most:Int):Option (Bool):=cr T B lf 12 (c,most)
def iV (t:tB)(t2:Int)(t3:Int):Option (Bool):=
 LL T B lf 12 0 (ms 30 [(15,aG t3),(14,aG t2),(13, .rv (.cv ⟨.slice (.st yC),t⟩))] [] h0 12)
def gj:Option (Bool):=cr T B lf 13 ()
def tC (x:(List (List Int))×(List Int)×Int×(List Int)×Unit)(most:Int):Option gi:=cr T B lf 14 (x,most)
def ab1 (n:Int)(x:List (List Int))(x2:List Int)(x3:Int)(x4:List Int)(t:Int)(t2:Nat)(c:Int)(c2:tB):Option gi:=
 LL T B lf 14 0 (ms 134 [(9,aG n),(7, .box 7 0),(4, .box 4 0),(2, .box 2 0)] [(2, .cells [⟨.slice (.slice (.int .i64)),x⟩,⟨.slice (.int .i64),x2⟩,⟨.int .i64,x3⟩,⟨.slice (.int .i64),x4⟩]),(4, .cells [⟨.int .i64,t⟩,⟨.ref 0,t2⟩]),(7, .cells [⟨.int .i64,c⟩,⟨.slice (.st yC),c2⟩])] h0 14)
def hZ (n:Int)(j:Int)(k:Int)(i:Int)(x:List (List Int))(x2:List Int)(x3:Int)(x4:List Int)(t:Int)(t2:Nat)(c:Int)(c2:tB):Option gi:=
 LL T B lf 14 1 (ms 134 [(12,aG i),(11,aG k),(10,aG j),(9,aG n),(7, .box 7 0),(4, .box 4 0),(2, .box 2 0)] [(2, .cells [⟨.slice (.slice (.int .i64)),x⟩,⟨.slice (.int .i64),x2⟩,⟨.int .i64,x3⟩,⟨.slice (.int .i64),x4⟩]),(4, .cells [⟨.int .i64,t⟩,⟨.ref 0,t2⟩]),(7, .cells [⟨.int .i64,c⟩,⟨.slice (.st yC),c2⟩])] h0 14)
def rY (c:gi)(mL:H0):Option ((Int×Nat×Unit)×H0):=cr T B lf 15 (c,mL)
def gm (i:Int)(c:Int)(c2:tB)(t:Int)(t2:Nat)(out:Int)(ax:Nat)(mL:H0):Option ((Int×Nat×Unit)×H0):=
 LL T B lf 15 0 (ms 33 [(4,aG i),(3, .box 3 0),(2, .box 2 0),(1, .box 1 0)] [(1, .cells [⟨.int .i64,c⟩,⟨.slice (.st yC),c2⟩]),(2, .cells [⟨.int .i64,t⟩,⟨.ref 0,t2⟩]),(3, .cells [⟨.int .i64,out⟩,⟨.ref 0,ax⟩])] (hs mL [] [] [] [] [] [] [] [] []) 15)
def tD (c:gi):Option (Int):=cr T B lf 16 c
def ia (j:Int)(c:Int)(c2:tB):Option (Int):=
 LL T B lf 16 0 (ms 26 [(3,aG j),(1, .box 1 0)] [(1, .cells [⟨.int .i64,c⟩,⟨.slice (.st yC),c2⟩])] h0 16)
def ahg (c:gi):Option gi:=cr T B lf 17 c
def aho (n:Int)(j:Int)(c:Int)(c2:tB)(t:Int)(t2:Nat)(out:Int)(ax:Nat):Option gi:=
 LL T B lf 17 0 (ms 70 [(5,aG j),(4, .box 4 0),(3,aG n),(2, .box 2 0),(1, .box 1 0)] [(1, .cells [⟨.int .i64,c⟩,⟨.slice (.st yC),c2⟩]),(2, .cells [⟨.int .i64,t⟩,⟨.ref 0,t2⟩]),(4, .cells [⟨.int .i64,out⟩,⟨.ref 0,ax⟩])] h0 17)
def adr (n:Int)(j:Int)(c:Int)(c2:tB)(t:Int)(t2:Nat)(out:Int)(ax:Nat)(mL:H0)(aH:H4):Option gi:=
 LL T B lf 17 0 (ms 70 [(5,aG j),(4, .box 4 0),(3,aG n),(2, .box 2 0),(1, .box 1 0)] [(1, .cells [⟨.int .i64,c⟩,⟨.slice (.st yC),c2⟩]),(2, .cells [⟨.int .i64,t⟩,⟨.ref 0,t2⟩]),(4, .cells [⟨.int .i64,out⟩,⟨.ref 0,ax⟩])] (hs mL [] [] [] aH [] [] [] [] []) 17)
def ac2 (n:Int)(j:Int)(v:Nat)(i:Int)(c:Int)(c2:tB)(t:Int)(t2:Nat)(out:Int)(ax:Nat)(x:Int)(x2:ByteArray)(x3:bX)(mL:H0)(aH:H4):Option gi:=
 LL T B lf 17 1 (ms 70 [(8,aG i),(7, .rv (.cv ⟨.ref 4,v⟩)),(6, .box 6 0),(5,aG j),(4, .box 4 0),(3,aG n),(2, .box 2 0),(1, .box 1 0)] [(1, .cells [⟨.int .i64,c⟩,⟨.slice (.st yC),c2⟩]),(2, .cells [⟨.int .i64,t⟩,⟨.ref 0,t2⟩]),(4, .cells [⟨.int .i64,out⟩,⟨.ref 0,ax⟩]),(6, .cells [⟨.int .i64,x⟩,⟨.str,x2⟩,⟨.slice (.st yT),x3⟩])] (hs mL [] [] [] aH [] [] [] [] []) 17)
def wa (c:gi):Option (gi×Int):=cr T B lf 18 c
def nr (last:Int)(t:Int)(t2:Int)(c:Int)(c2:tB)(t3:Int)(t4:Nat)(out:Int)(ax:Nat)(hp1:H1):Option (gi×Int):=
 LL T B lf 18 0 (ms 107 [(35,aG t2),(34,aG t),(6, .box 6 0),(5,aG last),(2, .box 2 0),(1, .box 1 0)] [(1, .cells [⟨.int .i64,c⟩,⟨.slice (.st yC),c2⟩]),(2, .cells [⟨.int .i64,t3⟩,⟨.ref 0,t4⟩]),(6, .cells [⟨.int .i64,out⟩,⟨.ref 1,ax⟩])] (hs [] hp1 [] [] [] [] [] [] [] []) 18)
def ns (last:Int)(k:Int)(c:Int)(c2:tB)(t:Int)(t2:Nat)(out:Int)(ax:Nat)(hp1:H1):Option (gi×Int):=
 LL T B lf 18 1 (ms 107 [(11,aG k),(6, .box 6 0),(5,aG last),(2, .box 2 0),(1, .box 1 0)] [(1, .cells [⟨.int .i64,c⟩,⟨.slice (.st yC),c2⟩]),(2, .cells [⟨.int .i64,t⟩,⟨.ref 0,t2⟩]),(6, .cells [⟨.int .i64,out⟩,⟨.ref 1,ax⟩])] (hs [] hp1 [] [] [] [] [] [] [] []) 18)
def vf (last:Int)(k:Int)(t:bX)(t2:Int)(t3:Int)(c:Int)(c2:tB)(t4:Int)(t5:Nat)(out:Int)(ax:Nat)(hp1:H1):Option (gi×Int):=
 LL T B lf 18 2 (ms 107 [(80,aG t3),(79,aG t2),(78, .rv (.cv ⟨.slice (.st yT),t⟩)),(11,aG k),(6, .box 6 0),(5,aG last),(2, .box 2 0),(1, .box 1 0)] [(1, .cells [⟨.int .i64,c⟩,⟨.slice (.st yC),c2⟩]),(2, .cells [⟨.int .i64,t4⟩,⟨.ref 0,t5⟩]),(6, .cells [⟨.int .i64,out⟩,⟨.ref 1,ax⟩])] (hs [] hp1 [] [] [] [] [] [] [] []) 18)
def gP (last:Int)(k:Int)(t:bX)(t2:Int)(t3:Int)(c:Int)(c2:tB)(t4:Int)(t5:Nat)(out:Int)(ax:Nat)(hp1:H1)(hp2:H2):Option (gi×Int):=
 LL T B lf 18 2 (ms 107 [(80,aG t3),(79,aG t2),(78, .rv (.cv ⟨.slice (.st yT),t⟩)),(11,aG k),(6, .box 6 0),(5,aG last),(2, .box 2 0),(1, .box 1 0)] [(1, .cells [⟨.int .i64,c⟩,⟨.slice (.st yC),c2⟩]),(2, .cells [⟨.int .i64,t4⟩,⟨.ref 0,t5⟩]),(6, .cells [⟨.int .i64,out⟩,⟨.ref 1,ax⟩])] (hs [] hp1 hp2 [] [] [] [] [] [] []) 18)
def sJ (last:Int)(k:Int)(c:Int)(c2:tB)(t:Int)(t2:Nat)(out:Int)(ax:Nat)(hp1:H1)(hp2:H2):Option (gi×Int):=
 LL T B lf 18 1 (ms 107 [(11,aG k),(6, .box 6 0),(5,aG last),(2, .box 2 0),(1, .box 1 0)] [(1, .cells [⟨.int .i64,c⟩,⟨.slice (.st yC),c2⟩]),(2, .cells [⟨.int .i64,t⟩,⟨.ref 0,t2⟩]),(6, .cells [⟨.int .i64,out⟩,⟨.ref 1,ax⟩])] (hs [] hp1 hp2 [] [] [] [] [] [] []) 18)
def gQ (c:gi):Option (bX×I2×Int):=cr T B lf 20 c
def vO (l:bX)(w:Int×Int×Unit):Option (Bool):=cr T B lf 21 (l,w)
def dA (a:bX)(b:bX):Option (Bool):=cr T B lf 23 (a,b)
def cA (a:bX)(b:bX)(i:Int):Option (Bool):=
 LL T B lf 23 0 (ms 26 [(5,aG i),(1, .rv (.cv ⟨.slice (.st yT),b⟩)),(0, .rv (.cv ⟨.slice (.st yT),a⟩))] [] h0 23)
def BE (c:gi):Option (bX×I2×Int):=cr T B lf 24 c
def ahd (c:gi):Option (bX×Int×Int):=cr T B lf 25 c
def ac3 (e:Nat)(d:Int)(c:Int)(c2:tB)(aH:H4)(qI:List (Option (List (gi×Nat×Nat×Nat×Int×Int×Unit))))(sA:List (Option H4))(uA:H7):Option (bX×Int×Int):=
 LL T B lf 25 0 (ms 58 [(6,aG d),(5, .rv (.cv ⟨.ptr 5,e⟩)),(1, .box 1 0)] [(1, .cells [⟨.int .i64,c⟩,⟨.slice (.st yC),c2⟩])] (hs [] [] [] [] aH qI sA uA [] []) 25)
def ac9 (e:Nat)(d:Int)(j:Int)(c:Int)(c2:tB)(aH:H4)(qI:List (Option (List (gi×Nat×Nat×Nat×Int×Int×Unit))))(sA:List (Option H4))(uA:H7):Option (bX×Int×Int):=
 LL T B lf 25 1 (ms 58 [(7,aG j),(6,aG d),(5, .rv (.cv ⟨.ptr 5,e⟩)),(1, .box 1 0)] [(1, .cells [⟨.int .i64,c⟩,⟨.slice (.st yC),c2⟩])] (hs [] [] [] [] aH qI sA uA [] []) 25)
def oe (c:gi):Option (bX×I2×Int):=cr T B lf 26 c
def fA (l:Nat)(last:Int)(t:Nat)(t2:Int)(t3:Int)(t4:Int)(t5:Int)(w:Int)(w2:Int)(ak:H2):Option (bX×I2×Int):=
 LL T B lf 26 0 (ms 66 [(33,aG t3),(32,aG t2),(31, .rv (.cv ⟨.ref 3,t⟩)),(9,aG last),(8, .box 8 0),(7, .rv (.cv ⟨.ref 3,l⟩)),(3, .box 3 0)] [(3, .cells [⟨.int .i64,t4⟩,⟨.int .i64,t5⟩]),(8, .cells [⟨.int .i64,w⟩,⟨.int .i64,w2⟩])] (hs [] [] [] ak [] [] [] [] [] []) 26)
def ae6 (c:gi):Option (bX×Int×Int):=cr T B lf 27 c
def aaN (n:Int)(l:bX)(added:Int)(cleared:Int)(i:Int)(adg:List Int):Option (bX×Int×Int):=
 LL T B lf 27 0 ⟨⟨96,[(10,aG i),(9, .rv (.own 9)),(8,aG cleared),(7,aG added),(6, .rv (.cv ⟨.slice (.st yT),l⟩)),(5,aG n)],gl⟩,[(9,⟨3, .int .i64,adg⟩)],[],h0,⟨.unit,()⟩,[],T.sites 27⟩
def aaL (n:Int)(l:bX)(added:Int)(cleared:Int)(k:Int)(adg:List Int):Option (bX×Int×Int):=
 LL T B lf 27 1 ⟨⟨96,[(11,aG k),(9, .rv (.own 9)),(8,aG cleared),(7,aG added),(6, .rv (.cv ⟨.slice (.st yT),l⟩)),(5,aG n)],gl⟩,[(9,⟨3, .int .i64,adg⟩)],[],h0,⟨.unit,()⟩,[],T.sites 27⟩
def aaM (n:Int)(added:Int)(cleared:Int)(i:Int)(adg:List Int)(out:bX):Option (bX×Int×Int):=
 LL T B lf 27 2 ⟨⟨96,[(13,aG i),(12, .rv (.own 12)),(9, .rv (.own 9)),(8,aG cleared),(7,aG added),(5,aG n)],gl⟩,[(9,⟨3, .int .i64,adg⟩),(12,⟨58, .st yT,out⟩)],[],h0,⟨.unit,()⟩,[],T.sites 27⟩
def ll:Option gi:=cr T B lf 28 ()
def iO (a:bX)(b:bX):Option (Bool):=cr T B lf 30 (a,b)
def c5 (a:bX)(b:bX)(i:Int):Option (Bool):=
 LL T B lf 30 0 (ms 26 [(5,aG i),(1, .rv (.cv ⟨.slice (.st yT),b⟩)),(0, .rv (.cv ⟨.slice (.st yT),a⟩))] [] h0 30)
def yq (l:List Int):Option bX:=cr T B lf 31 l
def j8 (l:List Int)(i:Int)(out:bX):Option bX:=
 LL T B lf 31 0 ⟨⟨26,[(4,aG i),(3, .rv (.own 3)),(0, .rv (.cv ⟨.slice (.int .i64),l⟩))],gl⟩,[(3,⟨44, .st yT,out⟩)],[],h0,⟨.unit,()⟩,[],T.sites 31⟩
def tE (l:List (List Int))(values:List Int)(most:Int)(W4:Int)(n:Int):Option (List ((List Int)×ByteArray×Unit)):=cr T B lf 32 (l,values,most,W4,n)
def ib (values:List Int)(c:List (List Int))(i:Int)(YF:List ByteArray):Option (List ((List Int)×ByteArray×Unit)):=
 LL T B lf 32 0 ⟨⟨57,[(13,aG i),(12, .rv (.own 12)),(11, .rv (.cv ⟨.slice (.slice (.int .i64)),c⟩)),(1, .rv (.cv ⟨.slice (.int .i64),values⟩))],gl⟩,[(12,⟨39, .str,YF⟩)],[],h0,⟨.unit,()⟩,[],T.sites 32⟩
def kK (f:List ((List Int)×ByteArray×Unit))(p:Int):Option (gi×Int):=cr T B lf 33 (f,p)
def og (f:List ((List Int)×ByteArray×Unit))(p:Int)(j:Int)(t:Int)(t2:Nat)(out:Int)(ax:Nat):Option (gi×Int):=
 LL T B lf 33 0 (ms 93 [(8,aG j),(7, .box 7 0),(4, .box 4 0),(1,aG p),(0, .rv (.cv ⟨.slice (.st (.pair (.slice (.int .i64)) (.pair (.str) (.unit)))),f⟩))] [(4, .cells [⟨.int .i64,t⟩,⟨.ref 0,t2⟩]),(7, .cells [⟨.int .i64,out⟩,⟨.ref 0,ax⟩])] h0 33)
def gp (f:List ((List Int)×ByteArray×Unit))(p:Int)(j:Int)(v:Nat)(bl:List (List Int))(k:Int)(t:Int)(t2:Nat)(out:Int)(ax:Nat)(aH:H4):Option (gi×Int):=
 LL T B lf 33 1 (ms 93 [(11,aG k),(10, .rv (.cv ⟨.slice (.slice (.int .i64)),bl⟩)),(9, .rv (.cv ⟨.ref 4,v⟩)),(8,aG j),(7, .box 7 0),(4, .box 4 0),(1,aG p),(0, .rv (.cv ⟨.slice (.st (.pair (.slice (.int .i64)) (.pair (.str) (.unit)))),f⟩))] [(4, .cells [⟨.int .i64,t⟩,⟨.ref 0,t2⟩]),(7, .cells [⟨.int .i64,out⟩,⟨.ref 0,ax⟩])] (hs [] [] [] [] aH [] [] [] [] []) 33)
def iW (f:List ((List Int)×ByteArray×Unit))(p:Int)(j:Int)(v:Nat)(bl:List (List Int))(k:Int)(i:Int)(t:Int)(t2:Nat)(out:Int)(ax:Nat)(aH:H4):Option (gi×Int):=
 LL T B lf 33 2 (ms 93 [(12,aG i),(11,aG k),(10, .rv (.cv ⟨.slice (.slice (.int .i64)),bl⟩)),(9, .rv (.cv ⟨.ref 4,v⟩)),(8,aG j),(7, .box 7 0),(4, .box 4 0),(1,aG p),(0, .rv (.cv ⟨.slice (.st (.pair (.slice (.int .i64)) (.pair (.str) (.unit)))),f⟩))] [(4, .cells [⟨.int .i64,t⟩,⟨.ref 0,t2⟩]),(7, .cells [⟨.int .i64,out⟩,⟨.ref 0,ax⟩])] (hs [] [] [] [] aH [] [] [] [] []) 33)
def dy (f:List ((List Int)×ByteArray×Unit))(p:Int)(j:Int)(t:Int)(t2:Nat)(out:Int)(ax:Nat)(mL:H0)(aH:H4):Option (gi×Int):=
 LL T B lf 33 0 (ms 93 [(8,aG j),(7, .box 7 0),(4, .box 4 0),(1,aG p),(0, .rv (.cv ⟨.slice (.st (.pair (.slice (.int .i64)) (.pair (.str) (.unit)))),f⟩))] [(4, .cells [⟨.int .i64,t⟩,⟨.ref 0,t2⟩]),(7, .cells [⟨.int .i64,out⟩,⟨.ref 0,ax⟩])] (hs mL [] [] [] aH [] [] [] [] []) 33)
def eG (f:List ((List Int)×ByteArray×Unit))(p:Int)(j:Int)(v:Nat)(bl:List (List Int))(k:Int)(t:Int)(t2:Nat)(out:Int)(ax:Nat)(mL:H0)(aH:H4):Option (gi×Int):=
 LL T B lf 33 1 (ms 93 [(11,aG k),(10, .rv (.cv ⟨.slice (.slice (.int .i64)),bl⟩)),(9, .rv (.cv ⟨.ref 4,v⟩)),(8,aG j),(7, .box 7 0),(4, .box 4 0),(1,aG p),(0, .rv (.cv ⟨.slice (.st (.pair (.slice (.int .i64)) (.pair (.str) (.unit)))),f⟩))] [(4, .cells [⟨.int .i64,t⟩,⟨.ref 0,t2⟩]),(7, .cells [⟨.int .i64,out⟩,⟨.ref 0,ax⟩])] (hs mL [] [] [] aH [] [] [] [] []) 33)
def fH (f:List ((List Int)×ByteArray×Unit))(p:Int)(j:Int)(v:Nat)(bl:List (List Int))(k:Int)(i:Int)(t:Int)(t2:Nat)(out:Int)(ax:Nat)(mL:H0)(aH:H4):Option (gi×Int):=
 LL T B lf 33 2 (ms 93 [(12,aG i),(11,aG k),(10, .rv (.cv ⟨.slice (.slice (.int .i64)),bl⟩)),(9, .rv (.cv ⟨.ref 4,v⟩)),(8,aG j),(7, .box 7 0),(4, .box 4 0),(1,aG p),(0, .rv (.cv ⟨.slice (.st (.pair (.slice (.int .i64)) (.pair (.str) (.unit)))),f⟩))] [(4, .cells [⟨.int .i64,t⟩,⟨.ref 0,t2⟩]),(7, .cells [⟨.int .i64,out⟩,⟨.ref 0,ax⟩])] (hs mL [] [] [] aH [] [] [] [] []) 33)
def tF (n:Int):Option (Int):=cr T B lf 34 n
def vP (c:gi)(i:Int)(j:Int)(k:Int)(m:Int):Option gi:=cr T B lf 35 (c,i,j,k,m)
def iX (i:Int)(j:Int)(k:Int)(m:Int)(inv:Int)(v:Nat)(a:List Int)(b:List Int)(n:Int)(c:Int)(c2:tB)(t:Int)(t2:Nat)(out:Int)(ax:Nat)(mL:H0)(aH:H4):Option gi:=
 LL T B lf 35 0 (ms 149 [(16,aG n),(15, .rv (.cv ⟨.slice (.int .i64),b⟩)),(14, .rv (.cv ⟨.slice (.int .i64),a⟩)),(13, .rv (.cv ⟨.ref 4,v⟩)),(12,aG inv),(11, .box 11 0),(10, .box 10 0),(5, .box 5 0),(4,aG m),(3,aG k),(2,aG j),(1,aG i)] [(5, .cells [⟨.int .i64,c⟩,⟨.slice (.st yC),c2⟩]),(10, .cells [⟨.int .i64,t⟩,⟨.ref 0,t2⟩]),(11, .cells [⟨.int .i64,out⟩,⟨.ref 0,ax⟩])] (hs mL [] [] [] aH [] [] [] [] []) 35)
def iY (i:Int)(j:Int)(m:Int)(inv:Int)(n:Int)(c:Int)(c2:tB)(t:Int)(t2:Nat)(out:Int)(ax:Nat)(mL:H0)(aH:H4):Option gi:=
 LL T B lf 35 1 (ms 149 [(17,aG n),(12,aG inv),(11, .box 11 0),(10, .box 10 0),(5, .box 5 0),(4,aG m),(2,aG j),(1,aG i)] [(5, .cells [⟨.int .i64,c⟩,⟨.slice (.st yC),c2⟩]),(10, .cells [⟨.int .i64,t⟩,⟨.ref 0,t2⟩]),(11, .cells [⟨.int .i64,out⟩,⟨.ref 0,ax⟩])] (hs mL [] [] [] aH [] [] [] [] []) 35)
def fu (p:Int):Option (Bool):=cr T B lf 36 p
def fB (p:Int)(k:Int):Option (Bool):=
 LL T B lf 36 0 (ms 23 [(3,aG k),(0,aG p)] [] h0 36)
def rZ (c:gi)(j:Int):Option (Int):=cr T B lf 37 (c,j)
def gq (j:Int)(i:Int)(c:Int)(c2:tB)(x:Int)(x2:ByteArray)(x3:bX):Option (Int):=
 LL T B lf 37 0 (ms 95 [(7,aG i),(5, .box 5 0),(2, .box 2 0),(1,aG j)] [(2, .cells [⟨.int .i64,c⟩,⟨.slice (.st yC),c2⟩]),(5, .cells [⟨.int .i64,x⟩,⟨.str,x2⟩,⟨.slice (.st yT),x3⟩])] h0 37)
def cW (j:Int)(i:Int)(c:Int)(c2:tB)(x:Int)(x2:ByteArray)(x3:bX):Option (Int):=
 LL T B lf 37 1 (ms 95 [(8,aG i),(5, .box 5 0),(2, .box 2 0),(1,aG j)] [(2, .cells [⟨.int .i64,c⟩,⟨.slice (.st yC),c2⟩]),(5, .cells [⟨.int .i64,x⟩,⟨.str,x2⟩,⟨.slice (.st yT),x3⟩])] h0 37)
def tG (x:bX)(n:Int):Option (List Int):=cr T B lf 38 (x,n)
def ic (x:bX)(i:Int)(out:List Int):Option (List Int):=
 LL T B lf 38 0 ⟨⟨28,[(6,aG i),(5, .rv (.own 5)),(0, .rv (.cv ⟨.slice (.st yT),x⟩))],gl⟩,[(5,⟨3, .int .i64,out⟩)],[],h0,⟨.unit,()⟩,[],T.sites 38⟩
def adw (a:ByteArray):Option (ByteArray):=cr T B lf 39 a
def sc (v:List Int):Option bX:=cr T B lf 40 v
def gr (v:List Int)(i:Int)(out:bX):Option bX:=
 LL T B lf 40 0 ⟨⟨26,[(4,aG i),(3, .rv (.own 3)),(0, .rv (.cv ⟨.slice (.int .i64),v⟩))],gl⟩,[(3,⟨44, .st yT,out⟩)],[],h0,⟨.unit,()⟩,[],T.sites 40⟩
def kL (c:gi):Option (Int):=cr T B lf 41 c
def eR (t:tB)(t2:Int)(t3:Int)(c:Int)(c2:tB)(last:Bool)(YG:List Int)(YH:Bool)(YI:List Int):Option (Int):=
 LL T B lf 41 0 (ms 81 [(20,aG t3),(19,aG t2),(18, .rv (.cv ⟨.slice (.st yC),t⟩)),(3, .box 3 0),(1, .box 1 0)] [(1, .cells [⟨.int .i64,c⟩,⟨.slice (.st yC),c2⟩]),(3, .cells [⟨.bool,last⟩,⟨.slice (.int .u32),YG⟩,⟨.bool,YH⟩,⟨.slice (.int .u32),YI⟩])] h0 41)
def jD (a:ByteArray):Option (((Bool×(List Int)×Unit)×(Bool×(List Int)×Unit)×Unit)×Bool):=cr T B lf 42 a
def vg (a:(Bool×(List Int)×Unit)×(Bool×(List Int)×Unit)×Unit):Option ((Bool×(List Int)×Unit)×(Bool×(List Int)×Unit)×Unit):=cr T B lf 43 a
def sK (a:(Bool×(List Int)×Unit)×(Bool×(List Int)×Unit)×Unit):Option (ByteArray):=cr T B lf 44 a
def tH (c:gi)(qI:List (Option (List (gi×Nat×Nat×Nat×Int×Int×Unit))))(sA:List (Option H4))(aH:H4)(uA:H7):Option ((Nat)×(List (Option (List (gi×Nat×Nat×Nat×Int×Int×Unit))))×(List (Option H4))×H4×H7):=cr T B lf 47 (c,(qI,sA,aH,uA))
def fV (e:Nat)(j:Int)(qI:List (Option (List (gi×Nat×Nat×Nat×Int×Int×Unit))))(sA:List (Option H4))(aH:H4)(uA:H7):Option ((Unit)×(List (Option (List (gi×Nat×Nat×Nat×Int×Int×Unit))))×(List (Option H4))×H4×H7):=cr T B lf 48 ((e,j),(qI,sA,aH,uA))
def bA (e:Nat)(j:Int)(p:Int)(x:List Int)(aH:H4)(qI:List (Option (List (gi×Nat×Nat×Nat×Int×Int×Unit))))(sA:List (Option H4))(uA:H7):Option ((Unit)×(List (Option (List (gi×Nat×Nat×Nat×Int×Int×Unit))))×(List (Option H4))×H4×H7):=
 LL T B lf 48 0 ⟨⟨124,[(5, .rv (.own 5)),(4,aG p),(1,aG j),(0, .rv (.cv ⟨.ptr 5,e⟩))],gl⟩,[(5,⟨3, .int .i64,x⟩)],[],(hs [] [] [] [] aH qI sA uA [] []),⟨.unit,()⟩,[],T.sites 48⟩
def c7 (e:Nat)(j:Int)(p:Int)(y:List Int)(k:Int)(i:Int)(x:List Int)(aH:H4)(qI:List (Option (List (gi×Nat×Nat×Nat×Int×Int×Unit))))(sA:List (Option H4))(uA:H7):Option ((Unit)×(List (Option (List (gi×Nat×Nat×Nat×Int×Int×Unit))))×(List (Option H4))×H4×H7):=
 LL T B lf 48 1 ⟨⟨124,[(8,aG i),(7,aG k),(6, .rv (.cv ⟨.slice (.int .i64),y⟩)),(5, .rv (.own 5)),(4,aG p),(1,aG j),(0, .rv (.cv ⟨.ptr 5,e⟩))],gl⟩,[(5,⟨3, .int .i64,x⟩)],[],(hs [] [] [] [] aH qI sA uA [] []),⟨.unit,()⟩,[],T.sites 48⟩
def oh (e:Nat)(qI:List (Option (List (gi×Nat×Nat×Nat×Int×Int×Unit))))(sA:List (Option H4))(aH:H4)(uA:H7):Option bX:=cr T B lf 49 (e,(qI,sA,aH,uA))
def dn (e:Nat)(i:Int)(out:bX)(aH:H4)(qI:List (Option (List (gi×Nat×Nat×Nat×Int×Int×Unit))))(sA:List (Option H4))(uA:H7):Option bX:=
 LL T B lf 49 0 ⟨⟨47,[(4,aG i),(3, .rv (.own 3)),(0, .rv (.cv ⟨.ptr 5,e⟩))],gl⟩,[(3,⟨58, .st yT,out⟩)],[],[⟨42, .st yC,0,true,([]:H0)⟩,⟨42, .st yR,0,true,([]:H1)⟩,⟨44, .st yT,0,true,([]:H2)⟩,⟨58, .st yT,0,true,([]:H2)⟩,⟨3, .int .i64,0,false,aH⟩,⟨95, .st (.pair yH (.pair (.ref 6) (.pair (.ref 4) (.pair (.ref 7) yT)))),1,false,qI⟩,⟨26, .pg (.int .i64),0,false,sA⟩,⟨4, .bool,0,false,uA⟩,⟨101, .st (.pair (.ref 4) (.pair (.str) (.unit))),0,true,([]:H8)⟩,⟨24, .st (.pair (.int .i64) (.pair (.slice (.st yC)) (.unit))),0,true,([]:H9)⟩],⟨.unit,()⟩,[],T.sites 49⟩
def slices_SortFunc (x:Nat)(ak:H2):Option ((Unit)×H2):=cr T B lf 50 ((x,()),ak)
def tI (l:List (List Int)):Option (List (List Int)):=cr T B lf 53 l
def ie (l:List (List Int))(i:Int)(out:List (List Int)):Option (List (List Int)):=
 LL T B lf 53 0 ⟨⟨21,[(4,aG i),(3, .rv (.own 3)),(0, .rv (.cv ⟨.slice (.slice (.int .i64)),l⟩))],gl⟩,[(3,⟨26, .slice (.int .i64),out⟩)],[],h0,⟨.unit,()⟩,[],T.sites 53⟩
def tJ (l:List (List Int))(most:Int)(W4:Int)(n:Int):Option (List (List Int)):=cr T B lf 54 (l,most,W4,n)
def ig (l:List (List Int))(most:Int)(W4:Int)(n:Int)(i:Int)(few:List (List Int)):Option (List (List Int)):=
 LL T B lf 54 0 ⟨⟨49,[(10,aG i),(9, .rv (.own 9)),(3,aG n),(2,aG W4),(1,aG most),(0, .rv (.cv ⟨.slice (.slice (.int .i64)),l⟩))],gl⟩,[(9,⟨26, .slice (.int .i64),few⟩)],[],h0,⟨.unit,()⟩,[],T.sites 54⟩
def fC (t:List (List Int))(t2:Int)(t3:Int)(out:List (List Int)):Option (List (List Int)):=
 LL T B lf 54 1 ⟨⟨49,[(39,aG t3),(38,aG t2),(37, .rv (.cv ⟨.slice (.slice (.int .i64)),t⟩)),(11, .rv (.own 11))],gl⟩,[(11,⟨99, .slice (.int .i64),out⟩)],[],h0,⟨.unit,()⟩,[],T.sites 54⟩
def tK (n:Int):Option (ByteArray):=cr T B lf 55 n
def Ba (l:List (List Int))(values:List ByteArray):Option ((List ((List Int)×ByteArray×Unit))×Int):=cr T B lf 56 (l,values)
def kV (l:List (List Int))(values:List ByteArray)(i:Int):Option ((List ((List Int)×ByteArray×Unit))×Int):=
 LL T B lf 56 0 (ms 83 [(7,aG i),(1, .rv (.cv ⟨.slice (.str),values⟩)),(0, .rv (.cv ⟨.slice (.slice (.int .i64)),l⟩))] [] h0 56)
def iZ (l:List (List Int))(values:List ByteArray)(i:Int)(out:List ((List Int)×ByteArray×Unit)):Option ((List ((List Int)×ByteArray×Unit))×Int):=
 LL T B lf 56 1 ⟨⟨83,[(9,aG i),(8, .rv (.own 8)),(1, .rv (.cv ⟨.slice (.str),values⟩)),(0, .rv (.cv ⟨.slice (.slice (.int .i64)),l⟩))],gl⟩,[(8,⟨101, .st (.pair (.slice (.int .i64)) (.pair (.str) (.unit))),out⟩)],[],h0,⟨.unit,()⟩,[],T.sites 56⟩
def kW (l:List (List Int))(values:List ByteArray)(i:Int)(YF:ByteArray)(k:Int)(out:List ((List Int)×ByteArray×Unit)):Option ((List ((List Int)×ByteArray×Unit))×Int):=
 LL T B lf 56 2 ⟨⟨83,[(11,aG k),(10, .rv (.cv ⟨.str,YF⟩)),(9,aG i),(8, .rv (.own 8)),(1, .rv (.cv ⟨.slice (.str),values⟩)),(0, .rv (.cv ⟨.slice (.slice (.int .i64)),l⟩))],gl⟩,[(8,⟨101, .st (.pair (.slice (.int .i64)) (.pair (.str) (.unit))),out⟩)],[],h0,⟨.unit,()⟩,[],T.sites 56⟩
def kX (f:List ((List Int)×ByteArray×Unit)):Option (Int):=cr T B lf 57 f
def dg (f:List ((List Int)×ByteArray×Unit))(i:Int):Option (Int):=
 LL T B lf 57 0 (ms 59 [(3,aG i),(0, .rv (.cv ⟨.slice (.st (.pair (.slice (.int .i64)) (.pair (.str) (.unit)))),f⟩))] [] h0 57)
def ab2 (f:List ((List Int)×ByteArray×Unit))(i:Int)(bl:List (List Int))(k:Int):Option (Int):=
 LL T B lf 57 1 (ms 59 [(6,aG k),(5, .rv (.cv ⟨.slice (.slice (.int .i64)),bl⟩)),(3,aG i),(0, .rv (.cv ⟨.slice (.st (.pair (.slice (.int .i64)) (.pair (.str) (.unit)))),f⟩))] [] h0 57)
def b7 (s:List Int):Option (List (List Int)):=cr T B lf 58 s
def dB (s:List Int)(i:Int)(out:List (List Int)):Option (List (List Int)):=
 LL T B lf 58 0 ⟨⟨23,[(4,aG i),(3, .rv (.own 3)),(0, .rv (.cv ⟨.slice (.int .i64),s⟩))],gl⟩,[(3,⟨26, .slice (.int .i64),out⟩)],[],h0,⟨.unit,()⟩,[],T.sites 58⟩
def bu (a:List Int)(b:List Int):Option (Int):=cr T B lf 59 (a,b)
def fI (a:List Int)(b:List Int)(i:Int):Option (Int):=
 LL T B lf 59 0 (ms 40 [(5,aG i),(1, .rv (.cv ⟨.slice (.int .i64),b⟩)),(0, .rv (.cv ⟨.slice (.int .i64),a⟩))] [] h0 59)
def i6 (p:Int)(a:Int):Option (Int):=cr T B lf 60 (p,a)
def fN (p:Int)(a:Int)(b:Int):Option (Int):=
 LL T B lf 60 0 (ms 18 [(5,aG b),(1,aG a),(0,aG p)] [] h0 60)
def dW (a:ByteArray):Option (Bool):=cr T B lf 61 a
def se (p:Int)(x:bX):Option (Int):=cr T B lf 62 (p,x)
def gu (p:Int)(x:bX)(i:Int):Option (Int):=
 LL T B lf 62 0 (ms 59 [(5,aG i),(1, .rv (.cv ⟨.slice (.st yT),x⟩)),(0,aG p)] [] h0 62)
def tL (c:gi)(x:bX):Option (List Int):=cr T B lf 63 (c,x)
def fD (x:bX)(i:Int)(out:List Int)(c:Int)(c2:tB):Option (List Int):=
 LL T B lf 63 0 ⟨⟨66,[(6,aG i),(5, .rv (.own 5)),(2, .box 2 0),(1, .rv (.cv ⟨.slice (.st yT),x⟩))],gl⟩,[(5,⟨3, .int .i64,out⟩)],[(2, .cells [⟨.int .i64,c⟩,⟨.slice (.st yC),c2⟩])],h0,⟨.unit,()⟩,[],T.sites 63⟩
def ij (x:bX)(i:Int)(b:bX)(k:Int)(out:List Int)(c:Int)(c2:tB):Option (List Int):=
 LL T B lf 63 1 ⟨⟨66,[(8,aG k),(7, .rv (.cv ⟨.slice (.st yT),b⟩)),(6,aG i),(5, .rv (.own 5)),(2, .box 2 0),(1, .rv (.cv ⟨.slice (.st yT),x⟩))],gl⟩,[(5,⟨3, .int .i64,out⟩)],[(2, .cells [⟨.int .i64,c⟩,⟨.slice (.st yC),c2⟩])],h0,⟨.unit,()⟩,[],T.sites 63⟩
def bD (a:ByteArray)(b:ByteArray):Option (Int):=cr T B lf 64 (a,b)
def dp (a:ByteArray):Option (ByteArray×ByteArray×Bool):=cr T B lf 65 a
def ab3 (a:ByteArray)(i:Int):Option (ByteArray×ByteArray×Bool):=
 LL T B lf 65 0 (ms 24 [(5,aG i),(0, .rv (.cv ⟨.str,a⟩))] [] h0 65)
def aaJ (a:ByteArray):Option (ByteArray):=cr T B lf 66 a
def nt (p:Int):Option (Bool):=cr T B lf 67 p
def kM (p:Int)(t:Int):Option (Bool):=
 LL T B lf 67 0 (ms 27 [(4,aG t),(0,aG p)] [] h0 67)
def xb (a:ByteArray):Option (Bool):=cr T B lf 68 a
def mS (p:Int)(c:bX):Option (Int):=cr T B lf 69 (p,c)
def iy (p:Int)(c:bX)(t:bX)(t2:Int)(t3:Int):Option (Int):=
 LL T B lf 69 0 (ms 52 [(12,aG t3),(11,aG t2),(10, .rv (.cv ⟨.slice (.st yT),t⟩)),(1, .rv (.cv ⟨.slice (.st yT),c⟩)),(0,aG p)] [] h0 69)
def vh (t:Int×Int×Unit)(t2:Int):Option (Bool):=cr T B lf 71 (t,t2)
def vi (t:Int×Int×Unit)(t2:gi)(t3:zqC):Option (Bool):=cr T B lf 72 (t,t2,t3)
def xc (c:gi)(x:bX):Option bX:=cr T B lf 73 (c,x)
def oi (t:bX)(t2:Int)(t3:Int)(out:bX)(c:Int)(c2:tB):Option bX:=
 LL T B lf 73 0 ⟨⟨31,[(9,aG t3),(8,aG t2),(7, .rv (.cv ⟨.slice (.st yT),t⟩)),(4, .rv (.own 4)),(2, .box 2 0)],gl⟩,[(4,⟨44, .st yT,out⟩)],[(2, .cells [⟨.int .i64,c⟩,⟨.slice (.st yC),c2⟩])],h0,⟨.unit,()⟩,[],T.sites 73⟩
def fX (out:bX)(t:bX)(t2:Int)(t3:Int)(c:Int)(c2:tB):Option bX:=
 LL T B lf 73 0 (ms 31 [(9,aG t3),(8,aG t2),(7, .rv (.cv ⟨.slice (.st yT),t⟩)),(4, .rv (.cv ⟨.slice (.st yT),out⟩)),(2, .box 2 0)] [(2, .cells [⟨.int .i64,c⟩,⟨.slice (.st yC),c2⟩])] h0 73)
def qD (a:(Bool×(List Int)×Unit)×(Bool×(List Int)×Unit)×Unit)(b:(Bool×(List Int)×Unit)×(Bool×(List Int)×Unit)×Unit):Option (Int):=cr T B lf 74 (a,b)
def xd (s:ByteArray)(sep:ByteArray):Option (ByteArray×ByteArray×Bool):=cr T B lf 75 (s,sep)
def HL (a:ByteArray):Option ((Bool×(List Int)×Unit)×Bool):=cr T B lf 76 a
def kN (s:ByteArray)(neg:Bool)(G0:Int)(d:List Int)(t:Bool)(t2:List Int):Option ((Bool×(List Int)×Unit)×Bool):=
 LL T B lf 76 0 ⟨⟨71,[(7,aG G0),(6, .rv (.own 6)),(5, .rv (.cv ⟨.bool,neg⟩)),(4, .rv (.cv ⟨.str,s⟩)),(2, .box 2 0)],gl⟩,[(6,⟨168, .int .u32,d⟩)],[(2, .cells [⟨.bool,t⟩,⟨.slice (.int .u32),t2⟩])],h0,⟨.unit,()⟩,[],T.sites 76⟩
def oZ (s:ByteArray)(neg:Bool)(G0:Int)(x:Int)(t:List Int)(t2:Int)(t3:Int)(d:List Int)(t4:Bool)(t5:List Int):Option ((Bool×(List Int)×Unit)×Bool):=
 LL T B lf 76 1 ⟨⟨71,[(46,aG t3),(45,aG t2),(44, .rv (.cv ⟨.slice (.int .u8),t⟩)),(8, .rv (.cv ⟨.int .u32,x⟩)),(7,aG G0),(6, .rv (.own 6)),(5, .rv (.cv ⟨.bool,neg⟩)),(4, .rv (.cv ⟨.str,s⟩)),(2, .box 2 0)],gl⟩,[(6,⟨168, .int .u32,d⟩)],[(2, .cells [⟨.bool,t4⟩,⟨.slice (.int .u32),t5⟩])],h0,⟨.unit,()⟩,[],T.sites 76⟩
def AA (n:Int):Option (Bool×(List Int)×Unit):=cr T B lf 77 n
def xe (u:Int)(neg:Bool)(d:List Int)(t:Bool)(t2:List Int):Option (Bool×(List Int)×Unit):=
 LL T B lf 77 0 ⟨⟨26,[(5, .rv (.own 5)),(4, .rv (.cv ⟨.bool,neg⟩)),(3, .rv (.cv ⟨.int .u64,u⟩)),(2, .box 2 0)],gl⟩,[(5,⟨168, .int .u32,d⟩)],[(2, .cells [⟨.bool,t⟩,⟨.slice (.int .u32),t2⟩])],h0,⟨.unit,()⟩,[],T.sites 77⟩
def jE (a:Bool×(List Int)×Unit):Option (Int):=cr T B lf 78 a
def gM (a:Bool×(List Int)×Unit)(b:Bool×(List Int)×Unit):Option (Int):=cr T B lf 79 (a,b)
def qE (a:Bool×(List Int)×Unit)(b:Bool×(List Int)×Unit):Option (Bool×(List Int)×Unit):=cr T B lf 80 (a,b)
def ac1 (x:List Int)(y:List Int)(t:Bool)(t2:List Int):Option (Bool×(List Int)×Unit):=
 LL T B lf 80 0 (ms 41 [(6, .rv (.cv ⟨.slice (.int .u32),y⟩)),(5, .rv (.cv ⟨.slice (.int .u32),x⟩)),(4, .box 4 0)] [(4, .cells [⟨.bool,t⟩,⟨.slice (.int .u32),t2⟩])] h0 80)
def vj (a:Bool×(List Int)×Unit):Option (Bool×(List Int)×Unit):=cr T B lf 81 a
def kO (a:(Bool×(List Int)×Unit)×(Bool×(List Int)×Unit)×Unit):Option (Bool×(List Int)×Unit):=cr T B lf 82 a
def sL (a:Bool×(List Int)×Unit):Option (ByteArray):=cr T B lf 83 a
def gR (t:List Int)(t2:Int)(t3:Int)(out:List Int)(a:Bool)(a2:List Int):Option (ByteArray):=
 LL T B lf 83 0 ⟨⟨81,[(21,aG t3),(20,aG t2),(19, .rv (.cv ⟨.slice (.int .u32),t⟩)),(3, .rv (.own 3)),(1, .box 1 0)],gl⟩,[(3,⟨5, .int .u8,out⟩)],[(1, .cells [⟨.bool,a⟩,⟨.slice (.int .u32),a2⟩])],h0,⟨.unit,()⟩,[],T.sites 83⟩
def gS (x:Int)(t:List Int)(t2:Int)(t3:Int)(t4:Int)(out:List Int)(a:Bool)(a2:List Int):Option (ByteArray):=
 LL T B lf 83 1 ⟨⟨81,[(25,aG t4),(21,aG t3),(20,aG t2),(19, .rv (.cv ⟨.slice (.int .u32),t⟩)),(5, .rv (.cv ⟨.int .u32,x⟩)),(3, .rv (.own 3)),(1, .box 1 0)],gl⟩,[(3,⟨5, .int .u8,out⟩)],[(1, .cells [⟨.bool,a⟩,⟨.slice (.int .u32),a2⟩])],h0,⟨.unit,()⟩,[],T.sites 83⟩
def gT (out:List Int)(a:Bool)(a2:List Int):Option (ByteArray):=
 LL T B lf 83 2 ⟨⟨81,[(3, .rv (.own 3)),(1, .box 1 0)],gl⟩,[(3,⟨5, .int .u8,out⟩)],[(1, .cells [⟨.bool,a⟩,⟨.slice (.int .u32),a2⟩])],h0,⟨.unit,()⟩,[],T.sites 83⟩
def gU (i:Int)(j:Int)(out:List Int):Option (ByteArray):=
 LL T B lf 83 3 ⟨⟨81,[(7,aG j),(6,aG i),(3, .rv (.own 3))],gl⟩,[(3,⟨5, .int .u8,out⟩)],[],h0,⟨.unit,()⟩,[],T.sites 83⟩
def mT (s:bX):Option bX:=cr T B lf 84 s
def j9 (c:bX):Option (Int×Bool):=cr T B lf 85 c
def BF (p:Int)(a:Int):Option (Int×Int):=cr T B lf 86 (p,a)
def ka (p:Int)(a:bX)(k:Int)(b:bX):Option (bX×Int):=cr T B lf 87 (p,a,k,b)
def vk (p:Int)(a:Int):Option (Int):=cr T B lf 88 (p,a)
def sM (v:List Int):Option (Int):=cr T B lf 89 v
def jP (v:List Int)(i:Int):Option (Int):=
 LL T B lf 89 0 (ms 17 [(3,aG i),(0, .rv (.cv ⟨.slice (.int .i64),v⟩))] [] h0 89)
def tM (l:List Int)(most:Int)(n:Int):Option (List Int):=cr T B lf 93 (l,most,n)
def ik (l:List Int)(most:Int)(n:Int)(i:Int)(out:List Int):Option (List Int):=
 LL T B lf 93 0 ⟨⟨52,[(8,aG i),(7, .rv (.own 7)),(2,aG n),(1,aG most),(0, .rv (.cv ⟨.slice (.int .i64),l⟩))],gl⟩,[(7,⟨3, .int .i64,out⟩)],[],h0,⟨.unit,()⟩,[],T.sites 93⟩
def mU (l:List (List Int)):Option (List (List Int)):=cr T B lf 94 l
def gv (l:List (List Int))(i:Int)(out:List (List Int)):Option (List (List Int)):=
 LL T B lf 94 0 ⟨⟨31,[(4,aG i),(3, .rv (.own 3)),(0, .rv (.cv ⟨.slice (.slice (.int .i64)),l⟩))],gl⟩,[(3,⟨26, .slice (.int .i64),out⟩)],[],h0,⟨.unit,()⟩,[],T.sites 94⟩
def sN (l:List (List Int))(i:Int)(f:List (List Int))(k:Int)(out:List (List Int)):Option (List (List Int)):=
 LL T B lf 94 1 ⟨⟨31,[(6,aG k),(5, .rv (.cv ⟨.slice (.slice (.int .i64)),f⟩)),(4,aG i),(3, .rv (.own 3)),(0, .rv (.cv ⟨.slice (.slice (.int .i64)),l⟩))],gl⟩,[(3,⟨26, .slice (.int .i64),out⟩)],[],h0,⟨.unit,()⟩,[],T.sites 94⟩
def db (l:List (List Int))(out:List (List Int))(i:Int)(f:List (List Int))(k:Int):Option (List (List Int)):=
 LL T B lf 94 1 (ms 31 [(6,aG k),(5, .rv (.cv ⟨.slice (.slice (.int .i64)),f⟩)),(4,aG i),(3, .rv (.cv ⟨.slice (.slice (.int .i64)),out⟩)),(0, .rv (.cv ⟨.slice (.slice (.int .i64)),l⟩))] [] h0 94)
def iP (l:List (List Int))(out:List (List Int))(i:Int):Option (List (List Int)):=
 LL T B lf 94 0 (ms 31 [(4,aG i),(3, .rv (.cv ⟨.slice (.slice (.int .i64)),out⟩)),(0, .rv (.cv ⟨.slice (.slice (.int .i64)),l⟩))] [] h0 94)
def il (a:Int)(b:Int):Option (ByteArray):=cr T B lf 95 (a,b)
def tN (l:List (List Int)):Option (Int):=cr T B lf 96 l
def fE (l:List (List Int))(i:Int):Option (Int):=
 LL T B lf 96 0 (ms 72 [(3,aG i),(0, .rv (.cv ⟨.slice (.slice (.int .i64)),l⟩))] [] h0 96)
def im (l:List (List Int))(i:Int)(f:List (List Int))(k:Int):Option (Int):=
 LL T B lf 96 1 (ms 72 [(6,aG k),(5, .rv (.cv ⟨.slice (.slice (.int .i64)),f⟩)),(3,aG i),(0, .rv (.cv ⟨.slice (.slice (.int .i64)),l⟩))] [] h0 96)
def yr (a:List Int)(b:List Int):Option (Bool):=cr T B lf 97 (a,b)
def jQ (a:List Int)(b:List Int)(i:Int):Option (Bool):=
 LL T B lf 97 0 (ms 19 [(5,aG i),(1, .rv (.cv ⟨.slice (.int .i64),b⟩)),(0, .rv (.cv ⟨.slice (.int .i64),a⟩))] [] h0 97)
def sf (l:List ((List Int)×ByteArray×Unit)):Option (List ((List Int)×ByteArray×Unit)):=cr T B lf 98 l
def dC (out:Nat)(i:Int)(aH:H4)(lL:H8):Option (List ((List Int)×ByteArray×Unit)):=
 LL T B lf 98 0 (ms 70 [(4,aG i),(3, .rv (.cv ⟨.ref 8,out⟩))] [] (hs [] [] [] [] aH [] [] [] lL []) 98)
def eS (out:Nat)(i:Int)(k:Int)(aH:H4)(lL:H8):Option (List ((List Int)×ByteArray×Unit)):=
 LL T B lf 98 1 (ms 70 [(5,aG k),(4,aG i),(3, .rv (.cv ⟨.ref 8,out⟩))] [] (hs [] [] [] [] aH [] [] [] lL []) 98)
def mM (f:List ((List Int)×ByteArray×Unit))(i:Int):Option (Int):=cr T B lf 99 (f,i)
def gw (f:List ((List Int)×ByteArray×Unit))(n:Int)(s:List Int):Option (Int):=cr T B lf 100 (f,n,s)
def ed (f:List ((List Int)×ByteArray×Unit))(n:Int)(s:List Int)(i:Int):Option (Int):=
 LL T B lf 100 0 (ms 22 [(7,aG i),(2, .rv (.cv ⟨.slice (.int .i64),s⟩)),(1,aG n),(0, .rv (.cv ⟨.slice (.st (.pair (.slice (.int .i64)) (.pair (.str) (.unit)))),f⟩))] [] h0 100)
def i7 (s:List Int)(k:Int):Option (List Int):=cr T B lf 101 (s,k)
def dc (s:List Int)(k:Int)(i:Int)(out:List Int):Option (List Int):=
 LL T B lf 101 0 ⟨⟨24,[(6,aG i),(5, .rv (.own 5)),(1,aG k),(0, .rv (.cv ⟨.slice (.int .i64),s⟩))],gl⟩,[(5,⟨3, .int .i64,out⟩)],[],h0,⟨.unit,()⟩,[],T.sites 101⟩
def mN (a:ByteArray):Option (Bool):=cr T B lf 102 a
def qF (a:ByteArray):Option (Bool):=cr T B lf 103 a
def cg (a:ByteArray)(b:ByteArray):Option (Int):=cr T B lf 104 (a,b)
def gz (a:ByteArray)(b:ByteArray):Option (ByteArray):=cr T B lf 105 (a,b)
def bW (p:Bool)(x:List Int)(q:Bool)(y:List Int)(i:Int)(out:List Int):Option (ByteArray):=
 LL T B lf 105 0 ⟨⟨120,[(14,aG i),(13, .rv (.own 13)),(12, .rv (.cv ⟨.slice (.int .i64),y⟩)),(11, .rv (.cv ⟨.bool,q⟩)),(10, .rv (.cv ⟨.slice (.int .i64),x⟩)),(9, .rv (.cv ⟨.bool,p⟩))],gl⟩,[(13,⟨3, .int .i64,out⟩)],[],h0,⟨.unit,()⟩,[],T.sites 105⟩
def ee (p:Bool)(x:List Int)(q:Bool)(y:List Int)(i:Int)(k:Int)(out:List Int):Option (ByteArray):=
 LL T B lf 105 1 ⟨⟨120,[(15,aG k),(14,aG i),(13, .rv (.own 13)),(12, .rv (.cv ⟨.slice (.int .i64),y⟩)),(11, .rv (.cv ⟨.bool,q⟩)),(10, .rv (.cv ⟨.slice (.int .i64),x⟩)),(9, .rv (.cv ⟨.bool,p⟩))],gl⟩,[(13,⟨3, .int .i64,out⟩)],[],h0,⟨.unit,()⟩,[],T.sites 105⟩
def dh (p:Bool)(q:Bool)(i:Int)(out:List Int):Option (ByteArray):=
 LL T B lf 105 2 ⟨⟨120,[(16,aG i),(13, .rv (.own 13)),(11, .rv (.cv ⟨.bool,q⟩)),(9, .rv (.cv ⟨.bool,p⟩))],gl⟩,[(13,⟨3, .int .i64,out⟩)],[],h0,⟨.unit,()⟩,[],T.sites 105⟩
def aD (a:ByteArray):Option (Bool×List Int):=cr T B lf 106 a
def dD (a:ByteArray)(minus:Bool)(i:Int)(d:List Int):Option (Bool×List Int):=
 LL T B lf 106 0 ⟨⟨37,[(6,aG i),(5, .rv (.own 5)),(4, .rv (.cv ⟨.bool,minus⟩)),(0, .rv (.cv ⟨.str,a⟩))],gl⟩,[(5,⟨3, .int .i64,d⟩)],[],h0,⟨.unit,()⟩,[],T.sites 106⟩
def aA (minus:Bool)(d:List Int):Option (ByteArray):=cr T B lf 107 (minus,d)
def eT (d:List Int)(i:Int)(out:List Int):Option (ByteArray):=
 LL T B lf 107 0 ⟨⟨34,[(6,aG i),(5, .rv (.own 5)),(1, .rv (.cv ⟨.slice (.int .i64),d⟩))],gl⟩,[(5,⟨5, .int .u8,out⟩)],[],h0,⟨.unit,()⟩,[],T.sites 107⟩
def Ej (a:ByteArray):Option (((Bool×(List Int)×Unit)×(Bool×(List Int)×Unit)×Unit)×Bool):=cr T B lf 108 a
def qG (a:Bool×(List Int)×Unit)(b:Bool×(List Int)×Unit):Option (Bool×(List Int)×Unit):=cr T B lf 110 (a,b)
def dY (t:List Int)(t2:Int)(t3:Int)(out:List Int)(a:Bool)(a2:List Int)(b:Bool)(b2:List Int)(t4:Bool)(t5:List Int):Option (Bool×(List Int)×Unit):=
 LL T B lf 110 0 ⟨⟨78,[(22,aG t3),(21,aG t2),(20, .rv (.cv ⟨.slice (.int .u32),t⟩)),(5, .rv (.own 5)),(4, .box 4 0),(3, .box 3 0),(2, .box 2 0)],gl⟩,[(5,⟨168, .int .u32,out⟩)],[(2, .cells [⟨.bool,a⟩,⟨.slice (.int .u32),a2⟩]),(3, .cells [⟨.bool,b⟩,⟨.slice (.int .u32),b2⟩]),(4, .cells [⟨.bool,t4⟩,⟨.slice (.int .u32),t5⟩])],h0,⟨.unit,()⟩,[],T.sites 110⟩
def gA (i:Int)(x:Int)(carry:Int)(t:List Int)(t2:Int)(t3:Int)(t4:List Int)(t5:Int)(t6:Int)(out:List Int)(a:Bool)(a2:List Int)(b:Bool)(b2:List Int)(t7:Bool)(t8:List Int):Option (Bool×(List Int)×Unit):=
 LL T B lf 110 1 ⟨⟨78,[(30,aG t6),(29,aG t5),(28, .rv (.cv ⟨.slice (.int .u32),t4⟩)),(22,aG t3),(21,aG t2),(20, .rv (.cv ⟨.slice (.int .u32),t⟩)),(8, .rv (.cv ⟨.int .u64,carry⟩)),(7, .rv (.cv ⟨.int .u32,x⟩)),(6,aG i),(5, .rv (.own 5)),(4, .box 4 0),(3, .box 3 0),(2, .box 2 0)],gl⟩,[(5,⟨168, .int .u32,out⟩)],[(2, .cells [⟨.bool,a⟩,⟨.slice (.int .u32),a2⟩]),(3, .cells [⟨.bool,b⟩,⟨.slice (.int .u32),b2⟩]),(4, .cells [⟨.bool,t7⟩,⟨.slice (.int .u32),t8⟩])],h0,⟨.unit,()⟩,[],T.sites 110⟩
def qm (s:ByteArray)(sep:ByteArray):Option (ByteArray×ByteArray×Bool):=cr T B lf 111 (s,sep)
def jR (s:ByteArray)(fY:ByteArray):Option (ByteArray×Bool):=cr T B lf 112 (s,fY)
def kb (neg:Bool)(d:List Int):Option (Bool×(List Int)×Unit):=cr T B lf 113 (neg,d)
def BG (a:List Int)(b:List Int):Option (Int):=cr T B lf 114 (a,b)
def o5 (a:List Int)(b:List Int)(i:Int):Option (Int):=
 LL T B lf 114 0 (ms 41 [(5,aG i),(1, .rv (.cv ⟨.slice (.int .u32),b⟩)),(0, .rv (.cv ⟨.slice (.int .u32),a⟩))] [] h0 114)
def HM (x:Int)(y:Int):Option (Int):=cr T B lf 115 (x,y)
def mV (x:Int)(y:Int):Option (Int):=
 LL T B lf 115 0 (ms 12 [(1,aG y),(0,aG x)] [] h0 115)
def HN (d:List Int):Option (Int):=cr T B lf 116 d
def sO (d:List Int)(n:Int)(i:Int):Option (Int):=
 LL T B lf 116 0 (ms 21 [(4,aG i),(3,aG n),(0, .rv (.cv ⟨.slice (.int .u32),d⟩))] [] h0 116)
def AB (a:List Int)(b:List Int):Option ((List Int)×List Int):=cr T B lf 117 (a,b)
def oo (d:List Int):Option (List Int):=cr T B lf 118 d
def o6 (d:List Int):Option (List Int):=
 LL T B lf 118 0 (ms 21 [(0, .rv (.cv ⟨.slice (.int .u32),d⟩))] [] h0 118)
def Jw (p:Int):Option (Int×Int):=cr T B lf 119 p
def fo (f:Int)(a:Int):Option (Int):=cr T B lf 120 (f,a)
def ln (f:Int)(a:Int):Option (Int):=cr T B lf 121 (f,a)
def qn (p:Int)(l:List bX):Option (Int):=cr T B lf 122 (p,l)
def gd (p:Int)(t:List bX)(t2:Int)(t3:Int):Option (Int):=
 LL T B lf 122 0 (ms 21 [(10,aG t3),(9,aG t2),(8, .rv (.cv ⟨.slice (.slice (.st yT)),t⟩)),(0,aG p)] [] h0 122)
def xf (p:Int)(a:bX)(k:Int)(b:bX):Option bX:=cr T B lf 123 (p,a,k,b)
def jF (row:bX)(p:Int)(k:Int)(rest:List (Int×I2×Unit)):Option bX:=
 LL T B lf 123 0 ⟨⟨36,[(9, .box 9 0),(6, .box 6 0),(4, .box 4 0)],[(10009, .box 9 0),(10006, .box 6 0),(10004, .box 4 0),(1000000000, .qB [⟨.fn,(197:Nat)⟩,⟨.bool,false⟩]),(1000000001, .qB [⟨.fn,(199:Nat)⟩,⟨.bool,true⟩])]⟩,[(9,⟨44, .st yT,row⟩)],[(4, .cells [⟨.int .i64,p⟩]),(6, .cells [⟨.int .i64,k⟩]),(9, .own 9)],h0,⟨.unit,()⟩,[⟨[.int .i64, .st yT],rest⟩],T.sites 123⟩
def qH (a:List Int)(v:Int):Option (Bool):=cr T B lf 134 (a,v)
def kY (a:List Int)(v:Int)(i:Int):Option (Bool):=
 LL T B lf 134 0 (ms 18 [(5,aG i),(1,aG v),(0, .rv (.cv ⟨.slice (.int .i64),a⟩))] [] h0 134)
def jS (l:List Int):Option ((List Int)×Int):=cr T B lf 135 l
def eV (n:Int)(i:Int)(out:List Int):Option ((List Int)×Int):=
 LL T B lf 135 0 ⟨⟨54,[(6,aG i),(5,aG n),(4, .rv (.own 4))],gl⟩,[(4,⟨3, .int .i64,out⟩)],[],h0,⟨.unit,()⟩,[],T.sites 135⟩
def gC (n:Int)(i:Int)(k:Int)(out:List Int):Option ((List Int)×Int):=
 LL T B lf 135 1 ⟨⟨54,[(7,aG k),(6,aG i),(5,aG n),(4, .rv (.own 4))],gl⟩,[(4,⟨3, .int .i64,out⟩)],[],h0,⟨.unit,()⟩,[],T.sites 135⟩
def kZ (s:List Int):Option (List (List Int)):=cr T B lf 136 s
def uB (s:List Int)(m:Int)(out:List (List Int)):Option (List (List Int)):=
 LL T B lf 136 0 ⟨⟨36,[(4,aG m),(3, .rv (.own 3)),(0, .rv (.cv ⟨.slice (.int .i64),s⟩))],gl⟩,[(3,⟨26, .slice (.int .i64),out⟩)],[],h0,⟨.unit,()⟩,[],T.sites 136⟩
def iq (s:List Int)(m:Int)(i:Int)(out:List (List Int))(f:List Int):Option (List (List Int)):=
 LL T B lf 136 1 ⟨⟨36,[(6,aG i),(5, .rv (.own 5)),(4,aG m),(3, .rv (.own 3)),(0, .rv (.cv ⟨.slice (.int .i64),s⟩))],gl⟩,[(3,⟨26, .slice (.int .i64),out⟩),(5,⟨3, .int .i64,f⟩)],[],h0,⟨.unit,()⟩,[],T.sites 136⟩
def dE (s:List Int)(out:List (List Int))(m:Int):Option (List (List Int)):=
 LL T B lf 136 0 (ms 36 [(4,aG m),(3, .rv (.cv ⟨.slice (.slice (.int .i64)),out⟩)),(0, .rv (.cv ⟨.slice (.int .i64),s⟩))] [] h0 136)
def gD (s:List Int)(out:List (List Int))(m:Int)(i:Int)(f:List Int):Option (List (List Int)):=
 LL T B lf 136 1 ⟨⟨36,[(6,aG i),(5, .rv (.own 5)),(4,aG m),(3, .rv (.cv ⟨.slice (.slice (.int .i64)),out⟩)),(0, .rv (.cv ⟨.slice (.int .i64),s⟩))],gl⟩,[(5,⟨3, .int .i64,f⟩)],[],h0,⟨.unit,()⟩,[],T.sites 136⟩
def fW (l:List (List Int))(s:List Int):Option (List (List Int)):=cr T B lf 137 (l,s)
def jT (l:List (List Int))(s:List Int)(done:Bool)(i:Int)(out:List (List Int)):Option (List (List Int)):=
 LL T B lf 137 0 ⟨⟨48,[(7,aG i),(6, .rv (.cv ⟨.bool,done⟩)),(5, .rv (.own 5)),(1, .rv (.cv ⟨.slice (.int .i64),s⟩)),(0, .rv (.cv ⟨.slice (.slice (.int .i64)),l⟩))],gl⟩,[(5,⟨26, .slice (.int .i64),out⟩)],[],h0,⟨.unit,()⟩,[],T.sites 137⟩
def lq (n:ByteArray)(d:ByteArray):Option (ByteArray):=cr T B lf 138 (n,d)
def b8 (n:Int):Option (ByteArray):=cr T B lf 139 n
def dF (q:Int)(d:List Int):Option (ByteArray):=
 LL T B lf 139 0 ⟨⟨42,[(5, .rv (.own 5)),(3,aG q)],gl⟩,[(5,⟨3, .int .i64,d⟩)],[],h0,⟨.unit,()⟩,[],T.sites 139⟩
def dG (n:Int)(d:List Int):Option (ByteArray):=
 LL T B lf 139 1 ⟨⟨42,[(6, .rv (.own 6)),(0,aG n)],gl⟩,[(6,⟨3, .int .i64,d⟩)],[],h0,⟨.unit,()⟩,[],T.sites 139⟩
def gE (s:List Int):Option (Int):=cr T B lf 140 s
def ef (s:List Int)(i:Int):Option (Int):=
 LL T B lf 140 0 (ms 45 [(3,aG i),(0, .rv (.cv ⟨.slice (.int .i64),s⟩))] [] h0 140)
def eg (s:List Int)(i:Int):Option (Int):=
 LL T B lf 140 1 (ms 45 [(4,aG i),(0, .rv (.cv ⟨.slice (.int .i64),s⟩))] [] h0 140)
def AD (l:List (List Int))(s:List Int):Option (Int):=cr T B lf 141 (l,s)
def ir (l:List (List Int))(s:List Int)(i:Int):Option (Int):=
 LL T B lf 141 0 (ms 20 [(5,aG i),(1, .rv (.cv ⟨.slice (.int .i64),s⟩)),(0, .rv (.cv ⟨.slice (.slice (.int .i64)),l⟩))] [] h0 141)
def sg (l:List ((List Int)×ByteArray×Unit))(lL:H8)(aH:H4):Option ((Nat)×H8×H4):=cr T B lf 142 (l,(lL,aH))
def gF (l:List ((List Int)×ByteArray×Unit))(out:Nat)(i:Int)(aH:H4)(lL:H8):Option ((Nat)×H8×H4):=
 LL T B lf 142 0 (ms 28 [(4,aG i),(3, .rv (.cv ⟨.ref 8,out⟩)),(0, .rv (.cv ⟨.slice (.st (.pair (.slice (.int .i64)) (.pair (.str) (.unit)))),l⟩))] [] (hs [] [] [] [] aH [] [] [] lL []) 142)
def kc (a:ByteArray):Option (Bool):=cr T B lf 143 a
def k8 (a:ByteArray):Option (Bool):=cr T B lf 144 a
def di (s:ByteArray)(i:Int):Option (Bool):=
 LL T B lf 144 0 (ms 53 [(4,aG i),(3, .rv (.cv ⟨.str,s⟩))] [] h0 144)
def eW (a:ByteArray)(b:ByteArray):Option (ByteArray):=cr T B lf 145 (a,b)
def dd (x:ByteArray)(y:ByteArray):Option (ByteArray):=
 LL T B lf 145 0 (ms 24 [(6, .rv (.cv ⟨.str,y⟩)),(5, .rv (.cv ⟨.str,x⟩))] [] h0 145)
def dQ (a:List Int)(b:List Int):Option (Int):=cr T B lf 146 (a,b)
def eX (a:List Int)(b:List Int)(i:Int):Option (Int):=
 LL T B lf 146 0 (ms 41 [(5,aG i),(1, .rv (.cv ⟨.slice (.int .i64),b⟩)),(0, .rv (.cv ⟨.slice (.int .i64),a⟩))] [] h0 146)
def dZ (a:ByteArray):Option (Int×Bool):=cr T B lf 147 a
def ab5 (a:ByteArray)(n:Int)(i:Int):Option (Int×Bool):=
 LL T B lf 147 0 (ms 38 [(5,aG i),(4,aG n),(0, .rv (.cv ⟨.str,a⟩))] [] h0 147)
def bJ (d:List Int):Option (List Int):=cr T B lf 148 d
def eY (d:List Int):Option (List Int):=
 LL T B lf 148 0 (ms 21 [(0, .rv (.cv ⟨.slice (.int .i64),d⟩))] [] h0 148)
def oq (a:(Bool×(List Int)×Unit)×(Bool×(List Int)×Unit)×Unit):Option (Bool):=cr T B lf 149 a
def jU (s:ByteArray)(substr:ByteArray):Option (Int):=cr T B lf 150 (s,substr)
def iQ (s:ByteArray)(fY:ByteArray):Option (ByteArray×Bool):=cr T B lf 151 (s,fY)
def xg (a:List Int)(b:Int):Option ((List Int)×Int):=cr T B lf 152 (a,b)
def mW (a:List Int)(b:Int)(rest:Int)(i:Int)(out:List Int):Option ((List Int)×Int):=
 LL T B lf 152 0 ⟨⟨42,[(8,aG i),(7, .rv (.cv ⟨.int .u64,rest⟩)),(6, .rv (.own 6)),(1, .rv (.cv ⟨.int .u32,b⟩)),(0, .rv (.cv ⟨.slice (.int .u32),a⟩))],gl⟩,[(6,⟨168, .int .u32,out⟩)],[],h0,⟨.unit,()⟩,[],T.sites 152⟩
def HO (a:List Int)(b:List Int):Option ((List Int)×List Int):=cr T B lf 153 (a,b)
def fJ (k:Int)(v:List Int)(n:Int)(j:Int)(q:List Int)(u:List Int):Option ((List Int)×List Int):=
 LL T B lf 153 0 ⟨⟨239,[(10,aG j),(9,aG n),(8, .rv (.cv ⟨.slice (.int .u32),v⟩)),(7, .rv (.own 7)),(6, .rv (.cv ⟨.int .u32,k⟩)),(4, .rv (.own 4))],gl⟩,[(4,⟨168, .int .u32,q⟩),(7,⟨168, .int .u32,u⟩)],[],h0,⟨.unit,()⟩,[],T.sites 153⟩
def kP (k:Int)(v:List Int)(n:Int)(j:Int)(guess:Int)(rest:Int)(q:List Int)(u:List Int):Option ((List Int)×List Int):=
 LL T B lf 153 1 ⟨⟨239,[(13, .rv (.cv ⟨.int .u64,rest⟩)),(12, .rv (.cv ⟨.int .u64,guess⟩)),(10,aG j),(9,aG n),(8, .rv (.cv ⟨.slice (.int .u32),v⟩)),(7, .rv (.own 7)),(6, .rv (.cv ⟨.int .u32,k⟩)),(4, .rv (.own 4))],gl⟩,[(4,⟨168, .int .u32,q⟩),(7,⟨168, .int .u32,u⟩)],[],h0,⟨.unit,()⟩,[],T.sites 153⟩
def iz (k:Int)(v:List Int)(n:Int)(j:Int)(guess:Int)(borrow:Int)(t:Int)(t2:Int)(q:List Int)(u:List Int):Option ((List Int)×List Int):=
 LL T B lf 153 2 ⟨⟨239,[(124,aG t2),(123,aG t),(14,aG borrow),(12, .rv (.cv ⟨.int .u64,guess⟩)),(10,aG j),(9,aG n),(8, .rv (.cv ⟨.slice (.int .u32),v⟩)),(7, .rv (.own 7)),(6, .rv (.cv ⟨.int .u32,k⟩)),(4, .rv (.own 4))],gl⟩,[(4,⟨168, .int .u32,q⟩),(7,⟨168, .int .u32,u⟩)],[],h0,⟨.unit,()⟩,[],T.sites 153⟩
def mX (k:Int)(v:List Int)(n:Int)(j:Int)(guess:Int)(x:Int)(carry:Int)(t:Int)(t2:Int)(q:List Int)(u:List Int):Option ((List Int)×List Int):=
 LL T B lf 153 3 ⟨⟨239,[(189,aG t2),(188,aG t),(18, .rv (.cv ⟨.int .u32,carry⟩)),(17,aG x),(12, .rv (.cv ⟨.int .u64,guess⟩)),(10,aG j),(9,aG n),(8, .rv (.cv ⟨.slice (.int .u32),v⟩)),(7, .rv (.own 7)),(6, .rv (.cv ⟨.int .u32,k⟩)),(4, .rv (.own 4))],gl⟩,[(4,⟨168, .int .u32,q⟩),(7,⟨168, .int .u32,u⟩)],[],h0,⟨.unit,()⟩,[],T.sites 153⟩
def ot (f:Int)(a:Int)(n:Int):Option (Int):=cr T B lf 154 (f,a,n)
def eo (f:Int)(n:Int)(out:Int)(base:Int):Option (Int):=
 LL T B lf 154 0 (ms 30 [(8,aG base),(7,aG out),(2,aG n),(0,aG f)] [] h0 154)
def vm (a:bX)(b:bX):Option (bX×bX):=cr T B lf 155 (a,b)
def acr (a:ByteArray)(b:ByteArray):Option (ByteArray×ByteArray):=cr T B lf 161 (a,b)
def bN (b:ByteArray)(p:Bool)(x:List Int)(s:Bool)(y:List Int)(r:List Int)(i:Int)(q:List Int):Option (ByteArray×ByteArray):=
 LL T B lf 161 0 ⟨⟨164,[(19,aG i),(18, .rv (.cv ⟨.slice (.int .i64),r⟩)),(17, .rv (.own 17)),(15, .rv (.cv ⟨.slice (.int .i64),y⟩)),(14, .rv (.cv ⟨.bool,s⟩)),(13, .rv (.cv ⟨.slice (.int .i64),x⟩)),(12, .rv (.cv ⟨.bool,p⟩)),(1, .rv (.cv ⟨.str,b⟩))],gl⟩,[(17,⟨3, .int .i64,q⟩)],[],h0,⟨.unit,()⟩,[],T.sites 161⟩
def cX (b:ByteArray)(p:Bool)(x:List Int)(s:Bool)(y:List Int)(r:List Int)(i:Int)(k:Int)(q:List Int):Option (ByteArray×ByteArray):=
 LL T B lf 161 1 ⟨⟨164,[(20,aG k),(19,aG i),(18, .rv (.cv ⟨.slice (.int .i64),r⟩)),(17, .rv (.own 17)),(15, .rv (.cv ⟨.slice (.int .i64),y⟩)),(14, .rv (.cv ⟨.bool,s⟩)),(13, .rv (.cv ⟨.slice (.int .i64),x⟩)),(12, .rv (.cv ⟨.bool,p⟩)),(1, .rv (.cv ⟨.str,b⟩))],gl⟩,[(17,⟨3, .int .i64,q⟩)],[],h0,⟨.unit,()⟩,[],T.sites 161⟩
def aT (b:ByteArray)(p:Bool)(s:Bool)(r:List Int)(i:Int)(q:List Int):Option (ByteArray×ByteArray):=
 LL T B lf 161 2 ⟨⟨164,[(21,aG i),(18, .rv (.cv ⟨.slice (.int .i64),r⟩)),(17, .rv (.own 17)),(14, .rv (.cv ⟨.bool,s⟩)),(12, .rv (.cv ⟨.bool,p⟩)),(1, .rv (.cv ⟨.str,b⟩))],gl⟩,[(17,⟨3, .int .i64,q⟩)],[],h0,⟨.unit,()⟩,[],T.sites 161⟩
def fK (a:ByteArray):Option (Int):=cr T B lf 162 a
def iu (a:ByteArray):Option (ByteArray):=cr T B lf 163 a
def ou (a:Bool×(List Int)×Unit):Option (Bool):=cr T B lf 164 a
def fO (s:ByteArray)(c:Int):Option (Int):=cr T B lf 165 (s,c)
def iS (s:ByteArray)(fY:ByteArray):Option (Bool):=cr T B lf 169 (s,fY)
def AE (a:List Int)(k:Int):Option (List Int):=cr T B lf 170 (a,k)
def kQ (k:Int)(carry:Int)(t:List Int)(t2:Int)(t3:Int)(out:List Int):Option (List Int):=
 LL T B lf 170 0 ⟨⟨40,[(15,aG t3),(14,aG t2),(13, .rv (.cv ⟨.slice (.int .u32),t⟩)),(6, .rv (.cv ⟨.int .u64,carry⟩)),(5, .rv (.own 5)),(1, .rv (.cv ⟨.int .u32,k⟩))],gl⟩,[(5,⟨168, .int .u32,out⟩)],[],h0,⟨.unit,()⟩,[],T.sites 170⟩
def qo (t:bX)(t2:bX):Option (List (Int×I2×Unit)):=cr T B lf 171 ((),t,t2)
def eZ (t:bX)(t2:bX)(trace:List (Int×I2×Unit)):Option (List (Int×I2×Unit)):=
 LL T B lf 171 0 ⟨⟨94,[(2, .box 2 0),(1, .box 1 0),(0, .N3)],gl⟩,[],[(1, .cells [⟨.slice (.st yT),t⟩]),(2, .cells [⟨.slice (.st yT),t2⟩])],h0,⟨.slice (.pair (.int .i64) (.pair (.st yT) (.unit))),trace⟩,[],T.sites 171⟩
def bw (a:List Int)(b:List Int):Option (List Int):=cr T B lf 173 (a,b)
def b4 (a:List Int)(b:List Int)(borrow:Int)(i:Int)(out:List Int):Option (List Int):=
 LL T B lf 173 0 ⟨⟨41,[(7,aG i),(6,aG borrow),(5, .rv (.own 5)),(1, .rv (.cv ⟨.slice (.int .i64),b⟩)),(0, .rv (.cv ⟨.slice (.int .i64),a⟩))],gl⟩,[(5,⟨3, .int .i64,out⟩)],[],h0,⟨.unit,()⟩,[],T.sites 173⟩
def k9 (a:ByteArray)(b:ByteArray):Option (ByteArray):=cr T B lf 174 (a,b)
def iA (a:ByteArray)(b:ByteArray):Option (ByteArray):=cr T B lf 175 (a,b)
def adb (a:Bool×(List Int)×Unit):Option (Int):=cr T B lf 176 a
def eA (n:Int)(x:Int):Option (Int):=
 LL T B lf 176 0 (ms 29 [(4, .rv (.cv ⟨.int .u32,x⟩)),(3,aG n)] [] h0 176)
def jG (a:List Int)(b:List Int):Option (List Int):=cr T B lf 179 (a,b)
def fL (a:List Int)(b:List Int)(carry:Int)(i:Int)(out:List Int):Option (List Int):=
 LL T B lf 179 0 ⟨⟨54,[(7,aG i),(6,aG carry),(5, .rv (.own 5)),(1, .rv (.cv ⟨.slice (.int .i64),b⟩)),(0, .rv (.cv ⟨.slice (.int .i64),a⟩))],gl⟩,[(5,⟨3, .int .i64,out⟩)],[],h0,⟨.unit,()⟩,[],T.sites 179⟩
def qp (c:gi):Option gi:=cr T B lf 196 c
def mY (t:gi):Option (List (Int×Unit)):=cr T B lf 197 ((),t)
def dH (t:Int)(t2:Int)(trace:List (Int×Unit)):Option (List (Int×Unit)):=
 LL T B lf 197 0 ⟨⟨15,[(7,aG t2),(6,aG t),(0, .N3)],gl⟩,[],[],h0,⟨.slice (.pair (.int .i64) (.unit)),trace⟩,[],T.sites 197⟩
def ov (c:gi):Option gi:=cr T B lf 198 c
def lr (t:gi):Option (List (Int×Unit)):=cr T B lf 199 ((),t)
def eB (d:Int)(t:Int)(t2:tB)(trace:List (Int×Unit)):Option (List (Int×Unit)):=
 LL T B lf 199 0 ⟨⟨29,[(3,aG d),(1, .box 1 0),(0, .N3)],gl⟩,[],[(1, .cells [⟨.int .i64,t⟩,⟨.slice (.st yC),t2⟩])],h0,⟨.slice (.pair (.int .i64) (.unit)),trace⟩,[],T.sites 199⟩
def eC (d:Int)(t:tB)(t2:Int)(t3:Int)(t4:Int)(t5:tB)(trace:List (Int×Unit)):Option (List (Int×Unit)):=
 LL T B lf 199 1 ⟨⟨29,[(13,aG t3),(12,aG t2),(11, .rv (.cv ⟨.slice (.st yC),t⟩)),(3,aG d),(1, .box 1 0),(0, .N3)],gl⟩,[],[(1, .cells [⟨.int .i64,t4⟩,⟨.slice (.st yC),t5⟩])],h0,⟨.slice (.pair (.int .i64) (.unit)),trace⟩,[],T.sites 199⟩
def kR (c:gi)(ak:H2):Option ((Nat×I2×Int)×H2):=cr T B lf 100045 ((c,(),()),ak)
def sP (c:gi)(ak:H2):Option ((Nat×I2×Int)×H2):=cr T B lf 100145 ((c,(),()),ak)
def iw (c:gi)(ak:H2):Option ((Nat×Int×Int×Unit)×H2):=cr T B lf 100046 (((),c),ak)
def cY (out:Nat)(t:Int)(t2:Int)(row:H2)(cy:List Int)(e:Bool)(c:Int)(c2:tB)(w:Int)(w2:Int)(ak:H2):Option ((Nat×Int×Int×Unit)×H2):=
 LL T B lf 100046 0 ⟨⟨155,[(28,aG t2),(27,aG t),(8, .box 8 0),(7, .box 7 0),(5, .box 5 0),(4, .rv (.cv ⟨.ref 3,out⟩)),(3, .box 3 0),(2, .box 2 0)],gl⟩,[(7,⟨40, .pg (.st yT),row⟩),(8,⟨3, .int .i64,cy⟩)],[(2, .cells [⟨.fn,(197:Nat)⟩,⟨.bool,e⟩]),(3, .cells [⟨.int .i64,c⟩,⟨.slice (.st yC),c2⟩]),(5, .cells [⟨.int .i64,w⟩,⟨.int .i64,w2⟩]),(7, .own 7),(8, .own 8)],(hs [] [] [] ak [] [] [] [] [] []),⟨.unit,()⟩,[],T.sites 100046⟩
def aF (out:Nat)(ax:Nat)(row:H2)(cy:List Int)(e:Bool)(c:Int)(c2:tB)(w:Int)(w2:Int)(ak:H2)(rest:List (Int×Unit)):Option ((Nat×Int×Int×Unit)×H2):=
 LL T B lf 100046 1 ⟨⟨155,[(8, .box 8 0),(7, .box 7 0),(5, .box 5 0),(4, .rv (.cv ⟨.ref 3,out⟩)),(3, .box 3 0),(2, .box 2 0)],[(10008, .box 8 0),(10007, .box 7 0),(10005, .box 5 0),(10004, .rv (.cv ⟨.ref 3,ax⟩)),(10003, .box 3 0),(10002, .box 2 0),(1000000000, .qB [⟨.fn,(197:Nat)⟩,⟨.bool,false⟩]),(1000000001, .qB [⟨.fn,(199:Nat)⟩,⟨.bool,true⟩])]⟩,[(7,⟨40, .pg (.st yT),row⟩),(8,⟨3, .int .i64,cy⟩)],[(2, .cells [⟨.fn,(197:Nat)⟩,⟨.bool,e⟩]),(3, .cells [⟨.int .i64,c⟩,⟨.slice (.st yC),c2⟩]),(5, .cells [⟨.int .i64,w⟩,⟨.int .i64,w2⟩]),(7, .own 7),(8, .own 8)],(hs [] [] [] ak [] [] [] [] [] []),⟨.unit,()⟩,[⟨[.int .i64],rest⟩],T.sites 100046⟩
def bY (out:Nat)(t:Int)(t2:Int)(t3:List Int)(w:Int)(w2:Int)(ak:H2):Option ((Nat×Int×Int×Unit)×H2):=
 LL T B lf 100046 3 ⟨⟨155,[(139,aG t2),(138,aG t),(137, .rv (.own 8)),(5, .box 5 0),(4, .rv (.cv ⟨.ref 3,out⟩))],gl⟩,[(8,⟨3, .int .i64,t3⟩)],[(5, .cells [⟨.int .i64,w⟩,⟨.int .i64,w2⟩])],(hs [] [] [] ak [] [] [] [] [] []),⟨.unit,()⟩,[],T.sites 100046⟩
def bZ (j:Int)(x:bX)(low:Int)(is0:Bool)(out:Nat)(row:H2)(cy:List Int)(e:Bool)(c:Int)(c2:tB)(w:Int)(w2:Int)(ak:H2)(rest:List (Int×Unit)):Option ((Nat×Int×Int×Unit)×H2):=
 LL T B lf 100046 2 ⟨⟨155,[(13, .rv (.cv ⟨.bool,is0⟩)),(12,aG low),(11, .rv (.cv ⟨.slice (.st yT),x⟩)),(10,aG j),(8, .box 8 0),(7, .box 7 0),(5, .box 5 0),(3, .box 3 0)],[(10008, .box 8 0),(10007, .box 7 0),(10005, .box 5 0),(10004, .rv (.cv ⟨.ref 3,out⟩)),(10003, .box 3 0),(10002, .box 2 0),(1000000000, .qB [⟨.fn,(197:Nat)⟩,⟨.bool,false⟩]),(1000000001, .qB [⟨.fn,(199:Nat)⟩,⟨.bool,true⟩])]⟩,[(7,⟨40, .pg (.st yT),row⟩),(8,⟨3, .int .i64,cy⟩)],[(2, .cells [⟨.fn,(197:Nat)⟩,⟨.bool,e⟩]),(3, .cells [⟨.int .i64,c⟩,⟨.slice (.st yC),c2⟩]),(5, .cells [⟨.int .i64,w⟩,⟨.int .i64,w2⟩]),(7, .own 7),(8, .own 8)],(hs [] [] [] ak [] [] [] [] [] []),⟨.unit,()⟩,[⟨[.int .i64],rest⟩],T.sites 100046⟩
def fa (c:gi)(ak:H2):Option ((Nat×Int×Int×Unit)×H2):=cr T B lf 100146 (((),c),ak)
def dr (out:Nat)(t:Int)(t2:Int)(row:H2)(cy:List Int)(e:Bool)(c:Int)(c2:tB)(w:Int)(w2:Int)(ak:H2):Option ((Nat×Int×Int×Unit)×H2):=
 LL T B lf 100146 0 ⟨⟨155,[(28,aG t2),(27,aG t),(8, .box 8 0),(7, .box 7 0),(5, .box 5 0),(4, .rv (.cv ⟨.ref 3,out⟩)),(3, .box 3 0),(2, .box 2 0)],gl⟩,[(7,⟨40, .pg (.st yT),row⟩),(8,⟨3, .int .i64,cy⟩)],[(2, .cells [⟨.fn,(199:Nat)⟩,⟨.bool,e⟩]),(3, .cells [⟨.int .i64,c⟩,⟨.slice (.st yC),c2⟩]),(5, .cells [⟨.int .i64,w⟩,⟨.int .i64,w2⟩]),(7, .own 7),(8, .own 8)],(hs [] [] [] ak [] [] [] [] [] []),⟨.unit,()⟩,[],T.sites 100146⟩
def bR (out:Nat)(ax:Nat)(row:H2)(cy:List Int)(e:Bool)(c:Int)(c2:tB)(w:Int)(w2:Int)(ak:H2)(rest:List (Int×Unit)):Option ((Nat×Int×Int×Unit)×H2):=
 LL T B lf 100146 1 ⟨⟨155,[(8, .box 8 0),(7, .box 7 0),(5, .box 5 0),(4, .rv (.cv ⟨.ref 3,out⟩)),(3, .box 3 0),(2, .box 2 0)],[(10008, .box 8 0),(10007, .box 7 0),(10005, .box 5 0),(10004, .rv (.cv ⟨.ref 3,ax⟩)),(10003, .box 3 0),(10002, .box 2 0),(1000000000, .qB [⟨.fn,(197:Nat)⟩,⟨.bool,false⟩]),(1000000001, .qB [⟨.fn,(199:Nat)⟩,⟨.bool,true⟩])]⟩,[(7,⟨40, .pg (.st yT),row⟩),(8,⟨3, .int .i64,cy⟩)],[(2, .cells [⟨.fn,(199:Nat)⟩,⟨.bool,e⟩]),(3, .cells [⟨.int .i64,c⟩,⟨.slice (.st yC),c2⟩]),(5, .cells [⟨.int .i64,w⟩,⟨.int .i64,w2⟩]),(7, .own 7),(8, .own 8)],(hs [] [] [] ak [] [] [] [] [] []),⟨.unit,()⟩,[⟨[.int .i64],rest⟩],T.sites 100146⟩
def du (out:Nat)(t:Int)(t2:Int)(t3:List Int)(w:Int)(w2:Int)(ak:H2):Option ((Nat×Int×Int×Unit)×H2):=
 LL T B lf 100146 3 ⟨⟨155,[(139,aG t2),(138,aG t),(137, .rv (.own 8)),(5, .box 5 0),(4, .rv (.cv ⟨.ref 3,out⟩))],gl⟩,[(8,⟨3, .int .i64,t3⟩)],[(5, .cells [⟨.int .i64,w⟩,⟨.int .i64,w2⟩])],(hs [] [] [] ak [] [] [] [] [] []),⟨.unit,()⟩,[],T.sites 100146⟩
def dv (j:Int)(x:bX)(low:Int)(is0:Bool)(out:Nat)(row:H2)(cy:List Int)(e:Bool)(c:Int)(c2:tB)(w:Int)(w2:Int)(ak:H2)(rest:List (Int×Unit)):Option ((Nat×Int×Int×Unit)×H2):=
 LL T B lf 100146 2 ⟨⟨155,[(13, .rv (.cv ⟨.bool,is0⟩)),(12,aG low),(11, .rv (.cv ⟨.slice (.st yT),x⟩)),(10,aG j),(8, .box 8 0),(7, .box 7 0),(5, .box 5 0),(3, .box 3 0)],[(10008, .box 8 0),(10007, .box 7 0),(10005, .box 5 0),(10004, .rv (.cv ⟨.ref 3,out⟩)),(10003, .box 3 0),(10002, .box 2 0),(1000000000, .qB [⟨.fn,(197:Nat)⟩,⟨.bool,false⟩]),(1000000001, .qB [⟨.fn,(199:Nat)⟩,⟨.bool,true⟩])]⟩,[(7,⟨40, .pg (.st yT),row⟩),(8,⟨3, .int .i64,cy⟩)],[(2, .cells [⟨.fn,(199:Nat)⟩,⟨.bool,e⟩]),(3, .cells [⟨.int .i64,c⟩,⟨.slice (.st yC),c2⟩]),(5, .cells [⟨.int .i64,w⟩,⟨.int .i64,w2⟩]),(7, .own 7),(8, .own 8)],(hs [] [] [] ak [] [] [] [] [] []),⟨.unit,()⟩,[⟨[.int .i64],rest⟩],T.sites 100146⟩
def lM (x:bX)(n:Int):Option (List Int):=cr T B lf 101038 (x,n)
def aaO (x:bX)(i:Int)(out:List Int):Option (List Int):=
 LL T B lf 101038 0 ⟨⟨28,[(6,aG i),(5, .rv (.own 5)),(0, .rv (.cv ⟨.slice (.st yT),x⟩))],gl⟩,[(5,⟨3, .int .i64,out⟩)],[],h0,⟨.unit,()⟩,[],T.sites 101038⟩
def lN (x:bX)(n:Int)(aH:H4):Option ((Nat)×H4):=cr T B lf 102038 ((x,n),aH)
def aa0 (x:bX)(out:Nat)(i:Int)(aH:H4):Option ((Nat)×H4):=
 LL T B lf 102038 0 (ms 28 [(6,aG i),(5, .rv (.cv ⟨.ref 4,out⟩)),(0, .rv (.cv ⟨.slice (.st yT),x⟩))] [] (hs [] [] [] [] aH [] [] [] [] []) 102038)
def bo (v:Nat)(aH:H4):Option bX:=cr T B lf 100040 (v,aH)
def cB (v:Nat)(i:Int)(out:bX)(aH:H4):Option bX:=
 LL T B lf 100040 0 ⟨⟨26,[(4,aG i),(3, .rv (.own 3)),(0, .rv (.cv ⟨.ref 4,v⟩))],gl⟩,[(3,⟨44, .st yT,out⟩)],[],[⟨42, .st yC,0,true,([]:H0)⟩,⟨42, .st yR,0,true,([]:H1)⟩,⟨44, .st yT,0,true,([]:H2)⟩,⟨58, .st yT,0,true,([]:H2)⟩,⟨3, .int .i64,0,false,aH⟩,⟨95, .st (.pair yH (.pair (.ref 6) (.pair (.ref 4) (.pair (.ref 7) yT)))),1,true,([]:List (Option (List (gi×Nat×Nat×Nat×Int×Int×Unit))))⟩,⟨26, .pg (.int .i64),0,true,([]:List (Option H4))⟩,⟨4, .bool,0,true,([]:H7)⟩,⟨101, .st (.pair (.ref 4) (.pair (.str) (.unit))),0,true,([]:H8)⟩,⟨24, .st (.pair (.int .i64) (.pair (.slice (.st yC)) (.unit))),0,true,([]:H9)⟩],⟨.unit,()⟩,[],T.sites 100040⟩
def fw (s:bX)(f:Int):Option (Bool):=cr T B lf 100070 (s,f)
def fx (s:bX)(f:gi×zqC):Option (Bool):=cr T B lf 100071 (s,f)
def jH (s:bX)(f:Int):Option (Int):=cr T B lf 100109 (s,f)
def cC (s:bX)(f:Int)(t:Int)(t2:Int):Option (Int):=
 LL T B lf 100109 0 (ms 19 [(8,aG t2),(7,aG t),(1, .fn 71 [.qB [⟨.int .i64,f⟩]]),(0, .rv (.cv ⟨.slice (.st yT),s⟩))] [] h0 100109)
def jI (s:bX)(f:gi×zqC):Option (Int):=cr T B lf 100110 (s,f)
def cD (s:bX)(f:Int)(f2:tB)(f3:Int)(f4:ByteArray)(f5:bX)(t:Int)(t2:Int):Option (Int):=
 LL T B lf 100110 0 (ms 19 [(8,aG t2),(7,aG t),(1, .fn 72 [.qB [⟨.int .i64,f⟩,⟨.slice (.st yC),f2⟩], .qB [⟨.int .i64,f3⟩,⟨.str,f4⟩,⟨.slice (.st yT),f5⟩]]),(0, .rv (.cv ⟨.slice (.st yT),s⟩))] [] h0 100110)
end
end Go.Proofs.YtofjebmoebhiiaaGreatDoor.Ev
namespace Go.Proofs.YtofjebmoebhiiaaGreatDoor.Ev
open Go.Abs
noncomputable section
def tO (tQ:ae eR)(vn:ae jD)(Xq:ae xb)(aii:ae mS)(G1:ae fw)(G2:ae fx)(Xr:ae xc)(Ud:ae qD)(t:tB)(t2:Int)(t3:Int)(c:Int)(c2:tB)(last:Bool)(YG:List Int)(YH:Bool)(YI:List Int):Option (Int):=
 bif (decide (t3<t2)) then
  (idx t t3).bind fun v0=>
  (vn v0.2.1).bind fun r1=>
  bif (decide (v0.1<0)) then
   some 1
  else
   bif (decide (v0.1>4)) then
    some 1
   else
    bif (!r1.2) then
     some 1
    else
     (Xq v0.2.1).bind fun r2=>
     bif (!r2) then
      some 1
     else
      (aii c v0.2.2.1).bind fun r3=>
      bif (r3 != 0) then
       some r3
      else
       (G1 v0.2.2.1 t3).bind fun r4=>
       bif r4 then
        some 7
       else
        (G2 v0.2.2.1 ((c,(c2,())),(v0.1,(v0.2.1,(v0.2.2.1,()))))).bind fun r5=>
        bif r5 then
         some 10
        else
         (Xr (c,(c2,())) v0.2.2.1).bind fun r6=>
         bif (decide ((r6.length:Int)>0)) then
          some 11
         else
          bif (decide (t3>0)) then
           (Ud ((r1.1.1.1,(r1.1.1.2.1,())),((r1.1.2.1.1,(r1.1.2.1.2.1,())),())) ((last,(YG,())),((YH,(YI,())),()))).bind fun r7=>
           bif (decide (r7<0)) then
            some 6
           else
            tQ t t2 (IntKind.wrap .i64 (t3+1)) c c2 r1.1.1.1 r1.1.1.2.1 r1.1.2.1.1 r1.1.2.1.2.1
          else
           tQ t t2 (IntKind.wrap .i64 (t3+1)) c c2 r1.1.1.1 r1.1.1.2.1 r1.1.2.1.1 r1.1.2.1.2.1
 else
  some 0
theorem yt (t t2 t3 c c2 last YG YH YI):eR t t2 t3 c c2 last YG YH YI=tO eR jD xb mS fw fx xc qD t t2 t3 c c2 last YG YH YI:=(l1 41 0 _).trans (by kernel_rfl)
def G3 (tQ:ae eR)(ahR:ae nt)(c:gi):Option (Int):=
 (ahR c.1).bind fun r0=>
 bif (!r0) then
  some 8
 else
  bif (decide ((c.2.1.length:Int)>1024)) then
   some 3
  else
   tQ c.2.1 (c.2.1.length:Int) 0 c.1 c.2.1 false ([]:List Int) false ([]:List Int)
theorem Lx (c):kL c=G3 eR nt c:=(e1 41 _).trans (by kernel_rfl)
def Cq (t:Int×Int×Unit)(t2:Int):Option (Bool):=
 some (decide (t.1≥t2))
theorem HP (t t2):vh t t2=Cq t t2:=(e1 71 _).trans (by kernel_rfl)
def Ct (t:Int×Int×Unit)(t2:gi)(t3:zqC):Option (Bool):=
 (idx t2.2.1 t.1).bind fun v0=>
 some (v0.1 != (IntKind.wrap .i64 (t3.1 - 1)))
theorem HQ (t t2 t3):vi t t2 t3=Ct t t2 t3:=(e1 72 _).trans (by kernel_rfl)
def AF (yv:ae fX)(pn:ae ka)(t:bX)(t2:Int)(t3:Int)(out:bX)(c:Int)(c2:tB):Option bX:=
 bif (decide (t3<t2)) then
  (idx t t3).bind fun v0=>
  (idx c2 v0.1).bind fun v1=>
  (pn c out v0.2.1 v1.2.2.1).bind fun r2=>
  yv r2.1 t t2 (IntKind.wrap .i64 (t3+1)) c c2
 else
  some out
theorem Gf (t t2 t3 out c c2):oi t t2 t3 out c c2=AF fX ka t t2 t3 out c c2:=(l1 73 0 _).trans (by kernel_rfl)
def mZ (yv:ae fX)(pn:ae ka)(out:bX)(t:bX)(t2:Int)(t3:Int)(c:Int)(c2:tB):Option bX:=
 bif (decide (t3<t2)) then
  (idx t t3).bind fun v0=>
  (idx c2 v0.1).bind fun v1=>
  (pn c out v0.2.1 v1.2.2.1).bind fun r2=>
  yv r2.1 t t2 (IntKind.wrap .i64 (t3+1)) c c2
 else
  some out
theorem po (out t t2 t3 c c2):fX out t t2 t3 c c2=mZ fX ka out t t2 t3 c c2:=(l1 73 0 _).trans (by kernel_rfl)
def G4 (Su:ae oi)(c:gi)(x:bX):Option bX:=
 Su x (x.length:Int) 0 ([]:bX) c.1 c.2.1
theorem Ly (c x):xc c x=G4 oi c x:=(e1 73 _).trans (by kernel_rfl)
end
end Go.Proofs.YtofjebmoebhiiaaGreatDoor.Ev
namespace Go.Proofs.YtofjebmoebhiiaaGreatDoor.Ev
open Go.Abs
noncomputable section
def Ka (Cu:ae nr)(Cv:ae ns)(vn:ae jD)(Ue:ae vg)(Sw:ae sK)(last:Int)(t:Int)(t2:Int)(c:Int)(c2:tB)(t3:Int)(t4:Nat)(out:Int)(ax:Nat)(hp1:H1):Option (gi×Int):=
 bif (decide (t2<t)) then
  (idx c2 (IntKind.wrap .i64 (last - t2))).bind fun v0=>
  (vn v0.2.1).bind fun r1=>
  (Ue ((r1.1.1.1,(r1.1.1.2.1,())),((r1.1.2.1.1,(r1.1.2.1.2.1,())),()))).bind fun r2=>
  (Sw ((r2.1.1,(r2.1.2.1,())),((r2.2.1.1,(r2.2.1.2.1,())),()))).bind fun r3=>
  (af hp1 ax).bind fun v4=>
  (idx v4 t2).bind fun _=>
  (af hp1 ax).bind fun v5=>
  (v5[t2.toNat]?).bind fun v6=>
  let e7:H1:=(b9 hp1 ax (v5.set t2.toNat ((IntKind.wrap .i64 (4 - v0.1)),(v6.2.1,(v6.2.2.1,())))))
  (af e7 ax).bind fun v8=>
  (idx v8 t2).bind fun _=>
  (af e7 ax).bind fun v9=>
  (v9[t2.toNat]?).bind fun v10=>
  let V5:H1:=(b9 e7 ax (v9.set t2.toNat (v10.1,(r3,(v10.2.2.1,())))))
  Cu last t (IntKind.wrap .i64 (t2+1)) c c2 t3 t4 out ax V5
 else
  Cv last last c c2 t3 t4 out ax hp1
theorem SA (last t t2 c c2 t3 t4 out ax hp1):nr last t t2 c c2 t3 t4 out ax hp1=Ka nr ns jD vg sK last t t2 c c2 t3 t4 out ax hp1:=(l1 18 0 _).trans (by kernel_rfl)
def Kb (Uf:ae vf)(last:Int)(k:Int)(c:Int)(c2:tB)(t:Int)(t2:Nat)(out:Int)(ax:Nat)(hp1:H1):Option (gi×Int):=
 bif (decide (k≥0)) then
  (idx c2 k).bind fun v0=>
  Uf last k v0.2.2.1 (v0.2.2.1.length:Int) 0 c c2 t t2 out ax hp1
 else
  (Ss (typed (hs [] hp1 [] [] [] [] [] [] [] []) yH (.rv (.agg [⟨.int .i64,out⟩,⟨.ref 1,ax⟩]))) (some 0)).bind fun v1=>
  some v1
theorem SB (last k c c2 t t2 out ax hp1):ns last k c c2 t t2 out ax hp1=Kb vf last k c c2 t t2 out ax hp1:=(l1 18 1 _).trans (by kernel_rfl)
def Kc (ow:ae gP)(Cv:ae ns)(last:Int)(k:Int)(t:bX)(t2:Int)(t3:Int)(c:Int)(c2:tB)(t4:Int)(t5:Nat)(out:Int)(ax:Nat)(hp1:H1):Option (gi×Int):=
 bif (decide (t3<t2)) then
  (idx t t3).bind fun v0=>
  (af hp1 ax).bind fun v1=>
  (idx v1 (IntKind.wrap .i64 (last - v0.1))).bind fun _=>
  (af hp1 ax).bind fun v2=>
  (v2[(IntKind.wrap .i64 (last - v0.1)).toNat]?).bind fun v3=>
  let e4:bX:=([((IntKind.wrap .i64 (last - k)),(v0.2.1,()))]:bX)
  (af ([]:H2) v3.2.2.1).bind fun v5=>
  bif (aP 16 2 v5.length 1) then
  let e6:H2:=((ix ([]:H2) v3.2.2.1)++[some (v5++e4)])
  let e7:Nat:=((ix ([]:H2) v3.2.2.1).length+1:Nat)
  (af hp1 ax).bind fun v8=>
  (v8[(IntKind.wrap .i64 (last - v0.1)).toNat]?).bind fun v9=>
  let ZD:H1:=(b9 hp1 ax (v8.set (IntKind.wrap .i64 (last - v0.1)).toNat (v9.1,(v9.2.1,(e7,())))))
  ow last k t t2 (IntKind.wrap .i64 (t3+1)) c c2 t4 t5 out ax ZD e6
  else none
 else
  Cv last (IntKind.wrap .i64 (k - 1)) c c2 t4 t5 out ax hp1
theorem SC (last k t t2 t3 c c2 t4 t5 out ax hp1):vf last k t t2 t3 c c2 t4 t5 out ax hp1=Kc gP ns last k t t2 t3 c c2 t4 t5 out ax hp1:=(l1 18 2 _).trans (by kernel_rfl)
def HR (ow:ae gP)(SD:ae sJ)(last:Int)(k:Int)(t:bX)(t2:Int)(t3:Int)(c:Int)(c2:tB)(t4:Int)(t5:Nat)(out:Int)(ax:Nat)(hp1:H1)(hp2:H2):Option (gi×Int):=
 bif (decide (t3<t2)) then
  (idx t t3).bind fun v0=>
  (af hp1 ax).bind fun v1=>
  (idx v1 (IntKind.wrap .i64 (last - v0.1))).bind fun _=>
  (af hp1 ax).bind fun v2=>
  (v2[(IntKind.wrap .i64 (last - v0.1)).toNat]?).bind fun v3=>
  let e4:bX:=([((IntKind.wrap .i64 (last - k)),(v0.2.1,()))]:bX)
  (af hp2 v3.2.2.1).bind fun v5=>
  bif (aP 16 2 v5.length 1) then
  (af hp1 ax).bind fun v6=>
  (v6[(IntKind.wrap .i64 (last - v0.1)).toNat]?).bind fun v7=>
  let e8:H1:=(b9 hp1 ax (v6.set (IntKind.wrap .i64 (last - v0.1)).toNat (v7.1,(v7.2.1,(((ix hp2 v3.2.2.1).length+1:Nat),())))))
  ow last k t t2 (IntKind.wrap .i64 (t3+1)) c c2 t4 t5 out ax e8 ((ix hp2 v3.2.2.1)++[some (v5++e4)])
  else none
 else
  SD last (IntKind.wrap .i64 (k - 1)) c c2 t4 t5 out ax hp1 hp2
theorem QR (last k t t2 t3 c c2 t4 t5 out ax hp1 hp2):gP last k t t2 t3 c c2 t4 t5 out ax hp1 hp2=HR gP sJ last k t t2 t3 c c2 t4 t5 out ax hp1 hp2:=(l1 18 2 _).trans (by kernel_rfl)
def HS (ow:ae gP)(last:Int)(k:Int)(c:Int)(c2:tB)(t:Int)(t2:Nat)(out:Int)(ax:Nat)(hp1:H1)(hp2:H2):Option (gi×Int):=
 bif (decide (k≥0)) then
  (idx c2 k).bind fun v0=>
  ow last k v0.2.2.1 (v0.2.2.1.length:Int) 0 c c2 t t2 out ax hp1 hp2
 else
  (Ss (typed (hs [] hp1 hp2 [] [] [] [] [] [] []) yH (.rv (.agg [⟨.int .i64,out⟩,⟨.ref 1,ax⟩]))) (some 0)).bind fun v1=>
  some v1
theorem QS (last k c c2 t t2 out ax hp1 hp2):sJ last k c c2 t t2 out ax hp1 hp2=HS gP last k c c2 t t2 out ax hp1 hp2:=(l1 18 1 _).trans (by kernel_rfl)
def QT (Cu:ae nr)(vo:ae kL)(c:gi):Option (gi×Int):=
 (vo (c.1,(c.2.1,()))).bind fun r0=>
 bif (r0 != 0) then
  (Ss (typed h0 yH (.rv (.agg [⟨.int .i64,(0:Int)⟩,⟨.ref 0,(0:Nat)⟩]))) (some r0)).bind fun v1=>
  some v1
 else
  let e2:Int:=(IntKind.wrap .i64 ((c.2.1.length:Int) - 1))
  bif (gK 48 (c.2.1.length:Int) (c.2.1.length:Int)) then
  let e3:H1:=(([]:H1)++[some (List.replicate (c.2.1.length:Int).toNat (0,(ByteArray.empty,((0:Nat),()))))])
  let e4:Nat:=(([]:H1).length+1:Nat)
  (af e3 e4).bind fun v5=>
  Cu e2 (v5.length:Int) 0 c.1 c.2.1 0 (0:Nat) c.1 e4 e3
  else none
theorem Xs (c):wa c=QT nr kL c:=(e1 18 _).trans (by kernel_rfl)
def AG (Ug:ae kR)(c:gi):Option (bX×I2×Int):=
 (Ug (c.1,(c.2.1,())) ([]:H2)).bind fun r0=>
 (Ss (typed (hs [] [] [] r0.2 [] [] [] [] [] []) (.slice (.st yT)) (.rv (.cv ⟨.ref 3,r0.1.1⟩))) (Ss (some (r0.1.2.1.1,(r0.1.2.1.2.1,()))) (some r0.1.2.2))).bind fun v1=>
 some v1
theorem Gg (c):gQ c=AG kR c:=(e1 20 _).trans (by kernel_rfl)
def Oj (SE:ae sP)(c:gi):Option (bX×I2×Int):=
 (SE (c.1,(c.2.1,())) ([]:H2)).bind fun r0=>
 (Ss (typed (hs [] [] [] r0.2 [] [] [] [] [] []) (.slice (.st yT)) (.rv (.cv ⟨.ref 3,r0.1.1⟩))) (Ss (some (r0.1.2.1.1,(r0.1.2.1.2.1,()))) (some r0.1.2.2))).bind fun v1=>
 some v1
theorem Wl (c):BE c=Oj sP c:=(e1 24 _).trans (by kernel_rfl)
def zY (lO:ae fA)(QU:ae slices_SortFunc)(l:Nat)(last:Int)(t:Nat)(t2:Int)(t3:Int)(t4:Int)(t5:Int)(w:Int)(w2:Int)(ak:H2):Option (bX×I2×Int):=
 bif (decide (t3<t2)) then
  (af ak t).bind fun v0=>
  (idx v0 t3).bind fun _=>
  (af ak t).bind fun v1=>
  (v1[t3.toNat]?).bind fun v2=>
  (af ak l).bind fun v3=>
  (idx v3 t3).bind fun _=>
  (af ak l).bind fun v4=>
  (v4[t3.toNat]?).bind fun v5=>
  let e6:H2:=(b9 ak l (v4.set t3.toNat ((IntKind.wrap .i64 (last - v2.2.1)),((IntKind.wrap .i64 (last - v2.1)),()))))
  bif (decide (v2.2.1<0)) then
   (af e6 l).bind fun v7=>
   (idx v7 t3).bind fun _=>
   (af e6 l).bind fun v8=>
   (v8[t3.toNat]?).bind fun v9=>
   let ZD:H2:=(b9 e6 l (v8.set t3.toNat ((IntKind.wrap .i64 (last - v2.1)),((-1),()))))
   lO l last t t2 (IntKind.wrap .i64 (t3+1)) t4 t5 w w2 ZD
  else
   lO l last t t2 (IntKind.wrap .i64 (t3+1)) t4 t5 w w2 e6
 else
  (QU l ak).bind fun r11=>
  (Ss (typed (hs [] [] [] r11.2 [] [] [] [] [] []) (.slice (.st yT)) (.rv (.cv ⟨.ref 3,l⟩))) (Ss (some (w,(w2,()))) (some 0))).bind fun v12=>
  some v12
theorem Jx (l last t t2 t3 t4 t5 w w2 ak):fA l last t t2 t3 t4 t5 w w2 ak=zY fA slices_SortFunc l last t t2 t3 t4 t5 w w2 ak:=(l1 26 0 _).trans (by kernel_rfl)
def Em (lO:ae fA)(Jy:ae wa)(pq:ae fa)(c:gi):Option (bX×I2×Int):=
 (Jy (c.1,(c.2.1,()))).bind fun r0=>
 bif (r0.2 != 0) then
  some (([]:bX),(0,(0,())),r0.2)
 else
  (pq (r0.1.1,(r0.1.2.1,())) ([]:H2)).bind fun r1=>
  let e2:Int:=(IntKind.wrap .i64 ((c.2.1.length:Int) - 1))
  (af r1.2 r1.1.1).bind fun v3=>
  lO r1.1.1 e2 r1.1.1 (v3.length:Int) 0 0 0 r1.1.2.1 r1.1.2.2.1 r1.2
theorem Nj (c):oe c=Em fA wa fa c:=(e1 26 _).trans (by kernel_rfl)
def yw (c:gi):Option gi:=
 some (c.1,(c.2.1,()))
theorem En (c):qp c=yw c:=(e1 196 _).trans (by kernel_rfl)
def kt (pr:ae dH)(t:Int)(t2:Int)(trace:List (Int×Unit)):Option (List (Int×Unit)):=
 bif (decide (t2<t)) then
  pr t (IntKind.wrap .i64 (t2+1)) (trace++[(t2,())])
 else
  some trace
theorem oz (t t2 trace):dH t t2 trace=kt dH t t2 trace:=(l1 197 0 _).trans (by kernel_rfl)
def uC (pr:ae dH)(t:gi):Option (List (Int×Unit)):=
 pr (t.2.1.length:Int) 0 ([]:List (Int×Unit))
theorem BI (t):mY t=uC dH t:=(e1 197 _).trans (by kernel_rfl)
def Eo (c:gi):Option gi:=
 some (c.1,(c.2.1,()))
theorem Nk (c):ov c=Eo c:=(e1 198 _).trans (by kernel_rfl)
def xi (jV:ae eC)(d:Int)(t:Int)(t2:tB)(trace:List (Int×Unit)):Option (List (Int×Unit)):=
 bif (decide (d≥0)) then
  jV d t2 (t2.length:Int) 0 t t2 trace
 else
  some trace
theorem G5 (d t t2 trace):eB d t t2 trace=xi eC d t t2 trace:=(l1 199 0 _).trans (by kernel_rfl)
def xj (jV:ae eC)(oA:ae eB)(d:Int)(t:tB)(t2:Int)(t3:Int)(t4:Int)(t5:tB)(trace:List (Int×Unit)):Option (List (Int×Unit)):=
 bif (decide (t3<t2)) then
  (idx t t3).bind fun v0=>
  bif (v0.1==d) then
   jV d t t2 (IntKind.wrap .i64 (t3+1)) t4 t5 (trace++[(t3,())])
  else
   jV d t t2 (IntKind.wrap .i64 (t3+1)) t4 t5 trace
 else
  oA (IntKind.wrap .i64 (d - 1)) t4 t5 trace
theorem G6 (d t t2 t3 t4 t5 trace):eC d t t2 t3 t4 t5 trace=xj eC eB d t t2 t3 t4 t5 trace:=(l1 199 1 _).trans (by kernel_rfl)
def BJ (oA:ae eB)(t:gi):Option (List (Int×Unit)):=
 oA 4 t.1 t.2.1 ([]:List (Int×Unit))
theorem KF (t):lr t=BJ eB t:=(e1 199 _).trans (by kernel_rfl)
def vQ (vo:ae kL)(KG:ae iw)(c:gi)(ak:H2):Option ((Nat×I2×Int)×H2):=
 (vo (c.1,(c.2.1,()))).bind fun r0=>
 bif (r0 != 0) then
  some (((0:Nat),(0,(0,())),r0),ak)
 else
  (KG (c.1,(c.2.1,())) ak).bind fun r1=>
  some ((r1.1.1,(r1.1.2.1,(r1.1.2.2.1,())),(0:Int)),r1.2)
theorem AH (c ak):kR c ak=vQ kL iw c ak:=(e1 100045 _).trans (by kernel_rfl)
def HU (vo:ae kL)(pq:ae fa)(c:gi)(ak:H2):Option ((Nat×I2×Int)×H2):=
 (vo (c.1,(c.2.1,()))).bind fun r0=>
 bif (r0 != 0) then
  some (((0:Nat),(0,(0,())),r0),ak)
 else
  (pq (c.1,(c.2.1,())) ak).bind fun r1=>
  some ((r1.1.1,(r1.1.2.1,(r1.1.2.2.1,())),(0:Int)),r1.2)
theorem QV (c ak):sP c ak=HU kL fa c ak:=(e1 100145 _).trans (by kernel_rfl)
def jh (nu:ae cY)(bk:ae aF)(QW:ae qp)(Nl:ae mY)(out:Nat)(t:Int)(t2:Int)(row:H2)(cy:List Int)(e:Bool)(c:Int)(c2:tB)(w:Int)(w2:Int)(ak:H2):Option ((Nat×Int×Int×Unit)×H2):=
 bif (decide (t2<t)) then
  (idx cy t2).bind fun _=>
  (cy[t2.toNat]?).bind fun v0=>
  nu out t (IntKind.wrap .i64 (t2+1)) row (cy.set t2.toNat (-2)) e c c2 w w2 ak
 else
  (QW (c,(c2,()))).bind fun r1=>
  (Nl (r1.1,(r1.2.1,()))).bind fun r2=>
  bk out out row cy e c c2 w w2 ak r2
theorem mA (out t t2 row cy e c c2 w w2 ak):cY out t t2 row cy e c c2 w w2 ak=jh cY aF qp mY out t t2 row cy e c c2 w w2 ak:=(l1 100046 0 _).trans (by kernel_rfl)
def ji (jl:ae bY)(bk:ae aF)(jm:ae bZ)(sQ:ae mT)(ku:ae j9)(out:Nat)(ax:Nat)(row:H2)(cy:List Int)(e:Bool)(c:Int)(c2:tB)(w:Int)(w2:Int)(ak:H2)(rest:List (Int×Unit)):Option ((Nat×Int×Int×Unit)×H2):=
 match rest with
 | []=>jl out (cy.length:Int) 0 cy w w2 ak
 |x0::x0s=>
  bif e then
   (idx row x0.1).bind fun _=>
   (row[x0.1.toNat]?).bind fun v1=>
   bif (!(Option.isNone v1)) then
    bk ax ax row cy e c c2 w (IntKind.wrap .i64 (w2+1)) ak x0s
   else
    (idx c2 x0.1).bind fun v2=>
    (sQ v2.2.2.1).bind fun r3=>
    (ku r3).bind fun r4=>
    jm x0.1 r3 r4.1 r4.2 ax row cy e c c2 w w2 ak x0s
  else
   (idx c2 x0.1).bind fun v5=>
   (sQ v5.2.2.1).bind fun r6=>
   (ku r6).bind fun r7=>
   jm x0.1 r6 r7.1 r7.2 ax row cy e c c2 w w2 ak x0s
theorem mB (out ax row cy e c c2 w w2 ak rest):aF out ax row cy e c c2 w w2 ak rest=ji bY aF bZ mT j9 out ax row cy e c c2 w w2 ak rest:=(l1 100046 1 _).trans (by kernel_rfl)
def jn (jl:ae bY)(out:Nat)(t:Int)(t2:Int)(t3:List Int)(w:Int)(w2:Int)(ak:H2):Option ((Nat×Int×Int×Unit)×H2):=
 bif (decide (t2<t)) then
  (idx t3 t2).bind fun _=>
  (t3[t2.toNat]?).bind fun v0=>
  bif (decide (v0>(-2))) then
   (af ak out).bind fun v1=>
   bif (aP 16 2 v1.length 1) then
   let e2:H2:=((ix ak out)++[some (v1++([(t2,(v0,()))]:bX))])
   jl ((ix ak out).length+1:Nat) t (IntKind.wrap .i64 (t2+1)) t3 w w2 e2
   else none
  else
   jl out t (IntKind.wrap .i64 (t2+1)) t3 w w2 ak
 else
  some ((out,(w,(w2,()))),ak)
theorem mC (out t t2 t3 w w2 ak):bY out t t2 t3 w w2 ak=jn bY out t t2 t3 w w2 ak:=(l1 100046 3 _).trans (by kernel_rfl)
def jo (jm:ae bZ)(bk:ae aF)(O9:ae BF)(Ep:ae vk)(pn:ae ka)(ku:ae j9)(j:Int)(x:bX)(low:Int)(is0:Bool)(out:Nat)(row:H2)(cy:List Int)(e:Bool)(c:Int)(c2:tB)(w:Int)(w2:Int)(ak:H2)(rest:List (Int×Unit)):Option ((Nat×Int×Int×Unit)×H2):=
 bif is0 then
  (idx row low).bind fun _=>
  (row[low.toNat]?).bind fun v0=>
  bif (!(Option.isNone v0)) then
   (idx row low).bind fun _=>
   (row[low.toNat]?).bind fun v1=>
   let e2:Int:=(IntKind.wrap .i64 (((lst v1).length:Int) - 1))
   (idx (lst v1) e2).bind fun v3=>
   (O9 c v3.2.1).bind fun r4=>
   let e5:Int:=(IntKind.wrap .i64 ((x.length:Int) - 1))
   (idx x e5).bind fun v6=>
   let e7:Int:=(IntKind.wrap .i64 ((IntKind.wrap .i64 (0 - v6.2.1))*r4.1))
   (Ep c e7).bind fun r8=>
   (pn c x r8 (lst v1)).bind fun r9=>
   (ku r9.1).bind fun Qb=>
   jm j r9.1 Qb.1 Qb.2 out row cy e c c2 (IntKind.wrap .i64 (w+1)) w2 ak rest
  else
   bif is0 then
    (idx row low).bind fun _=>
    (row[low.toNat]?).bind fun v11=>
    (va [] (.pg (.st yT)) [⟨.slice (.st yT),x⟩]).bind fun v12=>
    (idx cy low).bind fun _=>
    (cy[low.toNat]?).bind fun RP=>
    bk out out (row.set low.toNat v12) (cy.set low.toNat j) e c c2 w w2 ak rest
   else
    (idx cy j).bind fun _=>
    (cy[j.toNat]?).bind fun I3=>
    bif (I3==(-2)) then
     (idx cy j).bind fun _=>
     (cy[j.toNat]?).bind fun ZL=>
     bk out out row (cy.set j.toNat (-1)) e c c2 w w2 ak rest
    else
     bk out out row cy e c c2 w w2 ak rest
 else
  bif is0 then
   (idx row low).bind fun _=>
   (row[low.toNat]?).bind fun v16=>
   (va [] (.pg (.st yT)) [⟨.slice (.st yT),x⟩]).bind fun v17=>
   (idx cy low).bind fun _=>
   (cy[low.toNat]?).bind fun J9=>
   bk out out (row.set low.toNat v17) (cy.set low.toNat j) e c c2 w w2 ak rest
  else
   (idx cy j).bind fun _=>
   (cy[j.toNat]?).bind fun v19=>
   bif (v19==(-2)) then
    (idx cy j).bind fun _=>
    (cy[j.toNat]?).bind fun v20=>
    bk out out row (cy.set j.toNat (-1)) e c c2 w w2 ak rest
   else
    bk out out row cy e c c2 w w2 ak rest
theorem mD (j x low is0 out row cy e c c2 w w2 ak rest):bZ j x low is0 out row cy e c c2 w w2 ak rest=jo bZ aF BF vk ka j9 j x low is0 out row cy e c c2 w w2 ak rest:=(l1 100046 2 _).trans (by kernel_rfl)
def qJ (nu:ae cY)(c:gi)(ak:H2):Option ((Nat×Int×Int×Unit)×H2):=
 bif (gK 24 (c.2.1.length:Int) (c.2.1.length:Int)) then
 let e0:H2:=(List.replicate (c.2.1.length:Int).toNat (none:Option bX))
 bif (gK 8 (c.2.1.length:Int) (c.2.1.length:Int)) then
 let e1:List Int:=(List.replicate (c.2.1.length:Int).toNat 0)
 nu (0:Nat) (e1.length:Int) 0 e0 e1 false c.1 c.2.1 0 0 ak
 else none
 else none
theorem yx (c ak):iw c ak=qJ cY c ak:=(e1 100046 _).trans (by kernel_rfl)
def ua (mE:ae dr)(aY:ae bR)(Pb:ae ov)(Lz:ae lr)(out:Nat)(t:Int)(t2:Int)(row:H2)(cy:List Int)(e:Bool)(c:Int)(c2:tB)(w:Int)(w2:Int)(ak:H2):Option ((Nat×Int×Int×Unit)×H2):=
 bif (decide (t2<t)) then
  (idx cy t2).bind fun _=>
  (cy[t2.toNat]?).bind fun v0=>
  mE out t (IntKind.wrap .i64 (t2+1)) row (cy.set t2.toNat (-2)) e c c2 w w2 ak
 else
  (Pb (c,(c2,()))).bind fun r1=>
  (Lz (r1.1,(r1.2.1,()))).bind fun r2=>
  aY out out row cy e c c2 w w2 ak r2
theorem Er (out t t2 row cy e c c2 w w2 ak):dr out t t2 row cy e c c2 w w2 ak=ua dr bR ov lr out t t2 row cy e c c2 w w2 ak:=(l1 100146 0 _).trans (by kernel_rfl)
def ub (iG:ae du)(aY:ae bR)(iH:ae dv)(sQ:ae mT)(ku:ae j9)(out:Nat)(ax:Nat)(row:H2)(cy:List Int)(e:Bool)(c:Int)(c2:tB)(w:Int)(w2:Int)(ak:H2)(rest:List (Int×Unit)):Option ((Nat×Int×Int×Unit)×H2):=
 match rest with
 | []=>iG out (cy.length:Int) 0 cy w w2 ak
 |x0::x0s=>
  bif e then
   (idx row x0.1).bind fun _=>
   (row[x0.1.toNat]?).bind fun v1=>
   bif (!(Option.isNone v1)) then
    aY ax ax row cy e c c2 w (IntKind.wrap .i64 (w2+1)) ak x0s
   else
    (idx c2 x0.1).bind fun v2=>
    (sQ v2.2.2.1).bind fun r3=>
    (ku r3).bind fun r4=>
    iH x0.1 r3 r4.1 r4.2 ax row cy e c c2 w w2 ak x0s
  else
   (idx c2 x0.1).bind fun v5=>
   (sQ v5.2.2.1).bind fun r6=>
   (ku r6).bind fun r7=>
   iH x0.1 r6 r7.1 r7.2 ax row cy e c c2 w w2 ak x0s
theorem Es (out ax row cy e c c2 w w2 ak rest):bR out ax row cy e c c2 w w2 ak rest=ub du bR dv mT j9 out ax row cy e c c2 w w2 ak rest:=(l1 100146 1 _).trans (by kernel_rfl)
def uc (iG:ae du)(out:Nat)(t:Int)(t2:Int)(t3:List Int)(w:Int)(w2:Int)(ak:H2):Option ((Nat×Int×Int×Unit)×H2):=
 bif (decide (t2<t)) then
  (idx t3 t2).bind fun _=>
  (t3[t2.toNat]?).bind fun v0=>
  bif (decide (v0>(-2))) then
   (af ak out).bind fun v1=>
   bif (aP 16 2 v1.length 1) then
   let e2:H2:=((ix ak out)++[some (v1++([(t2,(v0,()))]:bX))])
   iG ((ix ak out).length+1:Nat) t (IntKind.wrap .i64 (t2+1)) t3 w w2 e2
   else none
  else
   iG out t (IntKind.wrap .i64 (t2+1)) t3 w w2 ak
 else
  some ((out,(w,(w2,()))),ak)
theorem Et (out t t2 t3 w w2 ak):du out t t2 t3 w w2 ak=uc du out t t2 t3 w w2 ak:=(l1 100146 3 _).trans (by kernel_rfl)
def ud (iH:ae dv)(aY:ae bR)(O9:ae BF)(Ep:ae vk)(pn:ae ka)(ku:ae j9)(j:Int)(x:bX)(low:Int)(is0:Bool)(out:Nat)(row:H2)(cy:List Int)(e:Bool)(c:Int)(c2:tB)(w:Int)(w2:Int)(ak:H2)(rest:List (Int×Unit)):Option ((Nat×Int×Int×Unit)×H2):=
 bif is0 then
  (idx row low).bind fun _=>
  (row[low.toNat]?).bind fun v0=>
  bif (!(Option.isNone v0)) then
   (idx row low).bind fun _=>
   (row[low.toNat]?).bind fun v1=>
   let e2:Int:=(IntKind.wrap .i64 (((lst v1).length:Int) - 1))
   (idx (lst v1) e2).bind fun v3=>
   (O9 c v3.2.1).bind fun r4=>
   let e5:Int:=(IntKind.wrap .i64 ((x.length:Int) - 1))
   (idx x e5).bind fun v6=>
   let e7:Int:=(IntKind.wrap .i64 ((IntKind.wrap .i64 (0 - v6.2.1))*r4.1))
   (Ep c e7).bind fun r8=>
   (pn c x r8 (lst v1)).bind fun r9=>
   (ku r9.1).bind fun Qb=>
   iH j r9.1 Qb.1 Qb.2 out row cy e c c2 (IntKind.wrap .i64 (w+1)) w2 ak rest
  else
   bif is0 then
    (idx row low).bind fun _=>
    (row[low.toNat]?).bind fun v11=>
    (va [] (.pg (.st yT)) [⟨.slice (.st yT),x⟩]).bind fun v12=>
    (idx cy low).bind fun _=>
    (cy[low.toNat]?).bind fun RP=>
    aY out out (row.set low.toNat v12) (cy.set low.toNat j) e c c2 w w2 ak rest
   else
    (idx cy j).bind fun _=>
    (cy[j.toNat]?).bind fun I3=>
    bif (I3==(-2)) then
     (idx cy j).bind fun _=>
     (cy[j.toNat]?).bind fun ZL=>
     aY out out row (cy.set j.toNat (-1)) e c c2 w w2 ak rest
    else
     aY out out row cy e c c2 w w2 ak rest
 else
  bif is0 then
   (idx row low).bind fun _=>
   (row[low.toNat]?).bind fun v16=>
   (va [] (.pg (.st yT)) [⟨.slice (.st yT),x⟩]).bind fun v17=>
   (idx cy low).bind fun _=>
   (cy[low.toNat]?).bind fun J9=>
   aY out out (row.set low.toNat v17) (cy.set low.toNat j) e c c2 w w2 ak rest
  else
   (idx cy j).bind fun _=>
   (cy[j.toNat]?).bind fun v19=>
   bif (v19==(-2)) then
    (idx cy j).bind fun _=>
    (cy[j.toNat]?).bind fun v20=>
    aY out out row (cy.set j.toNat (-1)) e c c2 w w2 ak rest
   else
    aY out out row cy e c c2 w w2 ak rest
theorem Eu (j x low is0 out row cy e c c2 w w2 ak rest):dv j x low is0 out row cy e c c2 w w2 ak rest=ud dv bR BF vk ka j9 j x low is0 out row cy e c c2 w w2 ak rest:=(l1 100146 2 _).trans (by kernel_rfl)
def yy (mE:ae dr)(c:gi)(ak:H2):Option ((Nat×Int×Int×Unit)×H2):=
 bif (gK 24 (c.2.1.length:Int) (c.2.1.length:Int)) then
 let e0:H2:=(List.replicate (c.2.1.length:Int).toNat (none:Option bX))
 bif (gK 8 (c.2.1.length:Int) (c.2.1.length:Int)) then
 let e1:List Int:=(List.replicate (c.2.1.length:Int).toNat 0)
 mE (0:Nat) (e1.length:Int) 0 e0 e1 true c.1 c.2.1 0 0 ak
 else none
 else none
theorem HV (c ak):fa c ak=yy dr c ak:=(e1 100146 _).trans (by kernel_rfl)
end
end Go.Proofs.YtofjebmoebhiiaaGreatDoor.Ev
namespace Go.Proofs.YtofjebmoebhiiaaGreatDoor.Ev
open Go.Abs
noncomputable section
def sh (si:ae iy)(p:Int)(c:bX)(t:bX)(t2:Int)(t3:Int):Option (Int):=
 bif (decide (t3<t2)) then
  (idx t t3).bind fun v0=>
  bif (decide (v0.1<0)) then
   some 1
  else
   bif (decide (v0.1≥1024)) then
    some 1
   else
    bif (decide (v0.2.1<1)) then
     some 1
    else
     bif (decide (v0.2.1≥p)) then
      some 1
     else
      bif (decide (t3>0)) then
       (idx c (IntKind.wrap .i64 (t3 - 1))).bind fun v1=>
       bif (decide (v0.1≤v1.1)) then
        some 6
       else
        si p c t t2 (IntKind.wrap .i64 (t3+1))
      else
       si p c t t2 (IntKind.wrap .i64 (t3+1))
 else
  some 0
theorem wb (p c t t2 t3):iy p c t t2 t3=sh iy p c t t2 t3:=(l1 69 0 _).trans (by kernel_rfl)
def Ew (si:ae iy)(ahR:ae nt)(p:Int)(c:bX):Option (Int):=
 (ahR p).bind fun r0=>
 bif (!r0) then
  some 8
 else
  si p c c (c.length:Int) 0
theorem Kd (p c):mS p c=Ew iy nt p c:=(e1 69 _).trans (by kernel_rfl)
def Jz (c:bX):Option (Int×Bool):=
 bif ((c.length:Int)==0) then
  some (0,false)
 else
  let e0:Int:=(IntKind.wrap .i64 ((c.length:Int) - 1))
  (idx c e0).bind fun v1=>
  some (v1.1,true)
theorem akY (c):j9 c=Jz c:=(e1 85 _).trans (by kernel_rfl)
def JA (QX:ae qn)(Ep:ae vk)(Xt:ae xf)(p:Int)(a:bX)(k:Int)(b:bX):Option (bX×Int):=
 (QX p ([a,b]:List bX)).bind fun r0=>
 bif (r0 != 0) then
  some (([]:bX),r0)
 else
  (Ep p k).bind fun r1=>
  (Xt p a r1 b).bind fun r2=>
  some (r2,(0:Int))
theorem Ol (p a k b):ka p a k b=JA qn vk xf p a k b:=(e1 87 _).trans (by kernel_rfl)
def jJ (sR:ae gd)(aii:ae mS)(p:Int)(t:List bX)(t2:Int)(t3:Int):Option (Int):=
 bif (decide (t3<t2)) then
  (idx t t3).bind fun v0=>
  (aii p v0).bind fun r1=>
  bif (r1 != 0) then
   some r1
  else
   sR p t t2 (IntKind.wrap .i64 (t3+1))
 else
  some 0
theorem lP (p t t2 t3):gd p t t2 t3=jJ gd mS p t t2 t3:=(l1 122 0 _).trans (by kernel_rfl)
def yz (sR:ae gd)(p:Int)(l:List bX):Option (Int):=
 sR p l (l.length:Int) 0
theorem Ey (p l):qn p l=yz gd p l:=(e1 122 _).trans (by kernel_rfl)
def tR (tS:ae jF)(row:bX)(p:Int)(k:Int)(rest:List (Int×I2×Unit)):Option bX:=
 match rest with
 | []=>some row
 |x0::x0s=>
  let e1:Int:=(IntKind.wrap .i64 (x0.2.1.1+(IntKind.wrap .i64 (k*x0.2.1.2.1))))
  bif (!(p==0)) then
  bif ((e1.tmod p) != 0) then
   let e2:bX:=([(x0.1,((e1.tmod p),()))]:bX)
   bif (aP 16 2 row.length 1) then
   tS (row++e2) p k x0s
   else none
  else
   tS row p k x0s
  else none
theorem yA (row p k rest):jF row p k rest=tR jF row p k rest:=(l1 123 0 _).trans (by kernel_rfl)
def G7 (tS:ae jF)(Uh:ae vm)(QY:ae qo)(p:Int)(a:bX)(k:Int)(b:bX):Option bX:=
 (Uh a b).bind fun r0=>
 (QY r0.1 r0.2).bind fun r1=>
 tS ([]:bX) p k r1
theorem LA (p a k b):xf p a k b=G7 jF vm qo p a k b:=(e1 123 _).trans (by kernel_rfl)
def Cw (a:bX)(b:bX):Option (bX×bX):=
 some (a,b)
theorem HW (a b):vm a b=Cw a b:=(e1 155 _).trans (by kernel_rfl)
def dI (aE:ae eZ)(t:bX)(t2:bX)(trace:List (Int×I2×Unit)):Option (List (Int×I2×Unit)):=
 bif (decide ((t.length:Int)>0)) then
  bif ((t2.length:Int)==0) then
   (idx t 0).bind fun v0=>
   (idx t 0).bind fun v1=>
   bif (dN t.length 1 (t.length:Int)) then
   let e2:List (Int×I2×Unit):=(trace++[(v0.1,((v1.2.1,(0,())),()))])
   aE (cut t 1 (t.length:Int)) t2 e2
   else none
  else
   bif (decide ((t.length:Int)>0)) then
    (idx t 0).bind fun v3=>
    (idx t2 0).bind fun v4=>
    bif (decide (v3.1<v4.1)) then
     (idx t 0).bind fun v5=>
     (idx t 0).bind fun v6=>
     bif (dN t.length 1 (t.length:Int)) then
     let e7:List (Int×I2×Unit):=(trace++[(v5.1,((v6.2.1,(0,())),()))])
     aE (cut t 1 (t.length:Int)) t2 e7
     else none
    else
     bif ((t.length:Int)==0) then
      (idx t2 0).bind fun v8=>
      (idx t2 0).bind fun v9=>
      bif (dN t2.length 1 (t2.length:Int)) then
      let ZD:List (Int×I2×Unit):=(trace++[(v8.1,((0,(v9.2.1,())),()))])
      aE t (cut t2 1 (t2.length:Int)) ZD
      else none
     else
      (idx t2 0).bind fun v11=>
      (idx t 0).bind fun v12=>
      bif (decide (v11.1<v12.1)) then
       (idx t2 0).bind fun RP=>
       (idx t2 0).bind fun I3=>
       bif (dN t2.length 1 (t2.length:Int)) then
       let e15:List (Int×I2×Unit):=(trace++[(RP.1,((0,(I3.2.1,())),()))])
       aE t (cut t2 1 (t2.length:Int)) e15
       else none
      else
       (idx t 0).bind fun v16=>
       (idx t 0).bind fun v17=>
       (idx t2 0).bind fun J9=>
       bif (dN t.length 1 (t.length:Int)) then
       bif (dN t2.length 1 (t2.length:Int)) then
       let e19:List (Int×I2×Unit):=(trace++[(v16.1,((v17.2.1,(J9.2.1,())),()))])
       aE (cut t 1 (t.length:Int)) (cut t2 1 (t2.length:Int)) e19
       else none
       else none
   else
    bif ((t.length:Int)==0) then
     (idx t2 0).bind fun v20=>
     (idx t2 0).bind fun v21=>
     bif (dN t2.length 1 (t2.length:Int)) then
     let e22:List (Int×I2×Unit):=(trace++[(v20.1,((0,(v21.2.1,())),()))])
     aE t (cut t2 1 (t2.length:Int)) e22
     else none
    else
     (idx t2 0).bind fun v23=>
     (idx t 0).bind fun v24=>
     bif (decide (v23.1<v24.1)) then
      (idx t2 0).bind fun v25=>
      (idx t2 0).bind fun v26=>
      bif (dN t2.length 1 (t2.length:Int)) then
      let e27:List (Int×I2×Unit):=(trace++[(v25.1,((0,(v26.2.1,())),()))])
      aE t (cut t2 1 (t2.length:Int)) e27
      else none
     else
      (idx t 0).bind fun v28=>
      (idx t 0).bind fun v29=>
      (idx t2 0).bind fun v30=>
      bif (dN t.length 1 (t.length:Int)) then
      bif (dN t2.length 1 (t2.length:Int)) then
      let e31:List (Int×I2×Unit):=(trace++[(v28.1,((v29.2.1,(v30.2.1,())),()))])
      aE (cut t 1 (t.length:Int)) (cut t2 1 (t2.length:Int)) e31
      else none
      else none
 else
  bif (decide ((t2.length:Int)>0)) then
   bif ((t2.length:Int)==0) then
    (idx t 0).bind fun v32=>
    (idx t 0).bind fun v33=>
    bif (dN t.length 1 (t.length:Int)) then
    let e34:List (Int×I2×Unit):=(trace++[(v32.1,((v33.2.1,(0,())),()))])
    aE (cut t 1 (t.length:Int)) t2 e34
    else none
   else
    bif (decide ((t.length:Int)>0)) then
     (idx t 0).bind fun v35=>
     (idx t2 0).bind fun v36=>
     bif (decide (v35.1<v36.1)) then
      (idx t 0).bind fun v37=>
      (idx t 0).bind fun v38=>
      bif (dN t.length 1 (t.length:Int)) then
      let e39:List (Int×I2×Unit):=(trace++[(v37.1,((v38.2.1,(0,())),()))])
      aE (cut t 1 (t.length:Int)) t2 e39
      else none
     else
      bif ((t.length:Int)==0) then
       (idx t2 0).bind fun v40=>
       (idx t2 0).bind fun v41=>
       bif (dN t2.length 1 (t2.length:Int)) then
       let e42:List (Int×I2×Unit):=(trace++[(v40.1,((0,(v41.2.1,())),()))])
       aE t (cut t2 1 (t2.length:Int)) e42
       else none
      else
       (idx t2 0).bind fun v43=>
       (idx t 0).bind fun v44=>
       bif (decide (v43.1<v44.1)) then
        (idx t2 0).bind fun v45=>
        (idx t2 0).bind fun v46=>
        bif (dN t2.length 1 (t2.length:Int)) then
        let e47:List (Int×I2×Unit):=(trace++[(v45.1,((0,(v46.2.1,())),()))])
        aE t (cut t2 1 (t2.length:Int)) e47
        else none
       else
        (idx t 0).bind fun v48=>
        (idx t 0).bind fun v49=>
        (idx t2 0).bind fun v50=>
        bif (dN t.length 1 (t.length:Int)) then
        bif (dN t2.length 1 (t2.length:Int)) then
        let e51:List (Int×I2×Unit):=(trace++[(v48.1,((v49.2.1,(v50.2.1,())),()))])
        aE (cut t 1 (t.length:Int)) (cut t2 1 (t2.length:Int)) e51
        else none
        else none
    else
     bif ((t.length:Int)==0) then
      (idx t2 0).bind fun v52=>
      (idx t2 0).bind fun v53=>
      bif (dN t2.length 1 (t2.length:Int)) then
      let e54:List (Int×I2×Unit):=(trace++[(v52.1,((0,(v53.2.1,())),()))])
      aE t (cut t2 1 (t2.length:Int)) e54
      else none
     else
      (idx t2 0).bind fun v55=>
      (idx t 0).bind fun v56=>
      bif (decide (v55.1<v56.1)) then
       (idx t2 0).bind fun v57=>
       (idx t2 0).bind fun v58=>
       bif (dN t2.length 1 (t2.length:Int)) then
       let e59:List (Int×I2×Unit):=(trace++[(v57.1,((0,(v58.2.1,())),()))])
       aE t (cut t2 1 (t2.length:Int)) e59
       else none
      else
       (idx t 0).bind fun v60=>
       (idx t 0).bind fun v61=>
       (idx t2 0).bind fun v62=>
       bif (dN t.length 1 (t.length:Int)) then
       bif (dN t2.length 1 (t2.length:Int)) then
       let e63:List (Int×I2×Unit):=(trace++[(v60.1,((v61.2.1,(v62.2.1,())),()))])
       aE (cut t 1 (t.length:Int)) (cut t2 1 (t2.length:Int)) e63
       else none
       else none
  else
   some trace
theorem eD (t t2 trace):eZ t t2 trace=dI eZ t t2 trace:=(l1 171 0 _).trans (by kernel_rfl)
def yB (aE:ae eZ)(t:bX)(t2:bX):Option (List (Int×I2×Unit)):=
 aE t t2 ([]:List (Int×I2×Unit))
theorem Ez (t t2):qo t t2=yB eZ t t2:=(e1 171 _).trans (by kernel_rfl)
end
end Go.Proofs.YtofjebmoebhiiaaGreatDoor.Ev
namespace Go.Proofs.YtofjebmoebhiiaaGreatDoor.Ev
open Go.Abs
noncomputable section
def vR (qq:ae kM)(p:Int)(t:Int):Option (Bool):=
 bif (decide (t<16)) then
  bif (decide (t>1)) then
   bif (!(t==0)) then
   bif ((p.tmod t)==0) then
    bif (p != t) then
     some false
    else
     qq p (IntKind.wrap .i64 (t+1))
   else
    qq p (IntKind.wrap .i64 (t+1))
   else none
  else
   qq p (IntKind.wrap .i64 (t+1))
 else
  bif (decide (p>1)) then
   some (decide (p≤251))
  else
   some false
theorem AI (p t):kM p t=vR kM p t:=(l1 67 0 _).trans (by kernel_rfl)
def JB (qq:ae kM)(p:Int):Option (Bool):=
 qq p 0
theorem On (p):nt p=JB kM p:=(e1 67 _).trans (by kernel_rfl)
def Pc (SF:ae Jw)(afh:ae fo)(LB:ae ln)(p:Int)(a:Int):Option (Int×Int):=
 (SF p).bind fun r0=>
 bif (r0.2 != 0) then
  some (0,r0.2)
 else
  (afh r0.1 a).bind fun r1=>
  bif (r1==0) then
   some (0,(9:Int))
  else
   (LB r0.1 a).bind fun r2=>
   some (r2,(0:Int))
theorem TG (p a):BF p a=Pc Jw fo ln p a:=(e1 86 _).trans (by kernel_rfl)
def Pd (SF:ae Jw)(afh:ae fo)(p:Int)(a:Int):Option (Int):=
 (SF p).bind fun r0=>
 bif (r0.2 != 0) then
  some 0
 else
  (afh r0.1 a).bind fun r1=>
  some r1
theorem TH (p a):vk p a=Pd Jw fo p a:=(e1 88 _).trans (by kernel_rfl)
def MZ (ahR:ae nt)(p:Int):Option (Int×Int):=
 (ahR p).bind fun r0=>
 bif (!r0) then
  some (0,(8:Int))
 else
  some (p,(0:Int))
theorem Pe (p):Jw p=MZ nt p:=(e1 119 _).trans (by kernel_rfl)
def yD (f:Int)(a:Int):Option (Int):=
 bif (!(f==0)) then
 bif (!(f==0)) then
 some ((IntKind.wrap .i64 ((a.tmod f)+f)).tmod f)
 else none
 else none
theorem EA (f a):fo f a=yD f a:=(e1 120 _).trans (by kernel_rfl)
def sS (Pf:ae ot)(f:Int)(a:Int):Option (Int):=
 (Pf f a (IntKind.wrap .i64 (f - 2))).bind fun r0=>
 some r0
theorem zZ (f a):ln f a=sS ot f a:=(e1 121 _).trans (by kernel_rfl)
def qK (lQ:ae eo)(f:Int)(n:Int)(out:Int)(base:Int):Option (Int):=
 bif (decide (n>0)) then
  bif ((n.tmod 2)==1) then
   bif (!(f==0)) then
   bif (!(f==0)) then
   lQ f (IntKind.wrap .i64 (n.tdiv 2)) ((IntKind.wrap .i64 (out*base)).tmod f) ((IntKind.wrap .i64 (base*base)).tmod f)
   else none
   else none
  else
   bif (!(f==0)) then
   lQ f (IntKind.wrap .i64 (n.tdiv 2)) out ((IntKind.wrap .i64 (base*base)).tmod f)
   else none
 else
  some out
theorem yE (f n out base):eo f n out base=qK eo f n out base:=(l1 154 0 _).trans (by kernel_rfl)
def wc (lQ:ae eo)(afh:ae fo)(f:Int)(a:Int)(n:Int):Option (Int):=
 (afh f a).bind fun r0=>
 lQ f n 1 r0
theorem CW (f a n):ot f a n=wc eo fo f a n:=(e1 154 _).trans (by kernel_rfl)
end
end Go.Proofs.YtofjebmoebhiiaaGreatDoor.Ev
namespace Go.Proofs.YtofjebmoebhiiaaGreatDoor.Ev
open Go.Abs
noncomputable section
def Bb (Xv:ae xd)(Wm:ae HL)(vp:ae AA)(AJ:ae jE)(mO:ae gM)(Ui:ae qE)(a:ByteArray):Option (((Bool×(List Int)×Unit)×(Bool×(List Int)×Unit)×Unit)×Bool):=
 (Xv a (bs [47])).bind fun r0=>
 (Wm r0.1).bind fun r1=>
 bif (!r1.2) then
  (vp 1).bind fun r2=>
  some (((r1.1.1,(r1.1.2.1,())),((r2.1,(r2.2.1,())),())),r1.2)
 else
  bif (!r0.2.2) then
   (vp 1).bind fun r3=>
   some (((r1.1.1,(r1.1.2.1,())),((r3.1,(r3.2.1,())),())),r1.2)
  else
   (Wm r0.2.1).bind fun r4=>
   bif (!r4.2) then
    some (((false,(([]:List Int),())),((false,(([]:List Int),())),())),false)
   else
    (AJ (r1.1.1,(r1.1.2.1,()))).bind fun r5=>
    bif (r5==0) then
     some (((false,(([]:List Int),())),((false,(([]:List Int),())),())),false)
    else
     (vp 1).bind fun r6=>
     (mO (r4.1.1,(r4.1.2.1,())) (r6.1,(r6.2.1,()))).bind fun r7=>
     bif (decide (r7≤0)) then
      some (((false,(([]:List Int),())),((false,(([]:List Int),())),())),false)
     else
      (Ui (r1.1.1,(r1.1.2.1,())) (r4.1.1,(r4.1.2.1,()))).bind fun r8=>
      (vp 1).bind fun r9=>
      (mO (r8.1,(r8.2.1,())) (r9.1,(r9.2.1,()))).bind fun Qb=>
      bif (Qb != 0) then
       some (((false,(([]:List Int),())),((false,(([]:List Int),())),())),false)
      else
       some (((r1.1.1,(r1.1.2.1,())),((r4.1.1,(r4.1.2.1,())),())),true)
theorem EB (a):jD a=Bb xd HL AA jE gM qE a:=(e1 42 _).trans (by kernel_rfl)
def Ke (Uj:ae vj)(a:(Bool×(List Int)×Unit)×(Bool×(List Int)×Unit)×Unit):Option ((Bool×(List Int)×Unit)×(Bool×(List Int)×Unit)×Unit):=
 (Uj (a.1.1,(a.1.2.1,()))).bind fun r0=>
 some ((r0.1,(r0.2.1,())),((a.2.1.1,(a.2.1.2.1,())),()))
theorem SG (a):vg a=Ke vj a:=(e1 43 _).trans (by kernel_rfl)
def HY (vS:ae kO)(vp:ae AA)(mO:ae gM)(AK:ae sL)(a:(Bool×(List Int)×Unit)×(Bool×(List Int)×Unit)×Unit):Option (ByteArray):=
 (vS ((a.1.1,(a.1.2.1,())),((a.2.1.1,(a.2.1.2.1,())),()))).bind fun r0=>
 (vp 1).bind fun r1=>
 (mO (r0.1,(r0.2.1,())) (r1.1,(r1.2.1,()))).bind fun r2=>
 bif (r2 != 0) then
  (AK (a.1.1,(a.1.2.1,()))).bind fun r3=>
  bif (Nat.ble (r3.size+(bs [47]).size) 9223372036854775807) then
  (AK (r0.1,(r0.2.1,()))).bind fun r4=>
  bif (Nat.ble ((r3++(bs [47])).size+r4.size) 9223372036854775807) then
  some ((r3++(bs [47]))++r4)
  else none
  else none
 else
  (AK (a.1.1,(a.1.2.1,()))).bind fun r5=>
  some r5
theorem QZ (a):sK a=HY kO AA gM sL a:=(e1 44 _).trans (by kernel_rfl)
def Cx (vS:ae kO)(Kf:ae qG)(mO:ae gM)(a:(Bool×(List Int)×Unit)×(Bool×(List Int)×Unit)×Unit)(b:(Bool×(List Int)×Unit)×(Bool×(List Int)×Unit)×Unit):Option (Int):=
 (vS ((b.1.1,(b.1.2.1,())),((b.2.1.1,(b.2.1.2.1,())),()))).bind fun r0=>
 (Kf (a.1.1,(a.1.2.1,())) (r0.1,(r0.2.1,()))).bind fun r1=>
 (vS ((a.1.1,(a.1.2.1,())),((a.2.1.1,(a.2.1.2.1,())),()))).bind fun r2=>
 (Kf (b.1.1,(b.1.2.1,())) (r2.1,(r2.2.1,()))).bind fun r3=>
 (mO (r1.1,(r1.2.1,())) (r3.1,(r3.2.1,()))).bind fun r4=>
 some r4
theorem HZ (a b):qD a b=Cx kO qG gM a b:=(e1 74 _).trans (by kernel_rfl)
def Bc (G8:ae oZ)(yF:ae kb)(s:ByteArray)(neg:Bool)(G0:Int)(d:List Int)(t:Bool)(t2:List Int):Option ((Bool×(List Int)×Unit)×Bool):=
 bif (decide (G0>0)) then
  let e0:Int:=(bif decide ((IntKind.wrap .i64 (G0 - 9))>0) then (IntKind.wrap .i64 (G0 - 9)) else 0)
  bif (dN s.size e0 G0) then
  bif (Nat.ble (s.extract e0.toNat G0.toNat).size 140737488355328) then
  let e1:Int:=((bytesOf (s.extract e0.toNat G0.toNat)).length:Int)
  G8 s neg G0 0 (bytesOf (s.extract e0.toNat G0.toNat)) e1 0 d t t2
  else none
  else none
 else
  (yF neg d).bind fun r2=>
  some ((r2.1,(r2.2.1,())),true)
theorem EC (s neg G0 d t t2):kN s neg G0 d t t2=Bc oZ kb s neg G0 d t t2:=(l1 76 0 _).trans (by kernel_rfl)
def Be (G8:ae oZ)(Bf:ae kN)(s:ByteArray)(neg:Bool)(G0:Int)(x:Int)(t:List Int)(t2:Int)(t3:Int)(d:List Int)(t4:Bool)(t5:List Int):Option ((Bool×(List Int)×Unit)×Bool):=
 bif (decide (t3<t2)) then
  (idx t t3).bind fun v0=>
  bif (decide (v0<48)) then
   some ((false,(([]:List Int),())),false)
  else
   bif (decide (v0>57)) then
    some ((false,(([]:List Int),())),false)
   else
    let e1:Int:=(IntKind.wrap .u32 (IntKind.wrap .u8 (v0 - 48)))
    let e2:Int:=(IntKind.wrap .u32 ((IntKind.wrap .u32 (10*x))+e1))
    G8 s neg G0 e2 t t2 (IntKind.wrap .i64 (t3+1)) d t4 t5
 else
  bif (aP 4 1 d.length 1) then
  Bf s neg (IntKind.wrap .i64 (G0 - 9)) (d++([x]:List Int)) t4 t5
  else none
theorem ED (s neg G0 x t t2 t3 d t4 t5):oZ s neg G0 x t t2 t3 d t4 t5=Be oZ kN s neg G0 x t t2 t3 d t4 t5:=(l1 76 1 _).trans (by kernel_rfl)
def Pg (Bf:ae kN)(Nn:ae jR)(a:ByteArray):Option ((Bool×(List Int)×Unit)×Bool):=
 (Nn a (bs [45])).bind fun r0=>
 bif (r0.1.toList==ByteArray.empty.toList) then
  some ((false,(([]:List Int),())),false)
 else
  (uw r0.1 0).bind fun v1=>
  bif (v1==48) then
   bif (decide ((r0.1.size:Int)>1)) then
    some ((false,(([]:List Int),())),false)
   else
    bif r0.2 then
     some ((false,(([]:List Int),())),false)
    else
     Bf r0.1 r0.2 (r0.1.size:Int) ([]:List Int) false ([]:List Int)
  else
   Bf r0.1 r0.2 (r0.1.size:Int) ([]:List Int) false ([]:List Int)
theorem TI (a):HL a=Pg kN jR a:=(e1 76 _).trans (by kernel_rfl)
def Gh (Gi:ae xe)(u:Int)(neg:Bool)(d:List Int)(t:Bool)(t2:List Int):Option (Bool×(List Int)×Unit):=
 bif (decide (u>0)) then
  let e0:List Int:=([(IntKind.wrap .u32 (u.tmod 1000000000))]:List Int)
  bif (aP 4 1 d.length 1) then
  Gi (IntKind.wrap .u64 (u.tdiv 1000000000)) neg (d++e0) t t2
  else none
 else
  some (neg,(d,()))
theorem JC (u neg d t t2):xe u neg d t t2=Gh xe u neg d t t2:=(l1 77 0 _).trans (by kernel_rfl)
def Wn (Gi:ae xe)(n:Int):Option (Bool×(List Int)×Unit):=
 bif (decide (n<0)) then
  Gi (IntKind.wrap .u64 (0 - (IntKind.wrap .u64 n))) (decide (n<0)) ([]:List Int) false ([]:List Int)
 else
  Gi (IntKind.wrap .u64 n) (decide (n<0)) ([]:List Int) false ([]:List Int)
theorem YJ (n):AA n=Wn xe n:=(e1 77 _).trans (by kernel_rfl)
def AL (a:Bool×(List Int)×Unit):Option (Int):=
 bif ((a.2.1.length:Int)==0) then
  some 0
 else
  bif a.1 then
   some (-1)
  else
   some 1
theorem Gj (a):jE a=AL a:=(e1 78 _).trans (by kernel_rfl)
def Cy (JD:ae BG)(a:Bool×(List Int)×Unit)(b:Bool×(List Int)×Unit):Option (Int):=
 bif (!(a.1==b.1)) then
  bif a.1 then
   some (-1)
  else
   some 1
 else
  bif a.1 then
   (JD b.2.1 a.2.1).bind fun r0=>
   some r0
  else
   (JD a.2.1 b.2.1).bind fun r1=>
   some r1
theorem Ia (a b):gM a b=Cy BG a b:=(e1 79 _).trans (by kernel_rfl)
def we (pw:ae ac1)(Wo:ae HN)(ab6:ae HM)(vp:ae AA)(TJ:ae AB)(sT:ae oo)(x:List Int)(y:List Int)(t:Bool)(t2:List Int):Option (Bool×(List Int)×Unit):=
 bif (decide ((y.length:Int)>0)) then
  bif (decide ((x.length:Int)≤2)) then
   bif (decide ((y.length:Int)≤2)) then
    (Wo x).bind fun r0=>
    (Wo y).bind fun r1=>
    (ab6 r0 r1).bind fun r2=>
    (vp r2).bind fun r3=>
    some (r3.1,(r3.2.1,()))
   else
    (TJ x y).bind fun r4=>
    (sT r4.2).bind fun r5=>
    pw y r5 t t2
  else
   (TJ x y).bind fun r6=>
   (sT r6.2).bind fun r7=>
   pw y r7 t t2
 else
  some (false,(x,()))
theorem CX (x y t t2):ac1 x y t t2=we ac1 HN HM AA AB oo x y t t2:=(l1 80 0 _).trans (by kernel_rfl)
def Cz (pw:ae ac1)(a:Bool×(List Int)×Unit)(b:Bool×(List Int)×Unit):Option (Bool×(List Int)×Unit):=
 pw a.2.1 b.2.1 false ([]:List Int)
theorem Ib (a b):qE a b=Cz ac1 a b:=(e1 80 _).trans (by kernel_rfl)
def Kg (yF:ae kb)(a:Bool×(List Int)×Unit):Option (Bool×(List Int)×Unit):=
 (yF (!a.1) a.2.1).bind fun r0=>
 some (r0.1,(r0.2.1,()))
theorem SH (a):vj a=Kg kb a:=(e1 81 _).trans (by kernel_rfl)
def CA (AJ:ae jE)(vp:ae AA)(a:(Bool×(List Int)×Unit)×(Bool×(List Int)×Unit)×Unit):Option (Bool×(List Int)×Unit):=
 (AJ (a.2.1.1,(a.2.1.2.1,()))).bind fun r0=>
 bif (r0==0) then
  (vp 1).bind fun r1=>
  some (r1.1,(r1.2.1,()))
 else
  some (a.2.1.1,(a.2.1.2.1,()))
theorem Ic (a):kO a=CA jE AA a:=(e1 82 _).trans (by kernel_rfl)
def CY (uD:ae gS)(uE:ae gT)(t:List Int)(t2:Int)(t3:Int)(out:List Int)(a:Bool)(a2:List Int):Option (ByteArray):=
 bif (decide (t3<t2)) then
  (idx t t3).bind fun v0=>
  uD v0 t t2 t3 0 out a a2
 else
  uE out a a2
theorem LC (t t2 t3 out a a2):gR t t2 t3 out a a2=CY gS gT t t2 t3 out a a2:=(l1 83 0 _).trans (by kernel_rfl)
def CZ (uD:ae gS)(uF:ae gR)(x:Int)(t:List Int)(t2:Int)(t3:Int)(t4:Int)(out:List Int)(a:Bool)(a2:List Int):Option (ByteArray):=
 bif (decide (t4<9)) then
  let e0:Int:=(IntKind.wrap .u32 (48+(x.tmod 10)))
  bif (aP 1 1 out.length 1) then
  uD (IntKind.wrap .u32 (x.tdiv 10)) t t2 t3 (IntKind.wrap .i64 (t4+1)) (out++([(IntKind.wrap .u8 e0)]:List Int)) a a2
  else none
 else
  uF t t2 (IntKind.wrap .i64 (t3+1)) out a a2
theorem LD (x t t2 t3 t4 out a a2):gS x t t2 t3 t4 out a a2=CZ gS gR x t t2 t3 t4 out a a2:=(l1 83 1 _).trans (by kernel_rfl)
def C0 (uE:ae gT)(nQ:ae gU)(out:List Int)(a:Bool)(a2:List Int):Option (ByteArray):=
 let e0:Int:=(IntKind.wrap .i64 ((out.length:Int) - 1))
 (idx out e0).bind fun _=>
 (out[e0.toNat]?).bind fun v1=>
 bif (v1==48) then
  let e2:Int:=(IntKind.wrap .i64 ((out.length:Int) - 1))
  bif (dN out.length 0 e2) then
  uE (out.take e2.toNat) a a2
  else none
 else
  bif a then
   bif (aP 1 1 out.length 1) then
   let e3:Int:=((out++([45]:List Int)).length:Int)
   nQ 0 (IntKind.wrap .i64 (e3 - 1)) (out++([45]:List Int))
   else none
  else
   let e4:Int:=(IntKind.wrap .i64 ((out.length:Int) - 1))
   nQ 0 e4 out
theorem LF (out a a2):gT out a a2=C0 gT gU out a a2:=(l1 83 2 _).trans (by kernel_rfl)
def C1 (nQ:ae gU)(i:Int)(j:Int)(out:List Int):Option (ByteArray):=
 bif (decide (i<j)) then
  (idx out j).bind fun _=>
  (out[j.toNat]?).bind fun v0=>
  (idx out i).bind fun _=>
  (out[i.toNat]?).bind fun v1=>
  (idx out i).bind fun _=>
  (out[i.toNat]?).bind fun v2=>
  (idx (out.set i.toNat v0) j).bind fun _=>
  ((out.set i.toNat v0)[j.toNat]?).bind fun v3=>
  nQ (IntKind.wrap .i64 (i+1)) (IntKind.wrap .i64 (j - 1)) ((out.set i.toNat v0).set j.toNat v1)
 else
  some (strOf out)
theorem LG (i j out):gU i j out=C1 gU i j out:=(l1 83 3 _).trans (by kernel_rfl)
def Ie (uF:ae gR)(a:Bool×(List Int)×Unit):Option (ByteArray):=
 bif ((a.2.1.length:Int)==0) then
  some (bs [48])
 else
  let e0:Int:=(IntKind.wrap .i64 (9*(a.2.1.length:Int)))
  bif (gK 1 0 (IntKind.wrap .i64 (e0+1))) then
  uF a.2.1 (a.2.1.length:Int) 0 ([]:List Int) a.1 a.2.1
  else none
theorem Q0 (a):sL a=Ie gR a:=(e1 83 _).trans (by kernel_rfl)
def px (wg:ae gA)(yF:ae kb)(t:List Int)(t2:Int)(t3:Int)(out:List Int)(a:Bool)(a2:List Int)(b:Bool)(b2:List Int)(t4:Bool)(t5:List Int):Option (Bool×(List Int)×Unit):=
 bif (decide (t3<t2)) then
  (idx t t3).bind fun v0=>
  wg t3 v0 0 t t2 t3 b2 (b2.length:Int) 0 out a a2 b b2 t4 t5
 else
  (yF (!(a==b)) out).bind fun r1=>
  some (r1.1,(r1.2.1,()))
theorem uG (t t2 t3 out a a2 b b2 t4 t5):dY t t2 t3 out a a2 b b2 t4 t5=px gA kb t t2 t3 out a a2 b b2 t4 t5:=(l1 110 0 _).trans (by kernel_rfl)
def py (wg:ae gA)(wh:ae dY)(i:Int)(x:Int)(carry:Int)(t:List Int)(t2:Int)(t3:Int)(t4:List Int)(t5:Int)(t6:Int)(out:List Int)(a:Bool)(a2:List Int)(b:Bool)(b2:List Int)(t7:Bool)(t8:List Int):Option (Bool×(List Int)×Unit):=
 bif (decide (t6<t5)) then
  (idx t4 t6).bind fun v0=>
  let e1:Int:=(IntKind.wrap .u64 ((IntKind.wrap .u64 x)*(IntKind.wrap .u64 v0)))
  (idx out (IntKind.wrap .i64 (i+t6))).bind fun _=>
  (out[(IntKind.wrap .i64 (i+t6)).toNat]?).bind fun v2=>
  let e3:Int:=(IntKind.wrap .u64 (e1+(IntKind.wrap .u64 v2)))
  let e4:Int:=((IntKind.wrap .u64 (carry+e3)).tmod 1000000000)
  (idx out (IntKind.wrap .i64 (i+t6))).bind fun _=>
  (out[(IntKind.wrap .i64 (i+t6)).toNat]?).bind fun v5=>
  let e6:List Int:=(out.set (IntKind.wrap .i64 (i+t6)).toNat (IntKind.wrap .u32 e4))
  let e7:Int:=(IntKind.wrap .u64 ((IntKind.wrap .u64 (carry+e3)).tdiv 1000000000))
  wg i x e7 t t2 t3 t4 t5 (IntKind.wrap .i64 (t6+1)) e6 a a2 b b2 t7 t8
 else
  (idx out (IntKind.wrap .i64 (i+(b2.length:Int)))).bind fun _=>
  (out[(IntKind.wrap .i64 (i+(b2.length:Int))).toNat]?).bind fun v8=>
  let e9:List Int:=(out.set (IntKind.wrap .i64 (i+(b2.length:Int))).toNat (IntKind.wrap .u32 carry))
  wh t t2 (IntKind.wrap .i64 (t3+1)) e9 a a2 b b2 t7 t8
theorem uH (i x carry t t2 t3 t4 t5 t6 out a a2 b b2 t7 t8):gA i x carry t t2 t3 t4 t5 t6 out a a2 b b2 t7 t8=py gA dY i x carry t t2 t3 t4 t5 t6 out a a2 b b2 t7 t8:=(l1 110 1 _).trans (by kernel_rfl)
def CC (wh:ae dY)(a:Bool×(List Int)×Unit)(b:Bool×(List Int)×Unit):Option (Bool×(List Int)×Unit):=
 let e0:Int:=(IntKind.wrap .i64 ((a.2.1.length:Int)+(b.2.1.length:Int)))
 bif (gK 4 e0 e0) then
 wh a.2.1 (a.2.1.length:Int) 0 (List.replicate e0.toNat 0) a.1 a.2.1 b.1 b.2.1 false ([]:List Int)
 else none
theorem Ig (a b):qG a b=CC dY a b:=(e1 110 _).trans (by kernel_rfl)
def JE (sT:ae oo)(neg:Bool)(d:List Int):Option (Bool×(List Int)×Unit):=
 (sT d).bind fun r0=>
 bif neg then
  some ((decide ((r0.length:Int)>0)),(r0,()))
 else
  some (false,(r0,()))
theorem Oo (neg d):kb neg d=JE oo neg d:=(e1 113 _).trans (by kernel_rfl)
def Bg (G9:ae o5)(a:List Int)(b:List Int)(i:Int):Option (Int):=
 bif (decide (i≥0)) then
  (idx a i).bind fun v0=>
  (idx b i).bind fun v1=>
  bif (v0 != v1) then
   (idx a i).bind fun v2=>
   (idx b i).bind fun v3=>
   bif (decide (v2<v3)) then
    some (-1)
   else
    some 1
  else
   G9 a b (IntKind.wrap .i64 (i - 1))
 else
  some 0
theorem EE (a b i):o5 a b i=Bg o5 a b i:=(l1 114 0 _).trans (by kernel_rfl)
def Ph (G9:ae o5)(a:List Int)(b:List Int):Option (Int):=
 bif ((a.length:Int) != (b.length:Int)) then
  bif (decide ((a.length:Int)<(b.length:Int))) then
   some (-1)
  else
   some 1
 else
  let e0:Int:=(IntKind.wrap .i64 ((a.length:Int) - 1))
  G9 a b e0
theorem TK (a b):BG a b=Ph o5 a b:=(e1 114 _).trans (by kernel_rfl)
def EF (EG:ae mV)(x:Int)(y:Int):Option (Int):=
 bif (decide (y>0)) then
  bif (!(y==0)) then
  EG y (x.tmod y)
  else none
 else
  some x
theorem Kh (x y):mV x y=EF mV x y:=(l1 115 0 _).trans (by kernel_rfl)
def LH (EG:ae mV)(x:Int)(y:Int):Option (Int):=
 EG x y
theorem Q1 (x y):HM x y=LH mV x y:=(e1 115 _).trans (by kernel_rfl)
def kS (Ha:ae sO)(d:List Int)(n:Int)(i:Int):Option (Int):=
 bif (decide (i≥0)) then
  (idx d i).bind fun v0=>
  let e1:Int:=(IntKind.wrap .i64 ((IntKind.wrap .i64 (n*1000000000))+(IntKind.wrap .i64 v0)))
  Ha d e1 (IntKind.wrap .i64 (i - 1))
 else
  some n
theorem lu (d n i):sO d n i=kS sO d n i:=(l1 116 0 _).trans (by kernel_rfl)
def Pj (Ha:ae sO)(d:List Int):Option (Int):=
 let e0:Int:=(IntKind.wrap .i64 ((d.length:Int) - 1))
 Ha d 0 e0
theorem TL (d):HN d=Pj sO d:=(e1 116 _).trans (by kernel_rfl)
def LI (JD:ae BG)(LJ:ae xg)(sT:ae oo)(adX:ae HO)(a:List Int)(b:List Int):Option ((List Int)×List Int):=
 (JD a b).bind fun r0=>
 bif (decide (r0<0)) then
  some (([]:List Int),a)
 else
  bif ((b.length:Int)==1) then
   (idx b 0).bind fun v1=>
   (LJ a v1).bind fun r2=>
   (sT ([r2.2]:List Int)).bind fun r3=>
   some (r2.1,r3)
  else
   (adX a b).bind fun r4=>
   some (r4.1,r4.2)
theorem Q2 (a b):AB a b=LI BG xg oo HO a b:=(e1 117 _).trans (by kernel_rfl)
def Bh (Hb:ae o6)(d:List Int):Option (List Int):=
 bif (decide ((d.length:Int)>0)) then
  let e0:Int:=(IntKind.wrap .i64 ((d.length:Int) - 1))
  (idx d e0).bind fun v1=>
  bif (v1==0) then
   let e2:Int:=(IntKind.wrap .i64 ((d.length:Int) - 1))
   bif (dN d.length 0 e2) then
   Hb (cut d 0 e2)
   else none
  else
   some d
 else
  some d
theorem EH (d):o6 d=Bh o6 d:=(l1 118 0 _).trans (by kernel_rfl)
def Pk (Hb:ae o6)(d:List Int):Option (List Int):=
 Hb d
theorem TM (d):oo d=Pk o6 d:=(e1 118 _).trans (by kernel_rfl)
def AM (Ih:ae ou)(a:(Bool×(List Int)×Unit)×(Bool×(List Int)×Unit)×Unit):Option (Bool):=
 (Ih (a.1.1,(a.1.2.1,()))).bind fun r0=>
 bif r0 then
  some true
 else
  (Ih (a.2.1.1,(a.2.1.2.1,()))).bind fun r1=>
  some r1
theorem Gk (a):oq a=AM ou a:=(e1 149 _).trans (by kernel_rfl)
def yI (EI:ae mW)(a:List Int)(b:Int)(rest:Int)(i:Int)(out:List Int):Option ((List Int)×Int):=
 bif (decide (i≥0)) then
  (idx a i).bind fun v0=>
  let e1:Int:=(IntKind.wrap .u64 ((IntKind.wrap .u64 (rest*1000000000))+(IntKind.wrap .u64 v0)))
  bif (!((IntKind.wrap .u64 b)==0)) then
  let e2:Int:=(IntKind.wrap .u64 (e1.tdiv (IntKind.wrap .u64 b)))
  bif (!((IntKind.wrap .u64 b)==0)) then
  (idx out i).bind fun _=>
  (out[i.toNat]?).bind fun v3=>
  EI a b (e1.tmod (IntKind.wrap .u64 b)) (IntKind.wrap .i64 (i - 1)) (out.set i.toNat (IntKind.wrap .u32 e2))
  else none
  else none
 else
  some (out,(IntKind.wrap .u32 rest))
theorem CD (a b rest i out):mW a b rest i out=yI mW a b rest i out:=(l1 152 0 _).trans (by kernel_rfl)
def LK (EI:ae mW)(a:List Int)(b:Int):Option ((List Int)×Int):=
 bif (gK 4 (a.length:Int) (a.length:Int)) then
 let e0:List Int:=(List.replicate (a.length:Int).toNat 0)
 let e1:Int:=(IntKind.wrap .i64 ((a.length:Int) - 1))
 EI a b 0 e1 e0
 else none
theorem Q3 (a b):xg a b=LK mW a b:=(e1 152 _).trans (by kernel_rfl)
def Bi (Bj:ae kP)(LJ:ae xg)(k:Int)(v:List Int)(n:Int)(j:Int)(q:List Int)(u:List Int):Option ((List Int)×List Int):=
 bif (decide (j≥0)) then
  (idx u (IntKind.wrap .i64 (j+n))).bind fun _=>
  (u[(IntKind.wrap .i64 (j+n)).toNat]?).bind fun v0=>
  let e1:Int:=(IntKind.wrap .u64 ((IntKind.wrap .u64 v0)*1000000000))
  let e2:Int:=(IntKind.wrap .i64 ((IntKind.wrap .i64 (j+n)) - 1))
  (idx u e2).bind fun _=>
  (u[e2.toNat]?).bind fun v3=>
  let e4:Int:=(IntKind.wrap .u64 (e1+(IntKind.wrap .u64 v3)))
  (idx v (IntKind.wrap .i64 (n - 1))).bind fun v5=>
  bif (!((IntKind.wrap .u64 v5)==0)) then
  let e6:Int:=(IntKind.wrap .u64 (e4.tdiv (IntKind.wrap .u64 v5)))
  (idx v (IntKind.wrap .i64 (n - 1))).bind fun v7=>
  bif (!((IntKind.wrap .u64 v7)==0)) then
  Bj k v n j e6 (e4.tmod (IntKind.wrap .u64 v7)) q u
  else none
  else none
 else
  bif (dN u.length 0 n) then
  (LJ (u.take n.toNat) k).bind fun r8=>
  some (q,r8.1)
  else none
theorem EJ (k v n j q u):fJ k v n j q u=Bi kP xg k v n j q u:=(l1 153 0 _).trans (by kernel_rfl)
def Bk (kT:ae iz)(Bj:ae kP)(k:Int)(v:List Int)(n:Int)(j:Int)(guess:Int)(rest:Int)(q:List Int)(u:List Int):Option ((List Int)×List Int):=
 bif (decide (guess≥1000000000)) then
  (idx v (IntKind.wrap .i64 (n - 1))).bind fun v0=>
  let e1:Int:=(IntKind.wrap .u64 (rest+(IntKind.wrap .u64 v0)))
  bif (decide (e1≥1000000000)) then
   kT k v n j (IntKind.wrap .u64 (guess - 1)) 0 n 0 q u
  else
   Bj k v n j (IntKind.wrap .u64 (guess - 1)) e1 q u
 else
  (idx v (IntKind.wrap .i64 (n - 2))).bind fun v2=>
  let e3:Int:=(IntKind.wrap .u64 (guess*(IntKind.wrap .u64 v2)))
  let e4:Int:=(IntKind.wrap .i64 ((IntKind.wrap .i64 (j+n)) - 2))
  (idx u e4).bind fun _=>
  (u[e4.toNat]?).bind fun v5=>
  let e6:Int:=(IntKind.wrap .u64 ((IntKind.wrap .u64 (rest*1000000000))+(IntKind.wrap .u64 v5)))
  bif (decide (e3>e6)) then
   (idx v (IntKind.wrap .i64 (n - 1))).bind fun v7=>
   let e8:Int:=(IntKind.wrap .u64 (rest+(IntKind.wrap .u64 v7)))
   bif (decide (e8≥1000000000)) then
    kT k v n j (IntKind.wrap .u64 (guess - 1)) 0 n 0 q u
   else
    Bj k v n j (IntKind.wrap .u64 (guess - 1)) e8 q u
  else
   kT k v n j guess 0 n 0 q u
theorem EK (k v n j guess rest q u):kP k v n j guess rest q u=Bk iz kP k v n j guess rest q u:=(l1 153 1 _).trans (by kernel_rfl)
def Bl (kT:ae iz)(Hc:ae mX)(vq:ae fJ)(k:Int)(v:List Int)(n:Int)(j:Int)(guess:Int)(borrow:Int)(t:Int)(t2:Int)(q:List Int)(u:List Int):Option ((List Int)×List Int):=
 bif (decide (t2<t)) then
  (idx u (IntKind.wrap .i64 (t2+j))).bind fun _=>
  (u[(IntKind.wrap .i64 (t2+j)).toNat]?).bind fun v0=>
  let e1:Int:=(IntKind.wrap .i64 ((IntKind.wrap .i64 v0) - borrow))
  (idx v t2).bind fun v2=>
  let e3:Int:=(IntKind.wrap .i64 ((IntKind.wrap .i64 guess)*(IntKind.wrap .i64 v2)))
  let e4:Int:=(IntKind.wrap .i64 (e1 - (e3.tmod 1000000000)))
  (idx v t2).bind fun v5=>
  let e6:Int:=(IntKind.wrap .i64 ((IntKind.wrap .i64 guess)*(IntKind.wrap .i64 v5)))
  bif (decide (e4<0)) then
   let e7:Int:=(IntKind.wrap .i64 ((IntKind.wrap .i64 (e6.tdiv 1000000000))+1))
   bif (decide ((IntKind.wrap .i64 (e4+1000000000))<0)) then
    let e8:Int:=(IntKind.wrap .i64 ((IntKind.wrap .i64 (e4+1000000000))+1000000000))
    (idx u (IntKind.wrap .i64 (t2+j))).bind fun _=>
    (u[(IntKind.wrap .i64 (t2+j)).toNat]?).bind fun v9=>
    let ZD:List Int:=(u.set (IntKind.wrap .i64 (t2+j)).toNat (IntKind.wrap .u32 e8))
    kT k v n j guess (IntKind.wrap .i64 (e7+1)) t (IntKind.wrap .i64 (t2+1)) q ZD
   else
    let V5:Int:=(IntKind.wrap .u32 (IntKind.wrap .i64 (e4+1000000000)))
    (idx u (IntKind.wrap .i64 (t2+j))).bind fun _=>
    (u[(IntKind.wrap .i64 (t2+j)).toNat]?).bind fun v12=>
    kT k v n j guess e7 t (IntKind.wrap .i64 (t2+1)) q (u.set (IntKind.wrap .i64 (t2+j)).toNat V5)
  else
   bif (decide (e4<0)) then
    let O8:Int:=(IntKind.wrap .i64 ((IntKind.wrap .i64 (e6.tdiv 1000000000))+1))
    let e14:Int:=(IntKind.wrap .u32 (IntKind.wrap .i64 (e4+1000000000)))
    (idx u (IntKind.wrap .i64 (t2+j))).bind fun _=>
    (u[(IntKind.wrap .i64 (t2+j)).toNat]?).bind fun ZL=>
    kT k v n j guess O8 t (IntKind.wrap .i64 (t2+1)) q (u.set (IntKind.wrap .i64 (t2+j)).toNat e14)
   else
    (idx u (IntKind.wrap .i64 (t2+j))).bind fun _=>
    (u[(IntKind.wrap .i64 (t2+j)).toNat]?).bind fun v16=>
    let e17:List Int:=(u.set (IntKind.wrap .i64 (t2+j)).toNat (IntKind.wrap .u32 e4))
    kT k v n j guess (IntKind.wrap .i64 (e6.tdiv 1000000000)) t (IntKind.wrap .i64 (t2+1)) q e17
 else
  (idx u (IntKind.wrap .i64 (j+n))).bind fun _=>
  (u[(IntKind.wrap .i64 (j+n)).toNat]?).bind fun J9=>
  let e19:Int:=(IntKind.wrap .i64 ((IntKind.wrap .i64 J9) - borrow))
  bif (decide (e19<0)) then
   Hc k v n j (IntKind.wrap .u64 (guess - 1)) e19 0 n 0 q u
  else
   (idx u (IntKind.wrap .i64 (j+n))).bind fun _=>
   (u[(IntKind.wrap .i64 (j+n)).toNat]?).bind fun v20=>
   let e21:List Int:=(u.set (IntKind.wrap .i64 (j+n)).toNat 0)
   (idx q j).bind fun _=>
   (q[j.toNat]?).bind fun v22=>
   vq k v n (IntKind.wrap .i64 (j - 1)) (q.set j.toNat (IntKind.wrap .u32 guess)) e21
theorem EL (k v n j guess borrow t t2 q u):iz k v n j guess borrow t t2 q u=Bl iz mX fJ k v n j guess borrow t t2 q u:=(l1 153 2 _).trans (by kernel_rfl)
def Bm (Hc:ae mX)(vq:ae fJ)(k:Int)(v:List Int)(n:Int)(j:Int)(guess:Int)(x:Int)(carry:Int)(t:Int)(t2:Int)(q:List Int)(u:List Int):Option ((List Int)×List Int):=
 bif (decide (t2<t)) then
  (idx u (IntKind.wrap .i64 (t2+j))).bind fun _=>
  (u[(IntKind.wrap .i64 (t2+j)).toNat]?).bind fun v0=>
  (idx v t2).bind fun v1=>
  let e2:Int:=(IntKind.wrap .u32 ((IntKind.wrap .u32 (v0+v1))+carry))
  (idx u (IntKind.wrap .i64 (t2+j))).bind fun _=>
  (u[(IntKind.wrap .i64 (t2+j)).toNat]?).bind fun v3=>
  let e4:List Int:=(u.set (IntKind.wrap .i64 (t2+j)).toNat (e2.tmod 1000000000))
  Hc k v n j guess x (IntKind.wrap .u32 (e2.tdiv 1000000000)) t (IntKind.wrap .i64 (t2+1)) q e4
 else
  let e5:Int:=(IntKind.wrap .i64 (x+(IntKind.wrap .i64 carry)))
  (idx u (IntKind.wrap .i64 (j+n))).bind fun _=>
  (u[(IntKind.wrap .i64 (j+n)).toNat]?).bind fun v6=>
  let e7:List Int:=(u.set (IntKind.wrap .i64 (j+n)).toNat 0)
  (idx q j).bind fun _=>
  (q[j.toNat]?).bind fun v8=>
  vq k v n (IntKind.wrap .i64 (j - 1)) (q.set j.toNat (IntKind.wrap .u32 guess)) e7
theorem EM (k v n j guess x carry t t2 q u):mX k v n j guess x carry t t2 q u=Bm mX fJ k v n j guess x carry t t2 q u:=(l1 153 3 _).trans (by kernel_rfl)
def Pl (vq:ae fJ)(Q4:ae AE)(sT:ae oo)(a:List Int)(b:List Int):Option ((List Int)×List Int):=
 let e0:Int:=(IntKind.wrap .i64 ((b.length:Int) - 1))
 (idx b e0).bind fun v1=>
 let e2:Int:=(IntKind.wrap .u64 ((IntKind.wrap .u64 v1)+1))
 bif (!(e2==0)) then
 let e3:Int:=(IntKind.wrap .u32 (IntKind.wrap .u64 ((1000000000:Int).tdiv e2)))
 (Q4 a e3).bind fun r4=>
 (Q4 b e3).bind fun r5=>
 (sT r5).bind fun r6=>
 let e7:Int:=(IntKind.wrap .i64 ((r4.length:Int) - (r6.length:Int)))
 bif (gK 4 e7 e7) then
 let e8:Int:=(IntKind.wrap .i64 ((r4.length:Int) - (r6.length:Int)))
 vq e3 r6 (r6.length:Int) (IntKind.wrap .i64 (e8 - 1)) (List.replicate e7.toNat 0) r4
 else none
 else none
theorem TN (a b):HO a b=Pl fJ AE oo a b:=(e1 153 _).trans (by kernel_rfl)
def AN (Pm:ae adb)(a:Bool×(List Int)×Unit):Option (Bool):=
 (Pm (a.1,(a.2.1,()))).bind fun r0=>
 some (decide (r0>1000))
theorem Gl (a):ou a=AN adb a:=(e1 164 _).trans (by kernel_rfl)
def vT (CE:ae kQ)(k:Int)(carry:Int)(t:List Int)(t2:Int)(t3:Int)(out:List Int):Option (List Int):=
 bif (decide (t3<t2)) then
  (idx t t3).bind fun v0=>
  let e1:Int:=(IntKind.wrap .u64 ((IntKind.wrap .u64 v0)*(IntKind.wrap .u64 k)))
  let e2:Int:=((IntKind.wrap .u64 (carry+e1)).tmod 1000000000)
  bif (aP 4 1 out.length 1) then
  let e3:Int:=(IntKind.wrap .u64 ((IntKind.wrap .u64 (carry+e1)).tdiv 1000000000))
  CE k e3 t t2 (IntKind.wrap .i64 (t3+1)) (out++([(IntKind.wrap .u32 e2)]:List Int))
  else none
 else
  bif (aP 4 1 out.length 1) then
  let e4:List Int:=(out++([(IntKind.wrap .u32 carry)]:List Int))
  some e4
  else none
theorem AO (k carry t t2 t3 out):kQ k carry t t2 t3 out=vT kQ k carry t t2 t3 out:=(l1 170 0 _).trans (by kernel_rfl)
def JF (CE:ae kQ)(a:List Int)(k:Int):Option (List Int):=
 let e0:Int:=(IntKind.wrap .i64 ((a.length:Int)+1))
 bif (gK 4 0 e0) then
 CE k 0 a (a.length:Int) 0 ([]:List Int)
 else none
theorem Oq (a k):AE a k=JF kQ a k:=(e1 170 _).trans (by kernel_rfl)
def qL (qM:ae eA)(n:Int)(x:Int):Option (Int):=
 bif (decide (x>0)) then
  qM (IntKind.wrap .i64 (n+1)) (IntKind.wrap .u32 (x.tdiv 10))
 else
  some n
theorem yJ (n x):eA n x=qL eA n x:=(l1 176 0 _).trans (by kernel_rfl)
def wk (qM:ae eA)(a:Bool×(List Int)×Unit):Option (Int):=
 bif ((a.2.1.length:Int)==0) then
  some 0
 else
  let e0:Int:=(IntKind.wrap .i64 ((a.2.1.length:Int) - 1))
  let e1:Int:=(IntKind.wrap .i64 ((a.2.1.length:Int) - 1))
  (idx a.2.1 e1).bind fun v2=>
  qM (IntKind.wrap .i64 (9*e0)) v2
theorem C2 (a):adb a=wk eA a:=(e1 176 _).trans (by kernel_rfl)
end
end Go.Proofs.YtofjebmoebhiiaaGreatDoor.Ev
namespace Go.Proofs.YtofjebmoebhiiaaGreatDoor.Ev
open Go.Abs
noncomputable section
def Hd (ZP:ae Ej)(a:ByteArray):Option (Bool):=
 (ZP a).bind fun r0=>
 some r0.2
theorem LM (a):xb a=Hd Ej a:=(e1 68 _).trans (by kernel_rfl)
def JH (vn:ae jD)(SI:ae oq)(a:ByteArray):Option (((Bool×(List Int)×Unit)×(Bool×(List Int)×Unit)×Unit)×Bool):=
 (vn a).bind fun r0=>
 bif r0.2 then
  (SI ((r0.1.1.1,(r0.1.1.2.1,())),((r0.1.2.1.1,(r0.1.2.1.2.1,())),()))).bind fun r1=>
  some (((r0.1.1.1,(r0.1.1.2.1,())),((r0.1.2.1.1,(r0.1.2.1.2.1,())),())),(!r1))
 else
  some (((r0.1.1.1,(r0.1.1.2.1,())),((r0.1.2.1.1,(r0.1.2.1.2.1,())),())),false)
theorem Ot (a):Ej a=JH jD oq a:=(e1 108 _).trans (by kernel_rfl)
end
end Go.Proofs.YtofjebmoebhiiaaGreatDoor.Ev
namespace Go.Proofs.YtofjebmoebhiiaaGreatDoor.Ev
open Go.Abs
noncomputable section
def afJ (JI:ae jH)(s:bX)(f:Int):Option (Bool):=
 (JI s f).bind fun r0=>
 some (decide (r0≥0))
theorem ug (s f):fw s f=afJ jH s f:=(e1 100070 _).trans (by kernel_rfl)
def afK (JJ:ae jI)(s:bX)(f:gi×zqC):Option (Bool):=
 (JJ s ((f.1.1,(f.1.2.1,())),(f.2.1,(f.2.2.1,(f.2.2.2.1,()))))).bind fun r0=>
 some (decide (r0≥0))
theorem uh (s f):fx s f=afK jI s f:=(e1 100071 _).trans (by kernel_rfl)
def iI (mF:ae cC)(UB:ae vh)(s:bX)(f:Int)(t:Int)(t2:Int):Option (Int):=
 bif (decide (t2<t)) then
  (idx s t2).bind fun v0=>
  (UB (v0.1,(v0.2.1,())) f).bind fun r1=>
  bif r1 then
   some t2
  else
   mF s f t (IntKind.wrap .i64 (t2+1))
 else
  some (-1)
theorem lv (s f t t2):cC s f t t2=iI cC vh s f t t2:=(l1 100109 0 _).trans (by kernel_rfl)
def pz (mF:ae cC)(s:bX)(f:Int):Option (Int):=
 mF s f (s.length:Int) 0
theorem xm (s f):jH s f=pz cC s f:=(e1 100109 _).trans (by kernel_rfl)
def iJ (mG:ae cD)(UC:ae vi)(s:bX)(f:Int)(f2:tB)(f3:Int)(f4:ByteArray)(f5:bX)(t:Int)(t2:Int):Option (Int):=
 bif (decide (t2<t)) then
  (idx s t2).bind fun v0=>
  (UC (v0.1,(v0.2.1,())) (f,(f2,())) (f3,(f4,(f5,())))).bind fun r1=>
  bif r1 then
   some t2
  else
   mG s f f2 f3 f4 f5 t (IntKind.wrap .i64 (t2+1))
 else
  some (-1)
theorem lx (s f f2 f3 f4 f5 t t2):cD s f f2 f3 f4 f5 t t2=iJ cD vi s f f2 f3 f4 f5 t t2:=(l1 100110 0 _).trans (by kernel_rfl)
def pA (mG:ae cD)(s:bX)(f:gi×zqC):Option (Int):=
 mG s f.1.1 f.1.2.1 f.2.1 f.2.2.1 f.2.2.2.1 (s.length:Int) 0
theorem xn (s f):jI s f=pA cD s f:=(e1 100110 _).trans (by kernel_rfl)
end
end Go.Proofs.YtofjebmoebhiiaaGreatDoor.Ev
namespace Go.Proofs.YtofjebmoebhiiaaGreatDoor.Ev
open Go.Abs
noncomputable section
def Hh (Q5:ae qm)(s:ByteArray)(sep:ByteArray):Option (ByteArray×ByteArray×Bool):=
 (Q5 s sep).bind fun r0=>
 some (r0.1,r0.2.1,r0.2.2)
theorem LN (s sep):xd s sep=Hh qm s sep:=(e1 75 _).trans (by kernel_rfl)
def uI (Ij:ae iQ)(s:ByteArray)(fY:ByteArray):Option (ByteArray×Bool):=
 (Ij s fY).bind fun r0=>
 some (r0.1,r0.2)
theorem BS (s fY):jR s fY=uI iQ s fY:=(e1 112 _).trans (by kernel_rfl)
end
end Go.Proofs.YtofjebmoebhiiaaGreatDoor.Ev
namespace Go.Proofs.YtofjebmoebhiiaaGreatDoor.Ev
open Go.Abs
noncomputable section
def yM (No:ae jU)(s:ByteArray)(sep:ByteArray):Option (ByteArray×ByteArray×Bool):=
 (No s sep).bind fun r0=>
 bif (decide (r0≥0)) then
  bif (dN s.size 0 r0) then
  bif (dN s.size (IntKind.wrap .i64 (r0+(sep.size:Int))) (s.size:Int)) then
  let e1:ByteArray:=(s.extract (IntKind.wrap .i64 (r0+(sep.size:Int))).toNat (s.size:Int).toNat)
  some ((s.extract (0:Int).toNat r0.toNat),e1,true)
  else none
  else none
 else
  some (s,ByteArray.empty,false)
theorem EO (s sep):qm s sep=yM jU s sep:=(e1 111 _).trans (by kernel_rfl)
def uJ (Ik:ae fO)(s:ByteArray)(substr:ByteArray):Option (Int):=
 bif ((substr.size:Int)==0) then
  some 0
 else
  bif (substr.toList==s.toList) then
   some 0
  else
   bif ((substr.size:Int)==1) then
    (uw substr 0).bind fun v0=>
    (Ik s v0).bind fun r1=>
    some r1
   else
    bif (decide ((substr.size:Int)≥(s.size:Int))) then
    some (-1)
    else none
theorem BT (s substr):jU s substr=uJ fO s substr:=(e1 150 _).trans (by kernel_rfl)
def oC (Il:ae iS)(s:ByteArray)(fY:ByteArray):Option (ByteArray×Bool):=
 (Il s fY).bind fun r0=>
 bif (!r0) then
  some (s,false)
 else
  bif (dN s.size (fY.size:Int) (s.size:Int)) then
  let e1:ByteArray:=(s.extract (fY.size:Int).toNat (s.size:Int).toNat)
  some (e1,true)
  else none
theorem vv (s fY):iQ s fY=oC iS s fY:=(e1 151 _).trans (by kernel_rfl)
def oD (s:ByteArray)(fY:ByteArray):Option (Bool):=
 bif (decide ((s.size:Int)≥(fY.size:Int))) then
  bif (dN s.size 0 (fY.size:Int)) then
  let e0:ByteArray:=(s.extract (0:Int).toNat (fY.size:Int).toNat)
  some (e0.toList==fY.toList)
  else none
 else
  some false
theorem vw (s fY):iS s fY=oD s fY:=(e1 169 _).trans (by kernel_rfl)
end
end Go.Proofs.YtofjebmoebhiiaaGreatDoor.Ev
namespace Go.Proofs.YtofjebmoebhiiaaGreatDoor.Ev
open Go.Abs
noncomputable section
def sV (sW:ae iV)(t:tB)(t2:Int)(t3:Int):Option (Bool):=
 bif (decide (t3<t2)) then
  (idx t t3).bind fun v0=>
  bif (decide ((v0.2.2.1.length:Int)>40)) then
   some true
  else
   bif (decide ((v0.2.1.size:Int)>200)) then
    some true
   else
    sW t t2 (IntKind.wrap .i64 (t3+1))
 else
  some false
theorem ah6 (t t2 t3):iV t t2 t3=sV iV t t2 t3:=(l1 12 0 _).trans (by kernel_rfl)
def Gn (sW:ae iV)(c:gi)(most:Int):Option (Bool):=
 bif (decide ((c.2.1.length:Int)>most)) then
  some true
 else
  sW c.2.1 (c.2.1.length:Int) 0
theorem Ps (c most):vN c most=Gn iV c most:=(e1 12 _).trans (by kernel_rfl)
end
end Go.Proofs.YtofjebmoebhiiaaGreatDoor.Ev
namespace Go.Proofs.YtofjebmoebhiiaaGreatDoor.Ev
open Go.Abs
noncomputable section
def ac0 (aaK:ae D1)(Pv:ae oe)(Pt:ae tD)(Q6:ae vO)(ajL:ae ae6)(gX:ae dA)(wu:ae gj)(t:Nat)(t2:Int)(t3:Int)(hp9:H9):Option (Bool):=
 bif (decide (t3<t2)) then
  (af hp9 t).bind fun v0=>
  (idx v0 t3).bind fun _=>
  (af hp9 t).bind fun v1=>
  (v1[t3.toNat]?).bind fun v2=>
  (Pv (v2.1,(v2.2.1,()))).bind fun r3=>
  (Pt (v2.1,(v2.2.1,()))).bind fun r4=>
  bif (r4 != 0) then
   bif (r3.2.2 != r4) then
    some false
   else
    (Q6 r3.1 (r3.2.1.1,(r3.2.1.2.1,()))).bind fun r5=>
    bif (!r5) then
     some false
    else
     aaK t t2 (IntKind.wrap .i64 (t3+1)) hp9
  else
   (ajL (v2.1,(v2.2.1,()))).bind fun r6=>
   bif (r3.2.2 != 0) then
    some false
   else
    (gX r3.1 r6.1).bind fun r7=>
    bif (!r7) then
     some false
    else
     bif (!(zP yT (r3.2.1.1,(r3.2.1.2.1,())) (r6.2.1,(r6.2.2,())))) then
      some false
     else
      aaK t t2 (IntKind.wrap .i64 (t3+1)) hp9
 else
  wu.bind fun r8=>
  some r8
theorem adf (t t2 t3 hp9):D1 t t2 t3 hp9=ac0 D1 oe tD vO ae6 dA gj t t2 t3 hp9:=(l1 6 0 _).trans (by kernel_rfl)
def adV (aaK:ae D1)(Q7:ae vN)(wu:ae gj)(Pu:ae tC)(c:gi)(raw:(List (List Int))×(List Int)×Int×(List Int)×Unit):Option (Bool):=
 (Q7 (c.1,(c.2.1,())) 40).bind fun r0=>
 bif r0 then
  wu.bind fun r1=>
  some r1
 else
  (Pu (raw.1,(raw.2.1,(raw.2.2.1,(raw.2.2.2.1,())))) 30).bind fun r2=>
  let e3:H9:=(([]:H9)++[some ([(c.1,(c.2.1,())),(r2.1,(r2.2.1,()))]:List gi)])
  let e4:Nat:=(([]:H9).length+1:Nat)
  (af e3 e4).bind fun v5=>
  aaK e4 (v5.length:Int) 0 e3
theorem ahf (c raw):ac4 c raw=adV D1 vN gj tC c raw:=(e1 6 _).trans (by kernel_rfl)
def EP (afn:ae ll)(AR:ae gQ)(Xw:ae BE)(Pv:ae oe)(Jy:ae wa)(gX:ae dA)(LO:ae yq)(xo:ae iO):Option (Bool):=
 let e0:bX:=([(0,((-1),())),(1,(3,())),(2,(4,())),(5,(6,()))]:bX)
 afn.bind fun r1=>
 (AR (r1.1,(r1.2.1,()))).bind fun r2=>
 afn.bind fun r3=>
 (Xw (r3.1,(r3.2.1,()))).bind fun r4=>
 afn.bind fun r5=>
 (Pv (r5.1,(r5.2.1,()))).bind fun r6=>
 afn.bind fun r7=>
 (Jy (r7.1,(r7.2.1,()))).bind fun r8=>
 bif (r2.2.2==0) then
  bif (r4.2.2==0) then
   bif (r6.2.2==0) then
    bif (r8.2==0) then
     (gX r2.1 e0).bind fun r9=>
     bif r9 then
      (gX r4.1 e0).bind fun Qb=>
      bif Qb then
       (gX r6.1 e0).bind fun r11=>
       bif r11 then
        bif (zP yT (r2.2.1.1,(r2.2.1.2.1,())) (2,(0,()))) then
         bif (zP yT (r4.2.1.1,(r4.2.1.2.1,())) (0,(3,()))) then
          bif (zP yT (r6.2.1.1,(r6.2.1.2.1,())) (2,(3,()))) then
           bif ((r8.1.2.1.length:Int)==7) then
            (idx r8.1.2.1 0).bind fun v12=>
            bif (v12.1==2) then
             (idx r8.1.2.1 1).bind fun RP=>
             bif (RP.2.1.toList==(bs [45,50]).toList) then
              (idx r8.1.2.1 1).bind fun I3=>
              (LO ([0,(2:Int)]:List Int)).bind fun TO=>
              (xo I3.2.2.1 TO).bind fun r16=>
              bif r16 then
               (idx r8.1.2.1 4).bind fun v17=>
               bif (v17.1==4) then
                (idx r8.1.2.1 4).bind fun J9=>
                bif (J9.2.1.toList==(bs [45,49,47,50]).toList) then
                 (idx r8.1.2.1 4).bind fun v19=>
                 let Qd:List Int:=([1,(1:Int),(2:Int),(1:Int)]:List Int)
                 (LO Qd).bind fun r21=>
                 (xo v19.2.2.1 r21).bind fun r22=>
                 some r22
                else
                 some false
               else
                some false
              else
               some false
             else
              some false
            else
             some false
           else
            some false
          else
           some false
         else
          some false
        else
         some false
       else
        some false
      else
       some false
     else
      some false
    else
     some false
   else
    some false
  else
   some false
 else
  some false
theorem Np:gj=EP ll gQ BE oe wa dA yq iO:=(Ju T B lf 13 ()).trans (by kernel_rfl)
def Gp (l:bX)(w:Int×Int×Unit):Option (Bool):=
 bif ((l.length:Int)==0) then
  some (zP yT (w.1,(w.2.1,())) (0,(0,())))
 else
  some false
theorem Pw (l w):vO l w=Gp l w:=(e1 21 _).trans (by kernel_rfl)
def BU (CJ:ae kK):Option gi:=
 let e0:List ((List Int)×ByteArray×Unit):=([(([0]:List Int),((bs [48]),())),(([1]:List Int),((bs [48]),())),(([2]:List Int),((bs [49,47,50]),())),(([0,(1:Int)]:List Int),((bs [49]),())),(([1,(2:Int)]:List Int),((bs [49]),())),(([0,(2:Int)]:List Int),((bs [50]),())),(([0,(1:Int),(2:Int)]:List Int),((bs [51]),()))]:List ((List Int)×ByteArray×Unit))
 (CJ e0 3).bind fun r1=>
 some (r1.1.1,(r1.1.2.1,()))
theorem KI:ll=BU kK:=(Ju T B lf 28 ()).trans (by kernel_rfl)
def Gq (yN:ae j8)(l:List Int)(i:Int)(out:bX):Option bX:=
 bif (decide ((IntKind.wrap .i64 (i+1))<(l.length:Int))) then
  (idx l i).bind fun v0=>
  (idx l (IntKind.wrap .i64 (i+1))).bind fun v1=>
  bif (aP 16 2 out.length 1) then
  let e2:bX:=(out++([(v0,(v1,()))]:bX))
  yN l (IntKind.wrap .i64 (i+2)) e2
  else none
 else
  some out
theorem Px (l i out):j8 l i out=Gq j8 l i out:=(l1 31 0 _).trans (by kernel_rfl)
def LP (yN:ae j8)(l:List Int):Option bX:=
 yN l 0 ([]:bX)
theorem UD (l):yq l=LP j8 l:=(e1 31 _).trans (by kernel_rfl)
end
end Go.Proofs.YtofjebmoebhiiaaGreatDoor.Ev
namespace Go.Proofs.YtofjebmoebhiiaaGreatDoor.Ev
open Go.Abs
noncomputable section
def qR (ay:ae aD)(aI:ae aA)(a:ByteArray):Option (ByteArray):=
 (ay a).bind fun r0=>
 (aI (!r0.1) r0.2).bind fun r1=>
 some r1
theorem yO (a):aaJ a=qR aD aA a:=(e1 66 _).trans (by kernel_rfl)
def sX (ay:ae aD)(gY:ae dQ)(a:ByteArray)(b:ByteArray):Option (Int):=
 (ay a).bind fun r0=>
 (ay b).bind fun r1=>
 bif (!(r0.1==r1.1)) then
  bif r0.1 then
   some (-1)
  else
   some 1
 else
  bif r0.1 then
   (gY r1.2 r0.2).bind fun r2=>
   some r2
  else
   (gY r0.2 r1.2).bind fun r3=>
   some r3
theorem ah7 (a b):cg a b=sX aD dQ a b:=(e1 104 _).trans (by kernel_rfl)
def lR (qS:ae ee)(qT:ae dh)(p:Bool)(x:List Int)(q:Bool)(y:List Int)(i:Int)(out:List Int):Option (ByteArray):=
 bif (decide (i<(x.length:Int))) then
  qS p x q y i 0 out
 else
  qT p q 0 out
theorem pB (p x q y i out):bW p x q y i out=lR ee dh p x q y i out:=(l1 105 0 _).trans (by kernel_rfl)
def lS (qS:ae ee)(lT:ae bW)(p:Bool)(x:List Int)(q:Bool)(y:List Int)(i:Int)(k:Int)(out:List Int):Option (ByteArray):=
 bif (decide (k<(y.length:Int))) then
  (idx out (IntKind.wrap .i64 (i+k))).bind fun _=>
  (out[(IntKind.wrap .i64 (i+k)).toNat]?).bind fun v0=>
  (idx x i).bind fun v1=>
  (idx y k).bind fun v2=>
  let e3:Int:=(IntKind.wrap .i64 (v0+(IntKind.wrap .i64 (v1*v2))))
  (idx out (IntKind.wrap .i64 (i+k))).bind fun _=>
  (out[(IntKind.wrap .i64 (i+k)).toNat]?).bind fun v4=>
  qS p x q y i (IntKind.wrap .i64 (k+1)) (out.set (IntKind.wrap .i64 (i+k)).toNat e3)
 else
  lT p x q y (IntKind.wrap .i64 (i+1)) out
theorem pC (p x q y i k out):ee p x q y i k out=lS ee bW p x q y i k out:=(l1 105 1 _).trans (by kernel_rfl)
def lU (qT:ae dh)(aI:ae aA)(p:Bool)(q:Bool)(i:Int)(out:List Int):Option (ByteArray):=
 bif (decide ((IntKind.wrap .i64 (i+1))<(out.length:Int))) then
  (idx out (IntKind.wrap .i64 (i+1))).bind fun _=>
  (out[(IntKind.wrap .i64 (i+1)).toNat]?).bind fun v0=>
  (idx out i).bind fun _=>
  (out[i.toNat]?).bind fun v1=>
  let e2:Int:=(IntKind.wrap .i64 (v0+(IntKind.wrap .i64 (v1.tdiv 10))))
  (idx out (IntKind.wrap .i64 (i+1))).bind fun _=>
  (out[(IntKind.wrap .i64 (i+1)).toNat]?).bind fun v3=>
  let e4:List Int:=(out.set (IntKind.wrap .i64 (i+1)).toNat e2)
  (idx e4 i).bind fun _=>
  (e4[i.toNat]?).bind fun v5=>
  (idx e4 i).bind fun _=>
  (e4[i.toNat]?).bind fun v6=>
  qT p q (IntKind.wrap .i64 (i+1)) (e4.set i.toNat (v5.tmod 10))
 else
  (aI (!(p==q)) out).bind fun r7=>
  some r7
theorem pD (p q i out):dh p q i out=lU dh aA p q i out:=(l1 105 2 _).trans (by kernel_rfl)
def wy (lT:ae bW)(fe:ae dZ)(bm:ae b8)(ay:ae aD)(a:ByteArray)(b:ByteArray):Option (ByteArray):=
 (fe a).bind fun r0=>
 (fe b).bind fun r1=>
 bif r0.2 then
  bif r1.2 then
   (bm (IntKind.wrap .i64 (r0.1*r1.1))).bind fun r2=>
   some r2
  else
   (ay a).bind fun r3=>
   (ay b).bind fun r4=>
   let e5:Int:=(IntKind.wrap .i64 ((r3.2.length:Int)+(r4.2.length:Int)))
   bif (gK 8 (IntKind.wrap .i64 (e5+1)) (IntKind.wrap .i64 (e5+1))) then
   let e6:List Int:=(List.replicate (IntKind.wrap .i64 (e5+1)).toNat 0)
   lT r3.1 r3.2 r4.1 r4.2 0 e6
   else none
 else
  (ay a).bind fun r7=>
  (ay b).bind fun r8=>
  let e9:Int:=(IntKind.wrap .i64 ((r7.2.length:Int)+(r8.2.length:Int)))
  bif (gK 8 (IntKind.wrap .i64 (e9+1)) (IntKind.wrap .i64 (e9+1))) then
  let ZD:List Int:=(List.replicate (IntKind.wrap .i64 (e9+1)).toNat 0)
  lT r7.1 r7.2 r8.1 r8.2 0 ZD
  else none
theorem C3 (a b):gz a b=wy bW dZ b8 aD a b:=(e1 105 _).trans (by kernel_rfl)
def ky (gZ:ae dD)(dz:ae bJ)(a:ByteArray)(minus:Bool)(i:Int)(d:List Int):Option (Bool×List Int):=
 bif (decide (i≥0)) then
  (uw a i).bind fun v0=>
  bif (v0 != 45) then
   (uw a i).bind fun v1=>
   let e2:Int:=(IntKind.wrap .i64 ((IntKind.wrap .i64 v1) - 48))
   bif (aP 8 1 d.length 1) then
   gZ a minus (IntKind.wrap .i64 (i - 1)) (d++([e2]:List Int))
   else none
  else
   gZ a minus (IntKind.wrap .i64 (i - 1)) d
 else
  (dz d).bind fun r3=>
  some (minus,r3)
theorem oE (a minus i d):dD a minus i d=ky dD bJ a minus i d:=(l1 106 0 _).trans (by kernel_rfl)
def uK (gZ:ae dD)(a:ByteArray):Option (Bool×List Int):=
 bif (decide ((a.size:Int)>0)) then
  (uw a 0).bind fun v0=>
  gZ a (v0==45) (IntKind.wrap .i64 ((a.size:Int) - 1)) ([]:List Int)
 else
  gZ a false (IntKind.wrap .i64 ((a.size:Int) - 1)) ([]:List Int)
theorem BV (a):aD a=uK dD a:=(e1 106 _).trans (by kernel_rfl)
def afv (na:ae eT)(d:List Int)(i:Int)(out:List Int):Option (ByteArray):=
 bif (decide (i≥0)) then
  (idx d i).bind fun v0=>
  let e1:Int:=(IntKind.wrap .u8 (IntKind.wrap .i64 (48+v0)))
  bif (aP 1 1 out.length 1) then
  na d (IntKind.wrap .i64 (i - 1)) (out++([e1]:List Int))
  else none
 else
  some (strOf out)
theorem qU (d i out):eT d i out=afv eT d i out:=(l1 107 0 _).trans (by kernel_rfl)
def yP (na:ae eT)(dz:ae bJ)(minus:Bool)(d:List Int):Option (ByteArray):=
 (dz d).bind fun r0=>
 bif ((r0.length:Int)==0) then
  some (bs [48])
 else
  bif minus then
   bif (aP 1 1 0 1) then
   let e1:Int:=(IntKind.wrap .i64 ((r0.length:Int) - 1))
   na r0 e1 (([]:List Int)++([45]:List Int))
   else none
  else
   let e2:Int:=(IntKind.wrap .i64 ((r0.length:Int) - 1))
   na r0 e2 ([]:List Int)
theorem ER (minus d):aA minus d=yP eT bJ minus d:=(e1 107 _).trans (by kernel_rfl)
def kz (pE:ae dF)(aI:ae aA)(q:Int)(d:List Int):Option (ByteArray):=
 bif (decide (q>0)) then
  bif (aP 8 1 d.length 1) then
  pE (IntKind.wrap .i64 (q.tdiv 10)) (d++([(q.tmod 10)]:List Int))
  else none
 else
  (aI true d).bind fun r0=>
  some r0
theorem oF (q d):dF q d=kz dF aA q d:=(l1 139 0 _).trans (by kernel_rfl)
def kA (pF:ae dG)(aI:ae aA)(n:Int)(d:List Int):Option (ByteArray):=
 bif (decide (n>0)) then
  bif (aP 8 1 d.length 1) then
  pF (IntKind.wrap .i64 (n.tdiv 10)) (d++([(n.tmod 10)]:List Int))
  else none
 else
  (aI false d).bind fun r0=>
  some r0
theorem oG (n d):dG n d=kA dG aA n d:=(l1 139 1 _).trans (by kernel_rfl)
def uL (pE:ae dF)(pF:ae dG)(n:Int):Option (ByteArray):=
 bif (decide (n<0)) then
  let e0:List Int:=([(IntKind.wrap .i64 (0 - (n.tmod 10)))]:List Int)
  bif (aP 8 1 0 1) then
  let e1:Int:=(IntKind.wrap .i64 (0 - (IntKind.wrap .i64 (n.tdiv 10))))
  pE e1 (([]:List Int)++e0)
  else none
 else
  pF n ([]:List Int)
theorem BW (n):b8 n=uL dF dG n:=(e1 139 _).trans (by kernel_rfl)
def yQ (uM:ae fK)(a:ByteArray):Option (Bool):=
 (uM a).bind fun r0=>
 some (decide (r0>1000))
theorem ES (a):kc a=yQ fK a:=(e1 143 _).trans (by kernel_rfl)
def lV (bU:ae di)(s:ByteArray)(i:Int):Option (Bool):=
 bif (decide (i<(s.size:Int))) then
  (uw s i).bind fun v0=>
  bif (decide (v0<48)) then
   some false
  else
   (uw s i).bind fun v1=>
   bif (decide (v1>57)) then
    some false
   else
    bU s (IntKind.wrap .i64 (i+1))
 else
  some true
theorem pG (s i):di s i=lV di s i:=(l1 144 0 _).trans (by kernel_rfl)
def wz (bU:ae di)(a:ByteArray):Option (Bool):=
 bif (decide ((a.size:Int)>0)) then
  (uw a 0).bind fun v0=>
  bif (v0==45) then
   bif (dN a.size 1 (a.size:Int)) then
   let e1:Int:=((a.extract (1:Int).toNat (a.size:Int).toNat).size:Int)
   bif (decide (e1>0)) then
    (uw (a.extract (1:Int).toNat (a.size:Int).toNat) 0).bind fun v2=>
    bif (v2==48) then
     some false
    else
     let e3:Int:=((a.extract (1:Int).toNat (a.size:Int).toNat).size:Int)
     bif (e3==0) then
      some false
     else
      (uw (a.extract (1:Int).toNat (a.size:Int).toNat) 0).bind fun v4=>
      bif (v4==48) then
       let e5:Int:=((a.extract (1:Int).toNat (a.size:Int).toNat).size:Int)
       bif (decide (e5>1)) then
        some false
       else
        bU (a.extract (1:Int).toNat (a.size:Int).toNat) 0
      else
       bU (a.extract (1:Int).toNat (a.size:Int).toNat) 0
   else
    let e6:Int:=((a.extract (1:Int).toNat (a.size:Int).toNat).size:Int)
    bif (e6==0) then
     some false
    else
     (uw (a.extract (1:Int).toNat (a.size:Int).toNat) 0).bind fun v7=>
     bif (v7==48) then
      let e8:Int:=((a.extract (1:Int).toNat (a.size:Int).toNat).size:Int)
      bif (decide (e8>1)) then
       some false
      else
       bU (a.extract (1:Int).toNat (a.size:Int).toNat) 0
     else
      bU (a.extract (1:Int).toNat (a.size:Int).toNat) 0
   else none
  else
   bif ((a.size:Int)==0) then
    some false
   else
    (uw a 0).bind fun v9=>
    bif (v9==48) then
     bif (decide ((a.size:Int)>1)) then
      some false
     else
      bU a 0
    else
     bU a 0
 else
  bif ((a.size:Int)==0) then
   some false
  else
   (uw a 0).bind fun v10=>
   bif (v10==48) then
    bif (decide ((a.size:Int)>1)) then
     some false
    else
     bU a 0
   else
    bU a 0
theorem C4 (a):k8 a=wz di a:=(e1 144 _).trans (by kernel_rfl)
def oH (oI:ae dd)(fP:ae acr)(x:ByteArray)(y:ByteArray):Option (ByteArray):=
 bif (!(y.toList==(bs [48]).toList)) then
  (fP x y).bind fun r0=>
  oI y r0.2
 else
  some x
theorem vx (x y):dd x y=oH dd acr x y:=(l1 145 0 _).trans (by kernel_rfl)
def sY (oI:ae dd)(ah8:ae iu)(a:ByteArray)(b:ByteArray):Option (ByteArray):=
 (ah8 a).bind fun r0=>
 (ah8 b).bind fun r1=>
 oI r0 r1
theorem ah9 (a b):eW a b=sY dd iu a b:=(e1 145 _).trans (by kernel_rfl)
def nb (sZ:ae eX)(a:List Int)(b:List Int)(i:Int):Option (Int):=
 bif (decide (i≥0)) then
  (idx a i).bind fun v0=>
  (idx b i).bind fun v1=>
  bif (decide (v0<v1)) then
   some (-1)
  else
   (idx a i).bind fun v2=>
   (idx b i).bind fun v3=>
   bif (decide (v2>v3)) then
    some 1
   else
    sZ a b (IntKind.wrap .i64 (i - 1))
 else
  some 0
theorem qV (a b i):eX a b i=nb eX a b i:=(l1 146 0 _).trans (by kernel_rfl)
def yS (sZ:ae eX)(a:List Int)(b:List Int):Option (Int):=
 bif ((a.length:Int) != (b.length:Int)) then
  bif (decide ((a.length:Int)<(b.length:Int))) then
   some (-1)
  else
   some 1
 else
  let e0:Int:=(IntKind.wrap .i64 ((a.length:Int) - 1))
  sZ a b e0
theorem ET (a b):dQ a b=yS eX a b:=(e1 146 _).trans (by kernel_rfl)
def lW (lX:ae ab5)(a:ByteArray)(n:Int)(i:Int):Option (Int×Bool):=
 bif (decide (i<(a.size:Int))) then
  (uw a i).bind fun v0=>
  bif (v0 != 45) then
   (uw a i).bind fun v1=>
   let e2:Int:=(IntKind.wrap .i64 ((IntKind.wrap .i64 (10*n))+(IntKind.wrap .i64 v1)))
   lX a (IntKind.wrap .i64 (e2 - 48)) (IntKind.wrap .i64 (i+1))
  else
   lX a n (IntKind.wrap .i64 (i+1))
 else
  bif (decide ((a.size:Int)>0)) then
   (uw a 0).bind fun v3=>
   bif (v3==45) then
    some ((IntKind.wrap .i64 (0 - n)),true)
   else
    some (n,true)
  else
   some (n,true)
theorem pH (a n i):ab5 a n i=lW ab5 a n i:=(l1 147 0 _).trans (by kernel_rfl)
def wA (lX:ae ab5)(uM:ae fK)(a:ByteArray):Option (Int×Bool):=
 (uM a).bind fun r0=>
 bif (decide (r0>9)) then
  some (0,false)
 else
  lX a 0 0
theorem C5 (a):dZ a=wA ab5 fK a:=(e1 147 _).trans (by kernel_rfl)
def nc (s0:ae eY)(d:List Int):Option (List Int):=
 bif (decide ((d.length:Int)>0)) then
  let e0:Int:=(IntKind.wrap .i64 ((d.length:Int) - 1))
  (idx d e0).bind fun v1=>
  bif (v1==0) then
   let e2:Int:=(IntKind.wrap .i64 ((d.length:Int) - 1))
   bif (dN d.length 0 e2) then
   s0 (cut d 0 e2)
   else none
  else
   some d
 else
  some d
theorem qW (d):eY d=nc eY d:=(l1 148 0 _).trans (by kernel_rfl)
def yU (s0:ae eY)(d:List Int):Option (List Int):=
 s0 d
theorem EU (d):bJ d=yU eY d:=(e1 148 _).trans (by kernel_rfl)
def jq (ny:ae cX)(nz:ae aT)(dz:ae bJ)(b:ByteArray)(p:Bool)(x:List Int)(s:Bool)(y:List Int)(r:List Int)(i:Int)(q:List Int):Option (ByteArray×ByteArray):=
 bif (decide (i≥0)) then
  (idx x i).bind fun v0=>
  bif (aP 8 1 1 r.length) then
  (dz (([v0]:List Int)++r)).bind fun r1=>
  ny b p x s y r1 i 0 q
  else none
 else
  nz b p s r 0 q
theorem mH (b p x s y r i q):bN b p x s y r i q=jq cX aT bJ b p x s y r i q:=(l1 161 0 _).trans (by kernel_rfl)
def nA (ny:ae cX)(jr:ae bN)(gY:ae dQ)(eO:ae bw)(b:ByteArray)(p:Bool)(x:List Int)(s:Bool)(y:List Int)(r:List Int)(i:Int)(k:Int)(q:List Int):Option (ByteArray×ByteArray):=
 (gY r y).bind fun r0=>
 bif (decide (r0≥0)) then
  (eO r y).bind fun r1=>
  ny b p x s y r1 i (IntKind.wrap .i64 (k+1)) q
 else
  bif (aP 8 1 q.length 1) then
  jr b p x s y r (IntKind.wrap .i64 (i - 1)) (q++([k]:List Int))
  else none
theorem ui (b p x s y r i k q):cX b p x s y r i k q=nA cX bN dQ bw b p x s y r i k q:=(l1 161 1 _).trans (by kernel_rfl)
def js (nz:ae aT)(aI:ae aA)(Py:ae k9)(yV:ae iA)(b:ByteArray)(p:Bool)(s:Bool)(r:List Int)(i:Int)(q:List Int):Option (ByteArray×ByteArray):=
 let e0:Int:=(IntKind.wrap .i64 ((q.length:Int).tdiv 2))
 bif (decide (i<e0)) then
  let e1:Int:=(IntKind.wrap .i64 ((q.length:Int) - 1))
  let e2:Int:=(IntKind.wrap .i64 ((q.length:Int) - 1))
  (idx q (IntKind.wrap .i64 (e2 - i))).bind fun _=>
  (q[(IntKind.wrap .i64 (e2 - i)).toNat]?).bind fun v3=>
  (idx q i).bind fun _=>
  (q[i.toNat]?).bind fun v4=>
  (idx q i).bind fun _=>
  (q[i.toNat]?).bind fun v5=>
  (idx (q.set i.toNat v3) (IntKind.wrap .i64 (e1 - i))).bind fun _=>
  ((q.set i.toNat v3)[(IntKind.wrap .i64 (e1 - i)).toNat]?).bind fun v6=>
  let e7:List Int:=((q.set i.toNat v3).set (IntKind.wrap .i64 (e1 - i)).toNat v4)
  nz b p s r (IntKind.wrap .i64 (i+1)) e7
 else
  (aI (!(p==s)) q).bind fun r8=>
  (aI p r).bind fun r9=>
  bif (!(r9.toList==(bs [48]).toList)) then
   bif (!(p==s)) then
    (Py r8 (bs [49])).bind fun Qb=>
    (yV r9 b).bind fun r11=>
    some (Qb,r11)
   else
    some (r8,r9)
  else
   some (r8,r9)
theorem mI (b p s r i q):aT b p s r i q=js aT aA k9 iA b p s r i q:=(l1 161 2 _).trans (by kernel_rfl)
def qX (jr:ae bN)(fe:ae dZ)(bm:ae b8)(ay:ae aD)(dz:ae bJ)(a:ByteArray)(b:ByteArray):Option (ByteArray×ByteArray):=
 (fe a).bind fun r0=>
 (fe b).bind fun r1=>
 bif r0.2 then
  bif r1.2 then
   bif (!(r1.1==0)) then
   bif (!(r1.1==0)) then
   bif ((r0.1.tmod r1.1) != 0) then
    bif (!((decide ((r0.1.tmod r1.1)<0))==(decide (r1.1<0)))) then
     let e2:Int:=(IntKind.wrap .i64 ((IntKind.wrap .i64 (r0.1.tdiv r1.1)) - 1))
     (bm e2).bind fun r3=>
     (bm (IntKind.wrap .i64 ((r0.1.tmod r1.1)+r1.1))).bind fun r4=>
     some (r3,r4)
    else
     (bm (IntKind.wrap .i64 (r0.1.tdiv r1.1))).bind fun r5=>
     (bm (r0.1.tmod r1.1)).bind fun r6=>
     some (r5,r6)
   else
    (bm (IntKind.wrap .i64 (r0.1.tdiv r1.1))).bind fun r7=>
    (bm (r0.1.tmod r1.1)).bind fun r8=>
    some (r7,r8)
   else none
   else none
  else
   (ay a).bind fun r9=>
   (ay b).bind fun Qb=>
   let V5:Int:=(IntKind.wrap .i64 ((Qb.2.length:Int) - 1))
   let e12:Int:=(bif decide (V5>0) then V5 else 0)
   let O8:Int:=(bif decide ((IntKind.wrap .i64 ((r9.2.length:Int) - e12))>0) then (IntKind.wrap .i64 ((r9.2.length:Int) - e12)) else 0)
   bif (dN r9.2.length O8 (r9.2.length:Int)) then
   bif (aP 8 1 0 (cut r9.2 O8 (r9.2.length:Int)).length) then
   let e14:List Int:=(([]:List Int)++(cut r9.2 O8 (r9.2.length:Int)))
   (dz e14).bind fun TO=>
   jr b r9.1 r9.2 Qb.1 Qb.2 TO (IntKind.wrap .i64 (O8 - 1)) ([]:List Int)
   else none
   else none
 else
  (ay a).bind fun r16=>
  (ay b).bind fun r17=>
  let e18:Int:=(IntKind.wrap .i64 ((r17.2.length:Int) - 1))
  let e19:Int:=(bif decide (e18>0) then e18 else 0)
  let Qd:Int:=(bif decide ((IntKind.wrap .i64 ((r16.2.length:Int) - e19))>0) then (IntKind.wrap .i64 ((r16.2.length:Int) - e19)) else 0)
  bif (dN r16.2.length Qd (r16.2.length:Int)) then
  bif (aP 8 1 0 (cut r16.2 Qd (r16.2.length:Int)).length) then
  let e21:List Int:=(([]:List Int)++(cut r16.2 Qd (r16.2.length:Int)))
  (dz e21).bind fun r22=>
  jr b r16.1 r16.2 r17.1 r17.2 r22 (IntKind.wrap .i64 (Qd - 1)) ([]:List Int)
  else none
  else none
theorem yW (a b):acr a b=qX bN dZ b8 aD bJ a b:=(e1 161 _).trans (by kernel_rfl)
def uN (a:ByteArray):Option (Int):=
 bif (decide ((a.size:Int)>0)) then
  (uw a 0).bind fun v0=>
  bif (v0==45) then
   some (IntKind.wrap .i64 ((a.size:Int) - 1))
  else
   some (a.size:Int)
 else
  some (a.size:Int)
theorem BY (a):fK a=uN a:=(e1 162 _).trans (by kernel_rfl)
def qY (ay:ae aD)(aI:ae aA)(a:ByteArray):Option (ByteArray):=
 (ay a).bind fun r0=>
 (aI false r0.2).bind fun r1=>
 some r1
theorem yX (a):iu a=qY aD aA a:=(e1 163 _).trans (by kernel_rfl)
def ac5 (dw:ae b4)(dz:ae bJ)(a:List Int)(b:List Int)(borrow:Int)(i:Int)(out:List Int):Option (List Int):=
 bif (decide (i<(a.length:Int))) then
  (idx a i).bind fun v0=>
  bif (decide (i<(b.length:Int))) then
   (idx b i).bind fun v1=>
   let e2:Int:=(IntKind.wrap .i64 ((IntKind.wrap .i64 (v0 - borrow)) - v1))
   bif (decide (e2<0)) then
    let e3:List Int:=([(IntKind.wrap .i64 (e2+10))]:List Int)
    bif (aP 8 1 out.length 1) then
    dw a b 1 (IntKind.wrap .i64 (i+1)) (out++e3)
    else none
   else
    bif (aP 8 1 out.length 1) then
    dw a b 0 (IntKind.wrap .i64 (i+1)) (out++([e2]:List Int))
    else none
  else
   bif (decide ((IntKind.wrap .i64 (v0 - borrow))<0)) then
    let e4:Int:=(IntKind.wrap .i64 ((IntKind.wrap .i64 (v0 - borrow))+10))
    bif (aP 8 1 out.length 1) then
    dw a b 1 (IntKind.wrap .i64 (i+1)) (out++([e4]:List Int))
    else none
   else
    bif (aP 8 1 out.length 1) then
    let e5:List Int:=(out++([(IntKind.wrap .i64 (v0 - borrow))]:List Int))
    dw a b 0 (IntKind.wrap .i64 (i+1)) e5
    else none
 else
  (dz out).bind fun r6=>
  some r6
theorem kB (a b borrow i out):b4 a b borrow i out=ac5 b4 bJ a b borrow i out:=(l1 173 0 _).trans (by kernel_rfl)
def oJ (dw:ae b4)(a:List Int)(b:List Int):Option (List Int):=
 dw a b 0 0 ([]:List Int)
theorem vy (a b):bw a b=oJ b4 a b:=(e1 173 _).trans (by kernel_rfl)
def wB (lY:ae aaJ)(yV:ae iA)(a:ByteArray)(b:ByteArray):Option (ByteArray):=
 (lY b).bind fun r0=>
 (yV a r0).bind fun r1=>
 some r1
theorem C6 (a b):k9 a b=wB aaJ iA a b:=(e1 174 _).trans (by kernel_rfl)
def yY (fe:ae dZ)(bm:ae b8)(ay:ae aD)(Im:ae jG)(aI:ae aA)(gY:ae dQ)(eO:ae bw)(a:ByteArray)(b:ByteArray):Option (ByteArray):=
 (fe a).bind fun r0=>
 (fe b).bind fun r1=>
 bif r0.2 then
  bif r1.2 then
   (bm (IntKind.wrap .i64 (r0.1+r1.1))).bind fun r2=>
   some r2
  else
   (ay a).bind fun r3=>
   (ay b).bind fun r4=>
   bif (r3.1==r4.1) then
    (Im r3.2 r4.2).bind fun r5=>
    (aI r3.1 r5).bind fun r6=>
    some r6
   else
    (gY r3.2 r4.2).bind fun r7=>
    bif (decide (r7<0)) then
     (eO r4.2 r3.2).bind fun r8=>
     (aI r4.1 r8).bind fun r9=>
     some r9
    else
     (eO r3.2 r4.2).bind fun Qb=>
     (aI r3.1 Qb).bind fun r11=>
     some r11
 else
  (ay a).bind fun r12=>
  (ay b).bind fun r13=>
  bif (r12.1==r13.1) then
   (Im r12.2 r13.2).bind fun r14=>
   (aI r12.1 r14).bind fun TO=>
   some TO
  else
   (gY r12.2 r13.2).bind fun r16=>
   bif (decide (r16<0)) then
    (eO r13.2 r12.2).bind fun r17=>
    (aI r13.1 r17).bind fun r18=>
    some r18
   else
    (eO r12.2 r13.2).bind fun r19=>
    (aI r12.1 r19).bind fun r20=>
    some r20
theorem EV (a b):iA a b=yY dZ b8 aD jG aA dQ bw a b:=(e1 175 _).trans (by kernel_rfl)
def kj (aX:ae fL)(a:List Int)(b:List Int)(carry:Int)(i:Int)(out:List Int):Option (List Int):=
 bif (decide (i<(a.length:Int))) then
  bif (decide (i<(a.length:Int))) then
   (idx a i).bind fun v0=>
   bif (decide (i<(b.length:Int))) then
    (idx b i).bind fun v1=>
    let e2:Int:=(IntKind.wrap .i64 ((IntKind.wrap .i64 (carry+v0))+v1))
    bif (aP 8 1 out.length 1) then
    aX a b (IntKind.wrap .i64 (e2.tdiv 10)) (IntKind.wrap .i64 (i+1)) (out++([(e2.tmod 10)]:List Int))
    else none
   else
    let e3:Int:=((IntKind.wrap .i64 (carry+v0)).tmod 10)
    bif (aP 8 1 out.length 1) then
    let e4:Int:=(IntKind.wrap .i64 ((IntKind.wrap .i64 (carry+v0)).tdiv 10))
    aX a b e4 (IntKind.wrap .i64 (i+1)) (out++([e3]:List Int))
    else none
  else
   bif (decide (i<(b.length:Int))) then
    (idx b i).bind fun v5=>
    let e6:Int:=((IntKind.wrap .i64 (carry+v5)).tmod 10)
    bif (aP 8 1 out.length 1) then
    let e7:Int:=(IntKind.wrap .i64 ((IntKind.wrap .i64 (carry+v5)).tdiv 10))
    aX a b e7 (IntKind.wrap .i64 (i+1)) (out++([e6]:List Int))
    else none
   else
    bif (aP 8 1 out.length 1) then
    aX a b (IntKind.wrap .i64 (carry.tdiv 10)) (IntKind.wrap .i64 (i+1)) (out++([(carry.tmod 10)]:List Int))
    else none
 else
  bif (decide (i<(b.length:Int))) then
   bif (decide (i<(a.length:Int))) then
    (idx a i).bind fun v8=>
    bif (decide (i<(b.length:Int))) then
     (idx b i).bind fun v9=>
     let ZD:Int:=(IntKind.wrap .i64 ((IntKind.wrap .i64 (carry+v8))+v9))
     bif (aP 8 1 out.length 1) then
     aX a b (IntKind.wrap .i64 (ZD.tdiv 10)) (IntKind.wrap .i64 (i+1)) (out++([(ZD.tmod 10)]:List Int))
     else none
    else
     let V5:Int:=((IntKind.wrap .i64 (carry+v8)).tmod 10)
     bif (aP 8 1 out.length 1) then
     let e12:Int:=(IntKind.wrap .i64 ((IntKind.wrap .i64 (carry+v8)).tdiv 10))
     aX a b e12 (IntKind.wrap .i64 (i+1)) (out++([V5]:List Int))
     else none
   else
    bif (decide (i<(b.length:Int))) then
     (idx b i).bind fun RP=>
     let e14:Int:=((IntKind.wrap .i64 (carry+RP)).tmod 10)
     bif (aP 8 1 out.length 1) then
     let e15:Int:=(IntKind.wrap .i64 ((IntKind.wrap .i64 (carry+RP)).tdiv 10))
     aX a b e15 (IntKind.wrap .i64 (i+1)) (out++([e14]:List Int))
     else none
    else
     bif (aP 8 1 out.length 1) then
     aX a b (IntKind.wrap .i64 (carry.tdiv 10)) (IntKind.wrap .i64 (i+1)) (out++([(carry.tmod 10)]:List Int))
     else none
  else
   bif (decide (carry>0)) then
    bif (decide (i<(a.length:Int))) then
     (idx a i).bind fun v16=>
     bif (decide (i<(b.length:Int))) then
      (idx b i).bind fun v17=>
      let e18:Int:=(IntKind.wrap .i64 ((IntKind.wrap .i64 (carry+v16))+v17))
      bif (aP 8 1 out.length 1) then
      aX a b (IntKind.wrap .i64 (e18.tdiv 10)) (IntKind.wrap .i64 (i+1)) (out++([(e18.tmod 10)]:List Int))
      else none
     else
      let e19:Int:=((IntKind.wrap .i64 (carry+v16)).tmod 10)
      bif (aP 8 1 out.length 1) then
      let Qd:Int:=(IntKind.wrap .i64 ((IntKind.wrap .i64 (carry+v16)).tdiv 10))
      aX a b Qd (IntKind.wrap .i64 (i+1)) (out++([e19]:List Int))
      else none
    else
     bif (decide (i<(b.length:Int))) then
      (idx b i).bind fun v21=>
      let e22:Int:=((IntKind.wrap .i64 (carry+v21)).tmod 10)
      bif (aP 8 1 out.length 1) then
      let e23:Int:=(IntKind.wrap .i64 ((IntKind.wrap .i64 (carry+v21)).tdiv 10))
      aX a b e23 (IntKind.wrap .i64 (i+1)) (out++([e22]:List Int))
      else none
     else
      bif (aP 8 1 out.length 1) then
      aX a b (IntKind.wrap .i64 (carry.tdiv 10)) (IntKind.wrap .i64 (i+1)) (out++([(carry.tmod 10)]:List Int))
      else none
   else
    some out
theorem nf (a b carry i out):fL a b carry i out=kj fL a b carry i out:=(l1 179 0 _).trans (by kernel_rfl)
def AT (aX:ae fL)(a:List Int)(b:List Int):Option (List Int):=
 aX a b 0 0 ([]:List Int)
theorem Gr (a b):jG a b=AT fL a b:=(e1 179 _).trans (by kernel_rfl)
end
end Go.Proofs.YtofjebmoebhiiaaGreatDoor.Ev
namespace Go.Proofs.YtofjebmoebhiiaaGreatDoor.Ev
open Go.Abs
noncomputable section
def aia (fg:ae dp)(lY:ae aaJ)(a:ByteArray):Option (ByteArray):=
 (fg a).bind fun r0=>
 bif (!r0.2.2) then
  (lY r0.1).bind fun r1=>
  some r1
 else
  (lY r0.1).bind fun r2=>
  bif (Nat.ble (r2.size+(bs [47]).size) 9223372036854775807) then
  bif (Nat.ble ((r2++(bs [47])).size+r0.2.1.size) 9223372036854775807) then
  some ((r2++(bs [47]))++r0.2.1)
  else none
  else none
theorem ajM (a):adw a=aia dp aaJ a:=(e1 39 _).trans (by kernel_rfl)
def wC (Q8:ae mN)(UE:ae qF)(a:ByteArray):Option (Bool):=
 (Q8 a).bind fun r0=>
 bif (!r0) then
  (UE a).bind fun r1=>
  some r1
 else
  some false
theorem C7 (a):dW a=wC mN qF a:=(e1 61 _).trans (by kernel_rfl)
def s7 (fg:ae dp)(b5:ae cg)(fh:ae gz)(a:ByteArray)(b:ByteArray):Option (Int):=
 bif (a.toList==(bs [105,110,102]).toList) then
  bif (b.toList==(bs [105,110,102]).toList) then
   some 0
  else
   bif (a.toList==(bs [105,110,102]).toList) then
    some 1
   else
    bif (b.toList==(bs [105,110,102]).toList) then
     some (-1)
    else
     (fg a).bind fun r0=>
     (fg b).bind fun r1=>
     bif (r0.2.1.toList==(bs [49]).toList) then
      bif (r1.2.1.toList==(bs [49]).toList) then
       (b5 r0.1 r1.1).bind fun r2=>
       some r2
      else
       (fh r0.1 r1.2.1).bind fun r3=>
       (fh r1.1 r0.2.1).bind fun r4=>
       (b5 r3 r4).bind fun r5=>
       some r5
     else
      (fh r0.1 r1.2.1).bind fun r6=>
      (fh r1.1 r0.2.1).bind fun r7=>
      (b5 r6 r7).bind fun r8=>
      some r8
 else
  bif (a.toList==(bs [105,110,102]).toList) then
   some 1
  else
   bif (b.toList==(bs [105,110,102]).toList) then
    some (-1)
   else
    (fg a).bind fun r9=>
    (fg b).bind fun Qb=>
    bif (r9.2.1.toList==(bs [49]).toList) then
     bif (Qb.2.1.toList==(bs [49]).toList) then
      (b5 r9.1 Qb.1).bind fun r11=>
      some r11
     else
      (fh r9.1 Qb.2.1).bind fun r12=>
      (fh Qb.1 r9.2.1).bind fun r13=>
      (b5 r12 r13).bind fun r14=>
      some r14
    else
     (fh r9.1 Qb.2.1).bind fun TO=>
     (fh Qb.1 r9.2.1).bind fun r16=>
     (b5 TO r16).bind fun r17=>
     some r17
theorem z6 (a b):bD a b=s7 dp cg gz a b:=(e1 64 _).trans (by kernel_rfl)
def lZ (qZ:ae ab3)(a:ByteArray)(i:Int):Option (ByteArray×ByteArray×Bool):=
 bif (decide (i<(a.size:Int))) then
  (uw a i).bind fun v0=>
  bif (v0==47) then
   bif (dN a.size 0 i) then
   bif (dN a.size (IntKind.wrap .i64 (i+1)) (a.size:Int)) then
   let e1:ByteArray:=(a.extract (IntKind.wrap .i64 (i+1)).toNat (a.size:Int).toNat)
   some ((a.extract (0:Int).toNat i.toNat),e1,true)
   else none
   else none
  else
   qZ a (IntKind.wrap .i64 (i+1))
 else
  some (a,(bs [49]),false)
theorem pI (a i):ab3 a i=lZ ab3 a i:=(l1 65 0 _).trans (by kernel_rfl)
def wD (qZ:ae ab3)(a:ByteArray):Option (ByteArray×ByteArray×Bool):=
 qZ a 0
theorem C8 (a):dp a=wD ab3 a:=(e1 65 _).trans (by kernel_rfl)
def z7 (bm:ae b8)(LQ:ae lq)(a:Int)(b:Int):Option (ByteArray):=
 (bm a).bind fun r0=>
 (bm b).bind fun r1=>
 (LQ r0 r1).bind fun r2=>
 some r2
theorem JK (a b):il a b=z7 b8 lq a b:=(e1 95 _).trans (by kernel_rfl)
def yZ (fg:ae dp)(Gs:ae kc)(a:ByteArray):Option (Bool):=
 (fg a).bind fun r0=>
 (Gs r0.1).bind fun r1=>
 bif r1 then
  some true
 else
  (Gs r0.2.1).bind fun r2=>
  some r2
theorem EW (a):mN a=yZ dp kc a:=(e1 102 _).trans (by kernel_rfl)
def CK (fg:ae dp)(EX:ae k8)(b5:ae cg)(ng:ae eW)(a:ByteArray):Option (Bool):=
 (fg a).bind fun r0=>
 (EX r0.1).bind fun r1=>
 bif (!r1) then
  some false
 else
  bif (!r0.2.2) then
   some true
  else
   (EX r0.2.1).bind fun r2=>
   bif r2 then
    bif (!(r0.1.toList==(bs [48]).toList)) then
     (b5 r0.2.1 (bs [50])).bind fun r3=>
     bif (decide (r3≥0)) then
      (ng r0.1 r0.2.1).bind fun r4=>
      some (r4.toList==(bs [49]).toList)
     else
      some false
    else
     some false
   else
    some false
theorem Io (a):qF a=CK dp k8 cg eW a:=(e1 103 _).trans (by kernel_rfl)
def BZ (b5:ae cg)(lY:ae aaJ)(ng:ae eW)(fP:ae acr)(n:ByteArray)(d:ByteArray):Option (ByteArray):=
 (b5 d (bs [48])).bind fun r0=>
 bif (decide (r0<0)) then
  (lY n).bind fun r1=>
  (lY d).bind fun r2=>
  (ng r1 r2).bind fun r3=>
  bif (!(r3.toList==(bs [49]).toList)) then
   (fP r1 r3).bind fun r4=>
   (fP r2 r3).bind fun r5=>
   bif (r5.1.toList==(bs [49]).toList) then
    some r4.1
   else
    bif (Nat.ble (r4.1.size+(bs [47]).size) 9223372036854775807) then
    bif (Nat.ble ((r4.1++(bs [47])).size+r5.1.size) 9223372036854775807) then
    some ((r4.1++(bs [47]))++r5.1)
    else none
    else none
  else
   bif (r2.toList==(bs [49]).toList) then
    some r1
   else
    bif (Nat.ble (r1.size+(bs [47]).size) 9223372036854775807) then
    bif (Nat.ble ((r1++(bs [47])).size+r2.size) 9223372036854775807) then
    some ((r1++(bs [47]))++r2)
    else none
    else none
 else
  (ng n d).bind fun r6=>
  bif (!(r6.toList==(bs [49]).toList)) then
   (fP n r6).bind fun r7=>
   (fP d r6).bind fun r8=>
   bif (r8.1.toList==(bs [49]).toList) then
    some r7.1
   else
    bif (Nat.ble (r7.1.size+(bs [47]).size) 9223372036854775807) then
    bif (Nat.ble ((r7.1++(bs [47])).size+r8.1.size) 9223372036854775807) then
    some ((r7.1++(bs [47]))++r8.1)
    else none
    else none
  else
   bif (d.toList==(bs [49]).toList) then
    some n
   else
    bif (Nat.ble (n.size+(bs [47]).size) 9223372036854775807) then
    bif (Nat.ble ((n++(bs [47])).size+d.size) 9223372036854775807) then
    some ((n++(bs [47]))++d)
    else none
    else none
theorem KJ (n d):lq n d=BZ cg aaJ eW acr n d:=(e1 138 _).trans (by kernel_rfl)
end
end Go.Proofs.YtofjebmoebhiiaaGreatDoor.Ev
namespace Go.Proofs.YtofjebmoebhiiaaGreatDoor.Ev
open Go.Abs
noncomputable section
def kC (pJ:ae dB)(LR:ae i7)(s:List Int)(i:Int)(out:List (List Int)):Option (List (List Int)):=
 bif (decide ((s.length:Int)>1)) then
  bif (decide (i<(s.length:Int))) then
   (LR s i).bind fun r0=>
   bif (aP 24 1 out.length 1) then
   pJ s (IntKind.wrap .i64 (i+1)) (out++([r0]:List (List Int)))
   else none
  else
   some out
 else
  some out
theorem oK (s i out):dB s i out=kC dB i7 s i out:=(l1 58 0 _).trans (by kernel_rfl)
def uO (pJ:ae dB)(s:List Int):Option (List (List Int)):=
 pJ s 0 ([]:List (List Int))
theorem B0 (s):b7 s=uO dB s:=(e1 58 _).trans (by kernel_rfl)
def nR (uP:ae fI)(a:List Int)(b:List Int)(i:Int):Option (Int):=
 bif (decide (i<(a.length:Int))) then
  (idx a i).bind fun v0=>
  (idx b i).bind fun v1=>
  bif (decide (v0<v1)) then
   some (-1)
  else
   (idx a i).bind fun v2=>
   (idx b i).bind fun v3=>
   bif (decide (v2>v3)) then
    some 1
   else
    uP a b (IntKind.wrap .i64 (i+1))
 else
  some 0
theorem s8 (a b i):fI a b i=nR fI a b i:=(l1 59 0 _).trans (by kernel_rfl)
def AU (uP:ae fI)(a:List Int)(b:List Int):Option (Int):=
 bif ((a.length:Int) != (b.length:Int)) then
  bif (decide ((a.length:Int)<(b.length:Int))) then
   some (-1)
  else
   some 1
 else
  uP a b 0
theorem Gt (a b):bu a b=AU fI a b:=(e1 59 _).trans (by kernel_rfl)
def q8 (l7:ae ik)(CL:ae qH)(nS:ae jS)(l:List Int)(most:Int)(n:Int)(i:Int)(out:List Int):Option (List Int):=
 bif (decide (i<(l.length:Int))) then
  bif (decide ((out.length:Int)<most)) then
   (idx l i).bind fun v0=>
   bif (!(n==0)) then
   bif (!(n==0)) then
   (CL out ((IntKind.wrap .i64 ((v0.tmod n)+n)).tmod n)).bind fun r1=>
   bif (!r1) then
    let e2:List Int:=([((IntKind.wrap .i64 ((v0.tmod n)+n)).tmod n)]:List Int)
    bif (aP 8 1 out.length 1) then
    l7 l most n (IntKind.wrap .i64 (i+1)) (out++e2)
    else none
   else
    l7 l most n (IntKind.wrap .i64 (i+1)) out
   else none
   else none
  else
   bif ((out.length:Int)==0) then
    bif (aP 8 1 out.length 1) then
    (nS (out++([0]:List Int))).bind fun r3=>
    some r3.1
    else none
   else
    (nS out).bind fun r4=>
    some r4.1
 else
  bif ((out.length:Int)==0) then
   bif (aP 8 1 out.length 1) then
   (nS (out++([0]:List Int))).bind fun r5=>
   some r5.1
   else none
  else
   (nS out).bind fun r6=>
   some r6.1
theorem y3 (l most n i out):ik l most n i out=q8 ik qH jS l most n i out:=(l1 93 0 _).trans (by kernel_rfl)
def EY (l7:ae ik)(l:List Int)(most:Int)(n:Int):Option (List Int):=
 l7 l most n 0 ([]:List Int)
theorem Nq (l most n):tM l most n=EY ik l most n:=(e1 93 _).trans (by kernel_rfl)
def uQ (uR:ae jQ)(CL:ae qH)(a:List Int)(b:List Int)(i:Int):Option (Bool):=
 bif (decide (i<(b.length:Int))) then
  (idx b i).bind fun v0=>
  (CL a v0).bind fun r1=>
  bif (!r1) then
   some false
  else
   uR a b (IntKind.wrap .i64 (i+1))
 else
  some true
theorem B1 (a b i):jQ a b i=uQ jQ qH a b i:=(l1 97 0 _).trans (by kernel_rfl)
def Ip (uR:ae jQ)(a:List Int)(b:List Int):Option (Bool):=
 uR a b 0
theorem Q9 (a b):yr a b=Ip jQ a b:=(e1 97 _).trans (by kernel_rfl)
def jX (jY:ae dc)(s:List Int)(k:Int)(i:Int)(out:List Int):Option (List Int):=
 bif (decide (i<(s.length:Int))) then
  bif (i != k) then
   (idx s i).bind fun v0=>
   bif (aP 8 1 out.length 1) then
   jY s k (IntKind.wrap .i64 (i+1)) (out++([v0]:List Int))
   else none
  else
   jY s k (IntKind.wrap .i64 (i+1)) out
 else
  some out
theorem nB (s k i out):dc s k i out=jX dc s k i out:=(l1 101 0 _).trans (by kernel_rfl)
def s9 (jY:ae dc)(s:List Int)(k:Int):Option (List Int):=
 jY s k 0 ([]:List Int)
theorem z8 (s k):i7 s k=s9 dc s k:=(e1 101 _).trans (by kernel_rfl)
def wE (wF:ae kY)(a:List Int)(v:Int)(i:Int):Option (Bool):=
 bif (decide (i<(a.length:Int))) then
  (idx a i).bind fun v0=>
  bif (v0==v) then
   some true
  else
   wF a v (IntKind.wrap .i64 (i+1))
 else
  some false
theorem C9 (a v i):kY a v i=wE kY a v i:=(l1 134 0 _).trans (by kernel_rfl)
def Ki (wF:ae kY)(a:List Int)(v:Int):Option (Bool):=
 wF a v 0
theorem SJ (a v):qH a v=Ki kY a v:=(e1 134 _).trans (by kernel_rfl)
def pK (pL:ae gC)(n:Int)(i:Int)(out:List Int):Option ((List Int)×Int):=
 bif (decide (i<(out.length:Int))) then
  pL n i i out
 else
  some (out,n)
theorem xp (n i out):eV n i out=pK gC n i out:=(l1 135 0 _).trans (by kernel_rfl)
def pM (pL:ae gC)(kD:ae eV)(n:Int)(i:Int)(k:Int)(out:List Int):Option ((List Int)×Int):=
 bif (decide (k>0)) then
  (idx out (IntKind.wrap .i64 (k - 1))).bind fun _=>
  (out[(IntKind.wrap .i64 (k - 1)).toNat]?).bind fun v0=>
  (idx out k).bind fun _=>
  (out[k.toNat]?).bind fun v1=>
  bif (decide (v0>v1)) then
   (idx out k).bind fun _=>
   (out[k.toNat]?).bind fun v2=>
   (idx out (IntKind.wrap .i64 (k - 1))).bind fun _=>
   (out[(IntKind.wrap .i64 (k - 1)).toNat]?).bind fun v3=>
   (idx out (IntKind.wrap .i64 (k - 1))).bind fun _=>
   (out[(IntKind.wrap .i64 (k - 1)).toNat]?).bind fun v4=>
   let e5:List Int:=(out.set (IntKind.wrap .i64 (k - 1)).toNat v2)
   (idx e5 k).bind fun _=>
   (e5[k.toNat]?).bind fun v6=>
   pL (IntKind.wrap .i64 (1 - n)) i (IntKind.wrap .i64 (k - 1)) (e5.set k.toNat v3)
  else
   kD n (IntKind.wrap .i64 (i+1)) out
 else
  kD n (IntKind.wrap .i64 (i+1)) out
theorem xq (n i k out):gC n i k out=pM gC eV n i k out:=(l1 135 1 _).trans (by kernel_rfl)
def Da (kD:ae eV)(l:List Int):Option ((List Int)×Int):=
 bif (aP 8 1 0 l.length) then
 kD 0 0 (([]:List Int)++l)
 else none
theorem LS (l):jS l=Da eV l:=(e1 135 _).trans (by kernel_rfl)
def aib (l8:ae iq)(s:List Int)(m:Int)(out:List (List Int)):Option (List (List Int)):=
 bif (decide (0≤(s.length:Int))) then
 bif (decide (m<(shl .i64 1 (s.length:Int)))) then
  l8 s m 0 out ([]:List Int)
 else
  some out
 else none
theorem JL (s m out):uB s m out=aib iq s m out:=(l1 136 0 _).trans (by kernel_rfl)
def q9 (l8:ae iq)(pN:ae dE)(ja:ae fW)(s:List Int)(m:Int)(i:Int)(out:List (List Int))(f:List Int):Option (List (List Int)):=
 bif (decide (i<(s.length:Int))) then
  bif (decide (0≤i)) then
  bif (((shr .i64 m i).tmod 2)==1) then
   (idx s i).bind fun v0=>
   bif (aP 8 1 f.length 1) then
   l8 s m (IntKind.wrap .i64 (i+1)) out (f++([v0]:List Int))
   else none
  else
   l8 s m (IntKind.wrap .i64 (i+1)) out f
  else none
 else
  (ja out f).bind fun r1=>
  pN s r1 (IntKind.wrap .i64 (m+1))
theorem y4 (s m i out f):iq s m i out f=q9 iq dE fW s m i out f:=(l1 136 1 _).trans (by kernel_rfl)
def pO (kE:ae gD)(s:List Int)(out:List (List Int))(m:Int):Option (List (List Int)):=
 bif (decide (0≤(s.length:Int))) then
 bif (decide (m<(shl .i64 1 (s.length:Int)))) then
  kE s out m 0 ([]:List Int)
 else
  some out
 else none
theorem xu (s out m):dE s out m=pO gD s out m:=(l1 136 0 _).trans (by kernel_rfl)
def pP (kE:ae gD)(pN:ae dE)(ja:ae fW)(s:List Int)(out:List (List Int))(m:Int)(i:Int)(f:List Int):Option (List (List Int)):=
 bif (decide (i<(s.length:Int))) then
  bif (decide (0≤i)) then
  bif (((shr .i64 m i).tmod 2)==1) then
   (idx s i).bind fun v0=>
   bif (aP 8 1 f.length 1) then
   kE s out m (IntKind.wrap .i64 (i+1)) (f++([v0]:List Int))
   else none
  else
   kE s out m (IntKind.wrap .i64 (i+1)) f
  else none
 else
  (ja out f).bind fun r1=>
  pN s r1 (IntKind.wrap .i64 (m+1))
theorem xv (s out m i f):gD s out m i f=pP gD dE fW s out m i f:=(l1 136 1 _).trans (by kernel_rfl)
def EZ (KK:ae uB)(s:List Int):Option (List (List Int)):=
 KK s 1 ([]:List (List Int))
theorem Nr (s):kZ s=EZ uB s:=(e1 136 _).trans (by kernel_rfl)
def uS (kl:ae jT)(bG:ae bu)(l:List (List Int))(s:List Int)(done:Bool)(i:Int)(out:List (List Int)):Option (List (List Int)):=
 bif (decide (i<(l.length:Int))) then
  (idx l i).bind fun v0=>
  (bG s v0).bind fun r1=>
  bif (r1==0) then
   some l
  else
   bif (decide (r1<0)) then
    bif (!done) then
     bif (aP 24 1 out.length 1) then
     (idx l i).bind fun v2=>
     bif (aP 24 1 (out++([s]:List (List Int))).length 1) then
     let e3:List (List Int):=((out++([s]:List (List Int)))++([v2]:List (List Int)))
     kl l s true (IntKind.wrap .i64 (i+1)) e3
     else none
     else none
    else
     (idx l i).bind fun v4=>
     bif (aP 24 1 out.length 1) then
     kl l s done (IntKind.wrap .i64 (i+1)) (out++([v4]:List (List Int)))
     else none
   else
    (idx l i).bind fun v5=>
    bif (aP 24 1 out.length 1) then
    kl l s done (IntKind.wrap .i64 (i+1)) (out++([v5]:List (List Int)))
    else none
 else
  bif (!done) then
   bif (aP 24 1 out.length 1) then
   some (out++([s]:List (List Int)))
   else none
  else
   some out
theorem B2 (l s done i out):jT l s done i out=uS jT bu l s done i out:=(l1 137 0 _).trans (by kernel_rfl)
def Iq (kl:ae jT)(l:List (List Int))(s:List Int):Option (List (List Int)):=
 kl l s false 0 ([]:List (List Int))
theorem Ra (l s):fW l s=Iq jT l s:=(e1 137 _).trans (by kernel_rfl)
def l9 (ra:ae ef)(rb:ae eg)(s:List Int)(i:Int):Option (Int):=
 bif (decide (i<(s.length:Int))) then
  (idx s i).bind fun v0=>
  bif (decide (v0<0)) then
   some 1
  else
   (idx s i).bind fun v1=>
   bif (decide (v1≥64)) then
    some 1
   else
    ra s (IntKind.wrap .i64 (i+1))
 else
  rb s 1
theorem pQ (s i):ef s i=l9 ef eg s i:=(l1 140 0 _).trans (by kernel_rfl)
def ma (rb:ae eg)(s:List Int)(i:Int):Option (Int):=
 bif (decide (i<(s.length:Int))) then
  (idx s i).bind fun v0=>
  (idx s (IntKind.wrap .i64 (i - 1))).bind fun v1=>
  bif (decide (v0≤v1)) then
   some 6
  else
   rb s (IntKind.wrap .i64 (i+1))
 else
  some 0
theorem pR (s i):eg s i=ma eg s i:=(l1 140 1 _).trans (by kernel_rfl)
def wG (ra:ae ef)(s:List Int):Option (Int):=
 bif ((s.length:Int)==0) then
  some 1
 else
  bif (decide ((s.length:Int)>5)) then
   some 3
  else
   ra s 0
theorem Db (s):gE s=wG ef s:=(e1 140 _).trans (by kernel_rfl)
end
end Go.Proofs.YtofjebmoebhiiaaGreatDoor.Ev
namespace Go.Proofs.YtofjebmoebhiiaaGreatDoor.Ev
open Go.Abs
noncomputable section
def rf (rh:ae ie)(l:List (List Int))(i:Int)(out:List (List Int)):Option (List (List Int)):=
 bif (decide (i<(l.length:Int))) then
  (idx l i).bind fun v0=>
  bif (aP 8 1 0 v0.length) then
  bif (aP 24 1 out.length 1) then
  let e1:List (List Int):=(out++([(([]:List Int)++v0)]:List (List Int)))
  rh l (IntKind.wrap .i64 (i+1)) e1
  else none
  else none
 else
  some out
theorem y5 (l i out):ie l i out=rf ie l i out:=(l1 53 0 _).trans (by kernel_rfl)
def E0 (rh:ae ie)(l:List (List Int)):Option (List (List Int)):=
 rh l 0 ([]:List (List Int))
theorem Ns (l):tI l=E0 ie l:=(e1 53 _).trans (by kernel_rfl)
def ri (rj:ae ig)(mc:ae fC)(Pz:ae tM)(Dc:ae mU)(l:List (List Int))(most:Int)(W4:Int)(n:Int)(i:Int)(few:List (List Int)):Option (List (List Int)):=
 bif (decide (i<(l.length:Int))) then
  bif (decide (i<most)) then
   (idx l i).bind fun v0=>
   (Pz v0 (IntKind.wrap .i64 (W4+1)) n).bind fun r1=>
   bif (aP 24 1 few.length 1) then
   rj l most W4 n (IntKind.wrap .i64 (i+1)) (few++([r1]:List (List Int)))
   else none
  else
   (Dc few).bind fun r2=>
   mc r2 (r2.length:Int) 0 ([]:List (List Int))
 else
  (Dc few).bind fun r3=>
  mc r3 (r3.length:Int) 0 ([]:List (List Int))
theorem y6 (l most W4 n i few):ig l most W4 n i few=ri ig fC tM mU l most W4 n i few:=(l1 54 0 _).trans (by kernel_rfl)
def rk (mc:ae fC)(t:List (List Int))(t2:Int)(t3:Int)(out:List (List Int)):Option (List (List Int)):=
 bif (decide (t3<t2)) then
  (idx t t3).bind fun v0=>
  bif (aP 24 1 out.length 1) then
  mc t t2 (IntKind.wrap .i64 (t3+1)) (out++([v0]:List (List Int)))
  else none
 else
  some out
theorem y7 (t t2 t3 out):fC t t2 t3 out=rk fC t t2 t3 out:=(l1 54 1 _).trans (by kernel_rfl)
def E1 (rj:ae ig)(l:List (List Int))(most:Int)(W4:Int)(n:Int):Option (List (List Int)):=
 rj l most W4 n 0 ([]:List (List Int))
theorem Nt (l most W4 n):tJ l most W4 n=E1 ig l most W4 n:=(e1 54 _).trans (by kernel_rfl)
def pS (JM:ae sN)(wH:ae kZ)(l:List (List Int))(i:Int)(out:List (List Int)):Option (List (List Int)):=
 bif (decide (i<(l.length:Int))) then
  (idx l i).bind fun v0=>
  (wH v0).bind fun r1=>
  JM l i r1 0 out
 else
  some out
theorem xw (l i out):gv l i out=pS sN kZ l i out:=(l1 94 0 _).trans (by kernel_rfl)
def y8 (gG:ae db)(pT:ae gv)(ja:ae fW)(l:List (List Int))(i:Int)(f:List (List Int))(k:Int)(out:List (List Int)):Option (List (List Int)):=
 bif (decide (k<(f.length:Int))) then
  (idx f k).bind fun v0=>
  (ja out v0).bind fun r1=>
  gG l r1 i f (IntKind.wrap .i64 (k+1))
 else
  pT l (IntKind.wrap .i64 (i+1)) out
theorem Ir (l i f k out):sN l i f k out=y8 db gv fW l i f k out:=(l1 94 1 _).trans (by kernel_rfl)
def oL (gG:ae db)(Is:ae iP)(ja:ae fW)(l:List (List Int))(out:List (List Int))(i:Int)(f:List (List Int))(k:Int):Option (List (List Int)):=
 bif (decide (k<(f.length:Int))) then
  (idx f k).bind fun v0=>
  (ja out v0).bind fun r1=>
  gG l r1 i f (IntKind.wrap .i64 (k+1))
 else
  Is l out (IntKind.wrap .i64 (i+1))
theorem vz (l out i f k):db l out i f k=oL db iP fW l out i f k:=(l1 94 1 _).trans (by kernel_rfl)
def oM (gG:ae db)(wH:ae kZ)(l:List (List Int))(out:List (List Int))(i:Int):Option (List (List Int)):=
 bif (decide (i<(l.length:Int))) then
  (idx l i).bind fun v0=>
  (wH v0).bind fun r1=>
  gG l out i r1 0
 else
  some out
theorem vA (l out i):iP l out i=oM db kZ l out i:=(l1 94 0 _).trans (by kernel_rfl)
def Dd (pT:ae gv)(l:List (List Int)):Option (List (List Int)):=
 pT l 0 ([]:List (List Int))
theorem LU (l):mU l=Dd gv l:=(e1 94 _).trans (by kernel_rfl)
def rl (fQ:ae im)(wI:ae gE)(bG:ae bu)(cE:ae b7)(l:List (List Int))(i:Int):Option (Int):=
 bif (decide (i<(l.length:Int))) then
  (idx l i).bind fun v0=>
  (wI v0).bind fun r1=>
  bif (r1 != 0) then
   some r1
  else
   bif (decide (i>0)) then
    (idx l i).bind fun v2=>
    (idx l (IntKind.wrap .i64 (i - 1))).bind fun v3=>
    (bG v2 v3).bind fun r4=>
    bif (r4==0) then
     some 5
    else
     bif (decide (i>0)) then
      (idx l i).bind fun v5=>
      (idx l (IntKind.wrap .i64 (i - 1))).bind fun v6=>
      (bG v5 v6).bind fun r7=>
      bif (decide (r7<0)) then
       some 6
      else
       (idx l i).bind fun v8=>
       (cE v8).bind fun r9=>
       fQ l i r9 0
     else
      (idx l i).bind fun v10=>
      (cE v10).bind fun r11=>
      fQ l i r11 0
   else
    bif (decide (i>0)) then
     (idx l i).bind fun v12=>
     (idx l (IntKind.wrap .i64 (i - 1))).bind fun RP=>
     (bG v12 RP).bind fun r14=>
     bif (decide (r14<0)) then
      some 6
     else
      (idx l i).bind fun ZL=>
      (cE ZL).bind fun r16=>
      fQ l i r16 0
    else
     (idx l i).bind fun v17=>
     (cE v17).bind fun r18=>
     fQ l i r18 0
 else
  some 0
theorem y9 (l i):fE l i=rl im gE bu b7 l i:=(l1 96 0 _).trans (by kernel_rfl)
def rm (fQ:ae im)(rq:ae fE)(PA:ae AD)(l:List (List Int))(i:Int)(f:List (List Int))(k:Int):Option (Int):=
 bif (decide (k<(f.length:Int))) then
  (idx f k).bind fun v0=>
  (PA l v0).bind fun r1=>
  bif (decide (r1<0)) then
   some 7
  else
   fQ l i f (IntKind.wrap .i64 (k+1))
 else
  rq l (IntKind.wrap .i64 (i+1))
theorem za (l i f k):im l i f k=rm im fE AD l i f k:=(l1 96 1 _).trans (by kernel_rfl)
def E2 (rq:ae fE)(l:List (List Int)):Option (Int):=
 bif (decide ((l.length:Int)>1024)) then
  some 3
 else
  rq l 0
theorem Nu (l):tN l=E2 fE l:=(e1 96 _).trans (by kernel_rfl)
def ry (rz:ae ir)(bG:ae bu)(l:List (List Int))(s:List Int)(i:Int):Option (Int):=
 bif (decide (i<(l.length:Int))) then
  (idx l i).bind fun v0=>
  (bG v0 s).bind fun r1=>
  bif (r1==0) then
   some i
  else
   rz l s (IntKind.wrap .i64 (i+1))
 else
  some (-1)
theorem zb (l s i):ir l s i=ry ir bu l s i:=(l1 141 0 _).trans (by kernel_rfl)
def E3 (rz:ae ir)(l:List (List Int))(s:List Int):Option (Int):=
 rz l s 0
theorem Nv (l s):AD l s=E3 ir l s:=(e1 141 _).trans (by kernel_rfl)
end
end Go.Proofs.YtofjebmoebhiiaaGreatDoor.Ev
namespace Go.Proofs.YtofjebmoebhiiaaGreatDoor.Ev
open Go.Abs
noncomputable section
def rA (me:ae ib)(E4:ae tK)(UF:ae Ba)(values:List Int)(c:List (List Int))(i:Int)(YF:List ByteArray):Option (List ((List Int)×ByteArray×Unit)):=
 bif (decide (i<(c.length:Int))) then
  bif (decide ((values.length:Int)>0)) then
   bif (!((values.length:Int)==0)) then
   (idx values (i.tmod (values.length:Int))).bind fun v0=>
   bif (!((values.length:Int)==0)) then
   let e1:Int:=(IntKind.wrap .i64 (i.tdiv (values.length:Int)))
   (E4 (IntKind.wrap .i64 (v0+e1))).bind fun r2=>
   bif (aP 16 1 YF.length 1) then
   me values c (IntKind.wrap .i64 (i+1)) (YF++([r2]:List ByteArray))
   else none
   else none
   else none
  else
   (E4 i).bind fun r3=>
   bif (aP 16 1 YF.length 1) then
   me values c (IntKind.wrap .i64 (i+1)) (YF++([r3]:List ByteArray))
   else none
 else
  (UF c YF).bind fun r4=>
  some r4.1
theorem zc (values c i YF):ib values c i YF=rA ib tK Ba values c i YF:=(l1 32 0 _).trans (by kernel_rfl)
def E5 (me:ae ib)(PB:ae tJ)(PC:ae tI)(l:List (List Int))(values:List Int)(most:Int)(W4:Int)(n:Int):Option (List ((List Int)×ByteArray×Unit)):=
 (PB l most W4 n).bind fun r0=>
 (PC r0).bind fun r1=>
 me values r1 0 ([]:List ByteArray)
theorem Nw (l values most W4 n):tE l values most W4 n=E5 ib tJ tI l values most W4 n:=(e1 32 _).trans (by kernel_rfl)
def E6 (KL:ae il)(n:Int):Option (ByteArray):=
 let e0:Int:=(IntKind.wrap .i64 ((n.tmod 24)+24))
 let e1:Int:=(IntKind.wrap .i64 ((e0.tmod 24) - 8))
 (KL e1 4).bind fun r2=>
 some r2
theorem Nx (n):tK n=E6 il n:=(e1 55 _).trans (by kernel_rfl)
def wJ (wK:ae kV)(wL:ae iZ)(ly:ae dW)(l:List (List Int))(values:List ByteArray)(i:Int):Option ((List ((List Int)×ByteArray×Unit))×Int):=
 bif (decide (i<(values.length:Int))) then
  (idx values i).bind fun v0=>
  (ly v0).bind fun r1=>
  bif (!r1) then
   some (([]:List ((List Int)×ByteArray×Unit)),(1:Int))
  else
   wK l values (IntKind.wrap .i64 (i+1))
 else
  wL l values 0 ([]:List ((List Int)×ByteArray×Unit))
theorem De (l values i):kV l values i=wJ kV iZ dW l values i:=(l1 56 0 _).trans (by kernel_rfl)
def wM (lz:ae kW)(Ny:ae sf)(l:List (List Int))(values:List ByteArray)(i:Int)(out:List ((List Int)×ByteArray×Unit)):Option ((List ((List Int)×ByteArray×Unit))×Int):=
 bif (decide (i<(l.length:Int))) then
  (idx values i).bind fun v0=>
  lz l values i v0 0 out
 else
  (Ny out).bind fun r1=>
  some (r1,(0:Int))
theorem Df (l values i out):iZ l values i out=wM kW sf l values i out:=(l1 56 1 _).trans (by kernel_rfl)
def wN (lz:ae kW)(wL:ae iZ)(SK:ae yr)(fi:ae bD)(l:List (List Int))(values:List ByteArray)(i:Int)(YF:ByteArray)(k:Int)(out:List ((List Int)×ByteArray×Unit)):Option ((List ((List Int)×ByteArray×Unit))×Int):=
 bif (decide (k<(l.length:Int))) then
  (idx l i).bind fun v0=>
  (idx l k).bind fun v1=>
  (SK v0 v1).bind fun r2=>
  bif r2 then
   (idx values k).bind fun v3=>
   (fi v3 YF).bind fun r4=>
   bif (decide (r4>0)) then
    (idx values k).bind fun v5=>
    lz l values i v5 (IntKind.wrap .i64 (k+1)) out
   else
    lz l values i YF (IntKind.wrap .i64 (k+1)) out
  else
   lz l values i YF (IntKind.wrap .i64 (k+1)) out
 else
  (idx l i).bind fun v6=>
  let e7:List ((List Int)×ByteArray×Unit):=([(v6,(YF,()))]:List ((List Int)×ByteArray×Unit))
  bif (aP 40 2 out.length 1) then
  wL l values (IntKind.wrap .i64 (i+1)) (out++e7)
  else none
theorem Dg (l values i YF k out):kW l values i YF k out=wN kW iZ yr bD l values i YF k out:=(l1 56 2 _).trans (by kernel_rfl)
def Kj (wK:ae kV)(PD:ae tN)(l:List (List Int))(values:List ByteArray):Option ((List ((List Int)×ByteArray×Unit))×Int):=
 (PD l).bind fun r0=>
 bif (r0 != 0) then
  some (([]:List ((List Int)×ByteArray×Unit)),r0)
 else
  bif ((values.length:Int) != (l.length:Int)) then
   some (([]:List ((List Int)×ByteArray×Unit)),(10:Int))
  else
   wK l values 0
theorem SL (l values):Ba l values=Kj kV tN l values:=(e1 56 _).trans (by kernel_rfl)
def mf (rB:ae ab2)(Rb:ae mM)(cE:ae b7)(f:List ((List Int)×ByteArray×Unit))(i:Int):Option (Int):=
 bif (decide (i<(f.length:Int))) then
  (Rb f i).bind fun r0=>
  bif (r0 != 0) then
   some r0
  else
   (idx f i).bind fun v1=>
   (cE v1.1).bind fun r2=>
   rB f i r2 0
 else
  some 0
theorem pU (f i):dg f i=mf ab2 mM b7 f i:=(l1 57 0 _).trans (by kernel_rfl)
def mh (rB:ae ab2)(mi:ae dg)(wO:ae gw)(fi:ae bD)(f:List ((List Int)×ByteArray×Unit))(i:Int)(bl:List (List Int))(k:Int):Option (Int):=
 bif (decide (k<(bl.length:Int))) then
  (idx bl k).bind fun v0=>
  (wO f i v0).bind fun r1=>
  bif (decide (r1<0)) then
   some 7
  else
   rB f i bl (IntKind.wrap .i64 (k+1))
 else
  bif (decide (i>0)) then
   (idx f i).bind fun v2=>
   (idx f (IntKind.wrap .i64 (i - 1))).bind fun v3=>
   (fi v2.2.1 v3.2.1).bind fun r4=>
   bif (decide (r4<0)) then
    some 6
   else
    mi f (IntKind.wrap .i64 (i+1))
  else
   mi f (IntKind.wrap .i64 (i+1))
theorem pV (f i bl k):ab2 f i bl k=mh ab2 dg gw bD f i bl k:=(l1 57 1 _).trans (by kernel_rfl)
def wP (mi:ae dg)(f:List ((List Int)×ByteArray×Unit)):Option (Int):=
 bif (decide ((f.length:Int)>1024)) then
  some 3
 else
  mi f 0
theorem Dh (f):kX f=wP dg f:=(e1 57 _).trans (by kernel_rfl)
def pW (kF:ae eS)(out:Nat)(i:Int)(aH:H4)(lL:H8):Option (List ((List Int)×ByteArray×Unit)):=
 (af lL out).bind fun v0=>
 bif (decide (i<(v0.length:Int))) then
  kF out i i aH lL
 else
  (typed (hs [] [] [] [] aH [] [] [] lL []) (.slice (.st (.pair (.slice (.int .i64)) (.pair (.str) (.unit))))) (.rv (.cv ⟨.ref 8,out⟩))).bind fun v1=>
  some v1
theorem xx (out i aH lL):dC out i aH lL=pW eS out i aH lL:=(l1 98 0 _).trans (by kernel_rfl)
def pX (ac6:ae dC)(kF:ae eS)(fi:ae bD)(bG:ae bu)(out:Nat)(i:Int)(k:Int)(aH:H4)(lL:H8):Option (List ((List Int)×ByteArray×Unit)):=
 bif (decide (k>0)) then
  (af lL out).bind fun v0=>
  (idx v0 k).bind fun _=>
  (af lL out).bind fun v1=>
  (v1[k.toNat]?).bind fun v2=>
  (af lL out).bind fun v3=>
  (idx v3 (IntKind.wrap .i64 (k - 1))).bind fun _=>
  (af lL out).bind fun v4=>
  (v4[(IntKind.wrap .i64 (k - 1)).toNat]?).bind fun v5=>
  (fi v2.2.1 v5.2.1).bind fun r6=>
  bif (decide (r6>0)) then
   ac6 out (IntKind.wrap .i64 (i+1)) aH lL
  else
   bif (r6==0) then
    (af lL out).bind fun v7=>
    (idx v7 k).bind fun _=>
    (af lL out).bind fun v8=>
    (v8[k.toNat]?).bind fun v9=>
    (af lL out).bind fun v10=>
    (idx v10 (IntKind.wrap .i64 (k - 1))).bind fun _=>
    (af lL out).bind fun v11=>
    (v11[(IntKind.wrap .i64 (k - 1)).toNat]?).bind fun v12=>
    (typed (hs [] [] [] [] aH [] [] [] lL []) (.slice (.int .i64)) (.rv (.cv ⟨.ref 4,v9.1⟩))).bind fun RP=>
    (typed (hs [] [] [] [] aH [] [] [] lL []) (.slice (.int .i64)) (.rv (.cv ⟨.ref 4,v12.1⟩))).bind fun I3=>
    (bG RP I3).bind fun TO=>
    bif (decide (TO>0)) then
     ac6 out (IntKind.wrap .i64 (i+1)) aH lL
    else
     (af lL out).bind fun v16=>
     (idx v16 (IntKind.wrap .i64 (k - 1))).bind fun _=>
     (af lL out).bind fun v17=>
     (v17[(IntKind.wrap .i64 (k - 1)).toNat]?).bind fun J9=>
     (af lL out).bind fun v19=>
     (idx v19 k).bind fun _=>
     (af lL out).bind fun v20=>
     (v20[k.toNat]?).bind fun v21=>
     (af lL out).bind fun v22=>
     (idx v22 k).bind fun _=>
     (af lL out).bind fun v23=>
     (v23[k.toNat]?).bind fun v24=>
     let e25:H8:=(b9 lL out (v23.set k.toNat (J9.1,(J9.2.1,()))))
     (af e25 out).bind fun v26=>
     (idx v26 (IntKind.wrap .i64 (k - 1))).bind fun _=>
     (af e25 out).bind fun v27=>
     (v27[(IntKind.wrap .i64 (k - 1)).toNat]?).bind fun v28=>
     let e29:H8:=(b9 e25 out (v27.set (IntKind.wrap .i64 (k - 1)).toNat (v21.1,(v21.2.1,()))))
     kF out i (IntKind.wrap .i64 (k - 1)) aH e29
   else
    (af lL out).bind fun v30=>
    (idx v30 (IntKind.wrap .i64 (k - 1))).bind fun _=>
    (af lL out).bind fun v31=>
    (v31[(IntKind.wrap .i64 (k - 1)).toNat]?).bind fun v32=>
    (af lL out).bind fun v33=>
    (idx v33 k).bind fun _=>
    (af lL out).bind fun v34=>
    (v34[k.toNat]?).bind fun v35=>
    (af lL out).bind fun v36=>
    (idx v36 k).bind fun _=>
    (af lL out).bind fun v37=>
    (v37[k.toNat]?).bind fun v38=>
    let e39:H8:=(b9 lL out (v37.set k.toNat (v32.1,(v32.2.1,()))))
    (af e39 out).bind fun v40=>
    (idx v40 (IntKind.wrap .i64 (k - 1))).bind fun _=>
    (af e39 out).bind fun v41=>
    (v41[(IntKind.wrap .i64 (k - 1)).toNat]?).bind fun v42=>
    let e43:H8:=(b9 e39 out (v41.set (IntKind.wrap .i64 (k - 1)).toNat (v35.1,(v35.2.1,()))))
    kF out i (IntKind.wrap .i64 (k - 1)) aH e43
 else
  ac6 out (IntKind.wrap .i64 (i+1)) aH lL
theorem xy (out i k aH lL):eS out i k aH lL=pX dC eS bD bu out i k aH lL:=(l1 98 1 _).trans (by kernel_rfl)
def Di (ac6:ae dC)(Nz:ae sg)(l:List ((List Int)×ByteArray×Unit)):Option (List ((List Int)×ByteArray×Unit)):=
 (Nz l ([]:H8) ([]:H4)).bind fun r0=>
 ac6 r0.1 0 r0.2.2 r0.2.1
theorem LV (l):sf l=Di dC sg l:=(e1 98 _).trans (by kernel_rfl)
def zd (wI:ae gE)(ly:ae dW)(wO:ae gw)(f:List ((List Int)×ByteArray×Unit))(i:Int):Option (Int):=
 (idx f i).bind fun v0=>
 (wI v0.1).bind fun r1=>
 bif (r1 != 0) then
  some r1
 else
  (idx f i).bind fun v2=>
  (ly v2.2.1).bind fun r3=>
  bif (!r3) then
   some 1
  else
   (idx f i).bind fun v4=>
   (wO f i v4.1).bind fun r5=>
   bif (decide (r5≥0)) then
    some 5
   else
    some 0
theorem E7 (f i):mM f i=zd gE dW gw f i:=(e1 99 _).trans (by kernel_rfl)
def mj (rC:ae ed)(bG:ae bu)(f:List ((List Int)×ByteArray×Unit))(n:Int)(s:List Int)(i:Int):Option (Int):=
 bif (decide (i<n)) then
  (idx f i).bind fun v0=>
  (bG v0.1 s).bind fun r1=>
  bif (r1==0) then
   some i
  else
   rC f n s (IntKind.wrap .i64 (i+1))
 else
  some (-1)
theorem pY (f n s i):ed f n s i=mj ed bu f n s i:=(l1 100 0 _).trans (by kernel_rfl)
def wQ (rC:ae ed)(f:List ((List Int)×ByteArray×Unit))(n:Int)(s:List Int):Option (Int):=
 rC f n s 0
theorem Dj (f n s):gw f n s=wQ ed f n s:=(e1 100 _).trans (by kernel_rfl)
def pZ (fy:ae gF)(l:List ((List Int)×ByteArray×Unit))(out:Nat)(i:Int)(aH:H4)(lL:H8):Option ((Nat)×H8×H4):=
 bif (decide (i<(l.length:Int))) then
  (idx l i).bind fun v0=>
  (af (aH++[some ([]:List Int)]) (aH.length+1:Nat)).bind fun v1=>
  bif (aP 8 1 v1.length v0.1.length) then
  bif v0.1.isEmpty then
   (idx l i).bind fun v2=>
   let e3:H8:=(lL++[some ([((aH.length+1:Nat),(v2.2.1,()))]:List (Nat×ByteArray×Unit))])
   (af e3 out).bind fun v4=>
   (af e3 (lL.length+1:Nat)).bind fun v5=>
   bif (aP 40 2 v4.length v5.length) then
   bif v5.isEmpty then
    fy l out (IntKind.wrap .i64 (i+1)) (aH++[some ([]:List Int)]) e3
   else
    fy l ((ix e3 out).length+1:Nat) (IntKind.wrap .i64 (i+1)) (aH++[some ([]:List Int)]) ((ix e3 out)++[some (v4++v5)])
   else none
  else
   let e6:H4:=((ix (aH++[some ([]:List Int)]) (aH.length+1:Nat))++[some (v1++v0.1)])
   let e7:Nat:=((ix (aH++[some ([]:List Int)]) (aH.length+1:Nat)).length+1:Nat)
   (idx l i).bind fun v8=>
   let e9:H8:=(lL++[some ([(e7,(v8.2.1,()))]:List (Nat×ByteArray×Unit))])
   (af e9 out).bind fun v10=>
   (af e9 (lL.length+1:Nat)).bind fun v11=>
   bif (aP 40 2 v10.length v11.length) then
   bif v11.isEmpty then
    fy l out (IntKind.wrap .i64 (i+1)) e6 e9
   else
    fy l ((ix e9 out).length+1:Nat) (IntKind.wrap .i64 (i+1)) e6 ((ix e9 out)++[some (v10++v11)])
   else none
  else none
 else
  some (out,(lL,aH))
theorem xz (l out i aH lL):gF l out i aH lL=pZ gF l out i aH lL:=(l1 142 0 _).trans (by kernel_rfl)
def Dk (fy:ae gF)(l:List ((List Int)×ByteArray×Unit))(lL:H8)(aH:H4):Option ((Nat)×H8×H4):=
 fy l (0:Nat) 0 aH lL
theorem LW (l lL aH):sg l lL aH=Dk gF l lL aH:=(e1 142 _).trans (by kernel_rfl)
end
end Go.Proofs.YtofjebmoebhiiaaGreatDoor.Ev
namespace Go.Proofs.YtofjebmoebhiiaaGreatDoor.Ev
open Go.Abs
noncomputable section
def ml (rD:ae hZ)(n:Int)(x:List (List Int))(x2:List Int)(x3:Int)(x4:List Int)(t:Int)(t2:Nat)(c:Int)(c2:tB):Option gi:=
 bif (decide ((IntKind.wrap .i64 (n+2))<(x4.length:Int))) then
  bif (decide (n<24)) then
   bif (decide ((c2.length:Int)>0)) then
    (idx x4 n).bind fun v0=>
    bif (!((c2.length:Int)==0)) then
    let e1:Int:=(IntKind.wrap .i64 ((v0.tmod (c2.length:Int))+(c2.length:Int)))
    bif (!((c2.length:Int)==0)) then
    (idx x4 (IntKind.wrap .i64 (n+1))).bind fun v2=>
    bif (!((IntKind.wrap .i64 (c - 1))==0)) then
    let e3:Int:=(IntKind.wrap .i64 ((v2.tmod (IntKind.wrap .i64 (c - 1)))+c))
    bif (!((IntKind.wrap .i64 (c - 1))==0)) then
    let e4:Int:=((IntKind.wrap .i64 (e3 - 1)).tmod (IntKind.wrap .i64 (c - 1)))
    let e5:Int:=(IntKind.wrap .i64 ((e1.tmod (c2.length:Int)) - 1))
    rD n (e1.tmod (c2.length:Int)) (IntKind.wrap .i64 (1+e4)) e5 x x2 x3 x4 t t2 c c2
    else none
    else none
    else none
    else none
   else
    some (c,(c2,()))
  else
   some (c,(c2,()))
 else
  some (c,(c2,()))
theorem afS (n x x2 x3 x4 t t2 c c2):ab1 n x x2 x3 x4 t t2 c c2=ml hZ n x x2 x3 x4 t t2 c c2:=(l1 14 0 _).trans (by kernel_rfl)
def rE (rD:ae hZ)(fR:ae ab1)(Gu:ae vP)(n:Int)(j:Int)(k:Int)(i:Int)(x:List (List Int))(x2:List Int)(x3:Int)(x4:List Int)(t:Int)(t2:Nat)(c:Int)(c2:tB):Option gi:=
 bif (decide (i≥0)) then
  (idx c2 i).bind fun v0=>
  (idx c2 j).bind fun v1=>
  bif (v0.1 != v1.1) then
   rD n j k (IntKind.wrap .i64 (i - 1)) x x2 x3 x4 t t2 c c2
  else
   bif (decide (i≥0)) then
    (idx x4 (IntKind.wrap .i64 (n+2))).bind fun v2=>
    bif (!(c==0)) then
    bif (!(c==0)) then
    (Gu (c,(c2,())) i j k ((IntKind.wrap .i64 ((v2.tmod c)+c)).tmod c)).bind fun r3=>
    fR (IntKind.wrap .i64 (n+3)) x x2 x3 x4 t t2 r3.1 r3.2.1
    else none
    else none
   else
    fR (IntKind.wrap .i64 (n+3)) x x2 x3 x4 t t2 c c2
 else
  bif (decide (i≥0)) then
   (idx x4 (IntKind.wrap .i64 (n+2))).bind fun v4=>
   bif (!(c==0)) then
   bif (!(c==0)) then
   (Gu (c,(c2,())) i j k ((IntKind.wrap .i64 ((v4.tmod c)+c)).tmod c)).bind fun r5=>
   fR (IntKind.wrap .i64 (n+3)) x x2 x3 x4 t t2 r5.1 r5.2.1
   else none
   else none
  else
   fR (IntKind.wrap .i64 (n+3)) x x2 x3 x4 t t2 c c2
theorem ze (n j k i x x2 x3 x4 t t2 c c2):hZ n j k i x x2 x3 x4 t t2 c c2=rE hZ ab1 vP n j k i x x2 x3 x4 t t2 c c2:=(l1 14 1 _).trans (by kernel_rfl)
def E8 (fR:ae ab1)(PE:ae tE)(PF:ae tF)(CJ:ae kK)(x:(List (List Int))×(List Int)×Int×(List Int)×Unit)(most:Int):Option gi:=
 let e0:Int:=(bif decide (40<(x.1.length:Int)) then 40 else (x.1.length:Int))
 bif (dN x.1.length 0 e0) then
 (PE (cut x.1 0 e0) x.2.1 5 3 6).bind fun r1=>
 let e2:Int:=(bif decide (most<(r1.length:Int)) then most else (r1.length:Int))
 bif (dN r1.length 0 e2) then
 (PF x.2.2.1).bind fun r3=>
 (CJ (cut r1 0 e2) r3).bind fun r4=>
 fR 0 x.1 x.2.1 x.2.2.1 x.2.2.2.1 0 (0:Nat) r4.1.1 r4.1.2.1
 else none
 else none
theorem NA (x most):tC x most=E8 ab1 tE tF kK x most:=(e1 14 _).trans (by kernel_rfl)
def p4 (p5:ae gm)(i:Int)(c:Int)(c2:tB)(t:Int)(t2:Nat)(out:Int)(ax:Nat)(mL:H0):Option ((Int×Nat×Unit)×H0):=
 bif (decide (i<(c2.length:Int))) then
  (idx c2 i).bind fun v0=>
  bif (aP 16 2 0 v0.2.2.1.length) then
  let e1:tB:=([(v0.1,(v0.2.1,((([]:bX)++v0.2.2.1),())))]:tB)
  (af mL ax).bind fun v2=>
  bif (aP 48 3 v2.length 1) then
  p5 (IntKind.wrap .i64 (i+1)) c c2 t t2 out ((ix mL ax).length+1:Nat) ((ix mL ax)++[some (v2++e1)])
  else none
  else none
 else
  (typed (hs ([]) [] [] [] [] [] [] [] [] []) yG (.rv (.agg [⟨.int .i64,out⟩,⟨.ref 0,ax⟩]))).bind fun v3=>
  some (v3,mL)
theorem xA (i c c2 t t2 out ax mL):gm i c c2 t t2 out ax mL=p4 gm i c c2 t t2 out ax mL:=(l1 15 0 _).trans (by kernel_rfl)
def Dl (p5:ae gm)(c:gi)(mL:H0):Option ((Int×Nat×Unit)×H0):=
 p5 0 c.1 c.2.1 0 (0:Nat) c.1 (0:Nat) mL
theorem LZ (c mL):rY c mL=Dl gm c mL:=(e1 15 _).trans (by kernel_rfl)
def rF (rG:ae ia)(NB:ae rZ)(j:Int)(c:Int)(c2:tB):Option (Int):=
 bif (decide (j<(c2.length:Int))) then
  (NB (c,(c2,())) j).bind fun r0=>
  bif (r0 != 0) then
   some r0
  else
   rG (IntKind.wrap .i64 (j+1)) c c2
 else
  some 0
theorem zf (j c c2):ia j c c2=rF ia rZ j c c2:=(l1 16 0 _).trans (by kernel_rfl)
def E9 (rG:ae ia)(wR:ae fu)(c:gi):Option (Int):=
 (wR c.1).bind fun r0=>
 bif (!r0) then
  some 8
 else
  bif (decide ((c.2.1.length:Int)>1024)) then
   some 3
  else
   rG 0 c.1 c.2.1
theorem NC (c):tD c=E9 ia fu c:=(e1 16 _).trans (by kernel_rfl)
def ta (lA:ae c5)(a:bX)(b:bX)(i:Int):Option (Bool):=
 bif (decide (i<(a.length:Int))) then
  (idx a i).bind fun v0=>
  (idx b i).bind fun v1=>
  bif (!(zP yT (v0.1,(v0.2.1,())) (v1.1,(v1.2.1,())))) then
   some false
  else
   lA a b (IntKind.wrap .i64 (i+1))
 else
  some true
theorem DR (a b i):c5 a b i=ta c5 a b i:=(l1 30 0 _).trans (by kernel_rfl)
def xB (lA:ae c5)(a:bX)(b:bX):Option (Bool):=
 bif ((a.length:Int) != (b.length:Int)) then
  some false
 else
  lA a b 0
theorem Hi (a b):iO a b=xB c5 a b:=(e1 30 _).trans (by kernel_rfl)
def wS (wT:ae gp)(cE:ae b7)(f:List ((List Int)×ByteArray×Unit))(p:Int)(j:Int)(t:Int)(t2:Nat)(out:Int)(ax:Nat):Option (gi×Int):=
 bif (decide (j<(f.length:Int))) then
  bif (gK 8 j j) then
  let e0:H4:=(([]:H4)++[some (List.replicate j.toNat 0)])
  let e1:Nat:=(([]:H4).length+1:Nat)
  (idx f j).bind fun v2=>
  (cE v2.1).bind fun r3=>
  wT f p j e1 r3 0 t t2 out ax e0
  else none
 else
  (Ss (typed h0 yH (.rv (.agg [⟨.int .i64,out⟩,⟨.ref 0,ax⟩]))) (some 0)).bind fun v4=>
  some v4
theorem Dm (f p j t t2 out ax):og f p j t t2 out ax=wS gp b7 f p j t t2 out ax:=(l1 33 0 _).trans (by kernel_rfl)
def p6 (p7:ae iW)(uT:ae dy)(dL:ae bo)(f:List ((List Int)×ByteArray×Unit))(p:Int)(j:Int)(v:Nat)(bl:List (List Int))(k:Int)(t:Int)(t2:Nat)(out:Int)(ax:Nat)(aH:H4):Option (gi×Int):=
 bif (decide (k<(bl.length:Int))) then
  p7 f p j v bl k 0 t t2 out ax aH
 else
  (idx f j).bind fun v0=>
  let e1:Int:=(IntKind.wrap .i64 ((v0.1.length:Int) - 1))
  (idx f j).bind fun v2=>
  (dL v aH).bind fun r3=>
  let e4:tB:=([(e1,(v2.2.1,(r3,())))]:tB)
  (af ([]:H0) ax).bind fun v5=>
  bif (aP 48 3 v5.length 1) then
  let e6:H0:=((ix ([]:H0) ax)++[some (v5++e4)])
  let e7:Nat:=((ix ([]:H0) ax).length+1:Nat)
  uT f p (IntKind.wrap .i64 (j+1)) t t2 out e7 e6 aH
  else none
theorem uU (f p j v bl k t t2 out ax aH):gp f p j v bl k t t2 out ax aH=p6 iW dy bo f p j v bl k t t2 out ax aH:=(l1 33 1 _).trans (by kernel_rfl)
def wU (p7:ae iW)(wT:ae gp)(bG:ae bu)(f:List ((List Int)×ByteArray×Unit))(p:Int)(j:Int)(v:Nat)(bl:List (List Int))(k:Int)(i:Int)(t:Int)(t2:Nat)(out:Int)(ax:Nat)(aH:H4):Option (gi×Int):=
 bif (decide (i<j)) then
  (idx f i).bind fun v0=>
  (idx bl k).bind fun v1=>
  (bG v0.1 v1).bind fun r2=>
  bif (r2==0) then
   let e3:Int:=(IntKind.wrap .i64 ((k.tmod 2)*(IntKind.wrap .i64 (p - 2))))
   bif (!(p==0)) then
   (af aH v).bind fun v4=>
   (idx v4 i).bind fun _=>
   (af aH v).bind fun v5=>
   (v5[i.toNat]?).bind fun v6=>
   let e7:H4:=(b9 aH v (v5.set i.toNat ((IntKind.wrap .i64 (1+e3)).tmod p)))
   p7 f p j v bl k (IntKind.wrap .i64 (i+1)) t t2 out ax e7
   else none
  else
   p7 f p j v bl k (IntKind.wrap .i64 (i+1)) t t2 out ax aH
 else
  wT f p j v bl (IntKind.wrap .i64 (k+1)) t t2 out ax aH
theorem aid (f p j v bl k i t t2 out ax aH):iW f p j v bl k i t t2 out ax aH=wU iW gp bu f p j v bl k i t t2 out ax aH:=(l1 33 2 _).trans (by kernel_rfl)
def nT (uV:ae eG)(cE:ae b7)(f:List ((List Int)×ByteArray×Unit))(p:Int)(j:Int)(t:Int)(t2:Nat)(out:Int)(ax:Nat)(mL:H0)(aH:H4):Option (gi×Int):=
 bif (decide (j<(f.length:Int))) then
  bif (gK 8 j j) then
  let e0:H4:=(aH++[some (List.replicate j.toNat 0)])
  (idx f j).bind fun v1=>
  (cE v1.1).bind fun r2=>
  uV f p j (aH.length+1:Nat) r2 0 t t2 out ax mL e0
  else none
 else
  (Ss (typed (hs mL [] [] [] aH [] [] [] [] []) yH (.rv (.agg [⟨.int .i64,out⟩,⟨.ref 0,ax⟩]))) (some 0)).bind fun v3=>
  some v3
theorem tb (f p j t t2 out ax mL aH):dy f p j t t2 out ax mL aH=nT eG b7 f p j t t2 out ax mL aH:=(l1 33 0 _).trans (by kernel_rfl)
def nU (nV:ae fH)(uT:ae dy)(dL:ae bo)(f:List ((List Int)×ByteArray×Unit))(p:Int)(j:Int)(v:Nat)(bl:List (List Int))(k:Int)(t:Int)(t2:Nat)(out:Int)(ax:Nat)(mL:H0)(aH:H4):Option (gi×Int):=
 bif (decide (k<(bl.length:Int))) then
  nV f p j v bl k 0 t t2 out ax mL aH
 else
  (idx f j).bind fun v0=>
  let e1:Int:=(IntKind.wrap .i64 ((v0.1.length:Int) - 1))
  (idx f j).bind fun v2=>
  (dL v aH).bind fun r3=>
  let e4:tB:=([(e1,(v2.2.1,(r3,())))]:tB)
  (af mL ax).bind fun v5=>
  bif (aP 48 3 v5.length 1) then
  uT f p (IntKind.wrap .i64 (j+1)) t t2 out ((ix mL ax).length+1:Nat) ((ix mL ax)++[some (v5++e4)]) aH
  else none
theorem tc (f p j v bl k t t2 out ax mL aH):eG f p j v bl k t t2 out ax mL aH=nU fH dy bo f p j v bl k t t2 out ax mL aH:=(l1 33 1 _).trans (by kernel_rfl)
def nW (nV:ae fH)(uV:ae eG)(bG:ae bu)(f:List ((List Int)×ByteArray×Unit))(p:Int)(j:Int)(v:Nat)(bl:List (List Int))(k:Int)(i:Int)(t:Int)(t2:Nat)(out:Int)(ax:Nat)(mL:H0)(aH:H4):Option (gi×Int):=
 bif (decide (i<j)) then
  (idx f i).bind fun v0=>
  (idx bl k).bind fun v1=>
  (bG v0.1 v1).bind fun r2=>
  bif (r2==0) then
   let e3:Int:=(IntKind.wrap .i64 ((k.tmod 2)*(IntKind.wrap .i64 (p - 2))))
   bif (!(p==0)) then
   (af aH v).bind fun v4=>
   (idx v4 i).bind fun _=>
   (af aH v).bind fun v5=>
   (v5[i.toNat]?).bind fun v6=>
   let e7:H4:=(b9 aH v (v5.set i.toNat ((IntKind.wrap .i64 (1+e3)).tmod p)))
   nV f p j v bl k (IntKind.wrap .i64 (i+1)) t t2 out ax mL e7
   else none
  else
   nV f p j v bl k (IntKind.wrap .i64 (i+1)) t t2 out ax mL aH
 else
  uV f p j v bl (IntKind.wrap .i64 (k+1)) t t2 out ax mL aH
theorem td (f p j v bl k i t t2 out ax mL aH):fH f p j v bl k i t t2 out ax mL aH=nW fH eG bu f p j v bl k i t t2 out ax mL aH:=(l1 33 2 _).trans (by kernel_rfl)
def CM (PG:ae og)(wR:ae fu)(PH:ae kX)(f:List ((List Int)×ByteArray×Unit))(p:Int):Option (gi×Int):=
 (wR p).bind fun r0=>
 bif (!r0) then
  (Ss (typed h0 yH (.rv (.agg [⟨.int .i64,(0:Int)⟩,⟨.ref 0,(0:Nat)⟩]))) (some 8)).bind fun v1=>
  some v1
 else
  (PH f).bind fun r2=>
  bif (r2 != 0) then
   (Ss (typed h0 yH (.rv (.agg [⟨.int .i64,(0:Int)⟩,⟨.ref 0,(0:Nat)⟩]))) (some r2)).bind fun v3=>
   some v3
  else
   PG f p 0 0 (0:Nat) p (0:Nat)
theorem It (f p):kK f p=CM og fu kX f p:=(e1 33 _).trans (by kernel_rfl)
def Fa (n:Int):Option (Int):=
 let e0:List Int:=([2,(3:Int),(5:Int),(2:Int),(251:Int),(7:Int)]:List Int)
 let e1:Int:=(IntKind.wrap .i64 ((n.tmod 6)+6))
 (idx e0 (e1.tmod 6)).bind fun _=>
 (e0[(e1.tmod 6).toNat]?).bind fun v2=>
 some v2
theorem ND (n):tF n=Fa n:=(e1 34 _).trans (by kernel_rfl)
def te (tf:ae iX)(tg:ae iY)(dL:ae bo)(i:Int)(j:Int)(k:Int)(m:Int)(inv:Int)(v:Nat)(a:List Int)(b:List Int)(n:Int)(c:Int)(c2:tB)(t:Int)(t2:Nat)(out:Int)(ax:Nat)(mL:H0)(aH:H4):Option gi:=
 (af aH v).bind fun v0=>
 bif (decide (n<(v0.length:Int))) then
  (idx a n).bind fun v1=>
  (idx b n).bind fun v2=>
  let e3:Int:=(IntKind.wrap .i64 ((IntKind.wrap .i64 (k*v1))+(IntKind.wrap .i64 (m*v2))))
  bif (!(c==0)) then
  (af aH v).bind fun v4=>
  (idx v4 n).bind fun _=>
  (af aH v).bind fun v5=>
  (v5[n.toNat]?).bind fun v6=>
  tf i j k m inv v a b (IntKind.wrap .i64 (n+1)) c c2 t t2 out ax mL (b9 aH v (v5.set n.toNat (e3.tmod c)))
  else none
 else
  (dL v aH).bind fun r7=>
  (af mL ax).bind fun v8=>
  (idx v8 j).bind fun _=>
  (af mL ax).bind fun v9=>
  (v9[j.toNat]?).bind fun v10=>
  let V5:H0:=(b9 mL ax (v9.set j.toNat (v10.1,(v10.2.1,(r7,())))))
  tg i j m inv (IntKind.wrap .i64 (j+1)) c c2 t t2 out ax V5 aH
theorem Aa (i j k m inv v a b n c c2 t t2 out ax mL aH):iX i j k m inv v a b n c c2 t t2 out ax mL aH=te iX iY bo i j k m inv v a b n c c2 t t2 out ax mL aH:=(l1 35 0 _).trans (by kernel_rfl)
def th (tg:ae iY)(Iu:ae lN)(dL:ae bo)(i:Int)(j:Int)(m:Int)(inv:Int)(n:Int)(c:Int)(c2:tB)(t:Int)(t2:Nat)(out:Int)(ax:Nat)(mL:H0)(aH:H4):Option gi:=
 bif (decide (n<(c2.length:Int))) then
  (idx c2 n).bind fun v0=>
  (Iu v0.2.2.1 (c2.length:Int) aH).bind fun r1=>
  (af r1.2 r1.1).bind fun v2=>
  (idx v2 i).bind fun _=>
  (af r1.2 r1.1).bind fun v3=>
  (v3[i.toNat]?).bind fun v4=>
  (af r1.2 r1.1).bind fun v5=>
  (idx v5 j).bind fun _=>
  (af r1.2 r1.1).bind fun v6=>
  (v6[j.toNat]?).bind fun v7=>
  let e8:Int:=(IntKind.wrap .i64 ((IntKind.wrap .i64 (c - 1))*v7))
  bif (!(c==0)) then
  bif (!(c==0)) then
  let e9:Int:=(IntKind.wrap .i64 (((IntKind.wrap .i64 ((e8.tmod c)*inv)).tmod c)*m))
  bif (!(c==0)) then
  (af r1.2 r1.1).bind fun v10=>
  (idx v10 i).bind fun _=>
  (af r1.2 r1.1).bind fun v11=>
  (v11[i.toNat]?).bind fun v12=>
  let O8:H4:=(b9 r1.2 r1.1 (v11.set i.toNat ((IntKind.wrap .i64 (v4+e9)).tmod c)))
  (af O8 r1.1).bind fun I3=>
  (idx I3 j).bind fun _=>
  (af O8 r1.1).bind fun ZL=>
  (ZL[j.toNat]?).bind fun v16=>
  bif (!(c==0)) then
  (af O8 r1.1).bind fun v17=>
  (idx v17 j).bind fun _=>
  (af O8 r1.1).bind fun J9=>
  (J9[j.toNat]?).bind fun v19=>
  let Qd:H4:=(b9 O8 r1.1 (J9.set j.toNat ((IntKind.wrap .i64 (v16*inv)).tmod c)))
  (dL r1.1 Qd).bind fun r21=>
  (af mL ax).bind fun v22=>
  (idx v22 n).bind fun _=>
  (af mL ax).bind fun v23=>
  (v23[n.toNat]?).bind fun v24=>
  let e25:H0:=(b9 mL ax (v23.set n.toNat (v24.1,(v24.2.1,(r21,())))))
  tg i j m inv (IntKind.wrap .i64 (n+1)) c c2 t t2 out ax e25 Qd
  else none
  else none
  else none
  else none
 else
  (typed (hs mL [] [] [] aH [] [] [] [] []) yH (.rv (.agg [⟨.int .i64,out⟩,⟨.ref 0,ax⟩]))).bind fun v26=>
  some v26
theorem Ab (i j m inv n c c2 t t2 out ax mL aH):iY i j m inv n c c2 t t2 out ax mL aH=th iY lN bo i j m inv n c c2 t t2 out ax mL aH:=(l1 35 1 _).trans (by kernel_rfl)
def Gv (tf:ae iX)(NF:ae rY)(ti:ae i6)(Fb:ae tG)(c:gi)(i:Int)(j:Int)(k:Int)(m:Int):Option gi:=
 (NF (c.1,(c.2.1,())) ([]:H0)).bind fun r0=>
 (ti c.1 k).bind fun r1=>
 bif (gK 8 (c.2.1.length:Int) (c.2.1.length:Int)) then
 let e2:H4:=(([]:H4)++[some (List.replicate (c.2.1.length:Int).toNat 0)])
 let e3:Nat:=(([]:H4).length+1:Nat)
 (idx c.2.1 j).bind fun v4=>
 (Fb v4.2.2.1 (c.2.1.length:Int)).bind fun r5=>
 (idx c.2.1 i).bind fun v6=>
 (Fb v6.2.2.1 (c.2.1.length:Int)).bind fun r7=>
 tf i j k m r1 e3 r5 r7 0 c.1 c.2.1 0 (0:Nat) r0.1.1 r0.1.2.1 r0.2 e2
 else none
theorem PI (c i j k m):vP c i j k m=Gv iX rY i6 tG c i j k m:=(e1 35 _).trans (by kernel_rfl)
def rH (rI:ae fB)(p:Int)(k:Int):Option (Bool):=
 bif (decide (k<p)) then
  bif (decide (p≤251)) then
   bif (!(k==0)) then
   bif ((p.tmod k)==0) then
    some false
   else
    rI p (IntKind.wrap .i64 (k+1))
   else none
  else
   bif (decide (p≥2)) then
    some (decide (p≤251))
   else
    some false
 else
  bif (decide (p≥2)) then
   some (decide (p≤251))
  else
   some false
theorem zg (p k):fB p k=rH fB p k:=(l1 36 0 _).trans (by kernel_rfl)
def wV (rI:ae fB)(p:Int):Option (Bool):=
 rI p 2
theorem Dp (p):fu p=wV fB p:=(e1 36 _).trans (by kernel_rfl)
def p8 (p9:ae gq)(qa:ae cW)(j:Int)(i:Int)(c:Int)(c2:tB)(x:Int)(x2:ByteArray)(x3:bX):Option (Int):=
 bif (decide (i<(x3.length:Int))) then
  (idx x3 i).bind fun v0=>
  bif (decide (v0.1≥j)) then
   some 7
  else
   p9 j (IntKind.wrap .i64 (i+1)) c c2 x x2 x3
 else
  qa j 0 c c2 x x2 x3
theorem xC (j i c c2 x x2 x3):gq j i c c2 x x2 x3=p8 gq cW j i c c2 x x2 x3:=(l1 37 0 _).trans (by kernel_rfl)
def qb (qa:ae cW)(PJ:ae tL)(NG:ae sc)(fi:ae bD)(j:Int)(i:Int)(c:Int)(c2:tB)(x:Int)(x2:ByteArray)(x3:bX):Option (Int):=
 bif (decide (i<(x3.length:Int))) then
  (idx x3 i).bind fun v0=>
  (idx c2 v0.1).bind fun v1=>
  bif (v1.1 != (IntKind.wrap .i64 (x - 1))) then
   some 10
  else
   qa j (IntKind.wrap .i64 (i+1)) c c2 x x2 x3
 else
  (PJ (c,(c2,())) x3).bind fun r2=>
  (NG r2).bind fun r3=>
  bif (decide ((r3.length:Int)>0)) then
   some 11
  else
   bif (decide (j>0)) then
    (idx c2 (IntKind.wrap .i64 (j - 1))).bind fun v4=>
    (fi x2 v4.2.1).bind fun r5=>
    bif (decide (r5<0)) then
     some 6
    else
     some 0
   else
    some 0
theorem xD (j i c c2 x x2 x3):cW j i c c2 x x2 x3=qb cW tL sc bD j i c c2 x x2 x3:=(l1 37 1 _).trans (by kernel_rfl)
def Dq (p9:ae gq)(ly:ae dW)(NH:ae se)(c:gi)(j:Int):Option (Int):=
 (idx c.2.1 j).bind fun v0=>
 bif (decide (v0.1<0)) then
  some 1
 else
  bif (decide (v0.1>4)) then
   some 1
  else
   (ly v0.2.1).bind fun r1=>
   bif (!r1) then
    some 1
   else
    (NH c.1 v0.2.2.1).bind fun r2=>
    bif (r2 != 0) then
     some r2
    else
     p9 j 0 c.1 c.2.1 v0.1 v0.2.1 v0.2.2.1
theorem L0 (c j):rZ c j=Dq gq dW se c j:=(e1 37 _).trans (by kernel_rfl)
def rJ (rK:ae ic)(x:bX)(i:Int)(out:List Int):Option (List Int):=
 bif (decide (i<(x.length:Int))) then
  (idx x i).bind fun v0=>
  (idx x i).bind fun v1=>
  (idx out v0.1).bind fun _=>
  (out[v0.1.toNat]?).bind fun v2=>
  rK x (IntKind.wrap .i64 (i+1)) (out.set v0.1.toNat v1.2.1)
 else
  some out
theorem zh (x i out):ic x i out=rJ ic x i out:=(l1 38 0 _).trans (by kernel_rfl)
def Fc (rK:ae ic)(x:bX)(n:Int):Option (List Int):=
 bif (gK 8 n n) then
 rK x 0 (List.replicate n.toNat 0)
 else none
theorem NI (x n):tG x n=Fc ic x n:=(e1 38 _).trans (by kernel_rfl)
def qc (kG:ae gr)(v:List Int)(i:Int)(out:bX):Option bX:=
 bif (decide (i<(v.length:Int))) then
  (idx v i).bind fun v0=>
  bif (v0 != 0) then
   (idx v i).bind fun v1=>
   bif (aP 16 2 out.length 1) then
   let e2:bX:=(out++([(i,(v1,()))]:bX))
   kG v (IntKind.wrap .i64 (i+1)) e2
   else none
  else
   kG v (IntKind.wrap .i64 (i+1)) out
 else
  some out
theorem xE (v i out):gr v i out=qc gr v i out:=(l1 40 0 _).trans (by kernel_rfl)
def Dr (kG:ae gr)(v:List Int):Option bX:=
 kG v 0 ([]:bX)
theorem L3 (v):sc v=Dr gr v:=(e1 40 _).trans (by kernel_rfl)
def oN (oO:ae fN)(p:Int)(a:Int)(b:Int):Option (Int):=
 bif (decide (b<p)) then
  bif (!(p==0)) then
  bif (((IntKind.wrap .i64 (a*b)).tmod p)==1) then
   some b
  else
   oO p a (IntKind.wrap .i64 (b+1))
  else none
 else
  some 0
theorem vB (p a b):fN p a b=oN fN p a b:=(l1 60 0 _).trans (by kernel_rfl)
def B3 (oO:ae fN)(p:Int)(a:Int):Option (Int):=
 oO p a 1
theorem KM (p a):i6 p a=B3 fN p a:=(e1 60 _).trans (by kernel_rfl)
def qd (kH:ae gu)(p:Int)(x:bX)(i:Int):Option (Int):=
 bif (decide (i<(x.length:Int))) then
  (idx x i).bind fun v0=>
  bif (decide (v0.1<0)) then
   some 1
  else
   (idx x i).bind fun v1=>
   bif (decide (v1.1≥1024)) then
    some 1
   else
    (idx x i).bind fun v2=>
    bif (decide (v2.2.1<1)) then
     some 1
    else
     (idx x i).bind fun v3=>
     bif (decide (v3.2.1≥p)) then
      some 1
     else
      bif (decide (i>0)) then
       (idx x i).bind fun v4=>
       (idx x (IntKind.wrap .i64 (i - 1))).bind fun v5=>
       bif (decide (v4.1≤v5.1)) then
        some 6
       else
        kH p x (IntKind.wrap .i64 (i+1))
      else
       kH p x (IntKind.wrap .i64 (i+1))
 else
  some 0
theorem xF (p x i):gu p x i=qd gu p x i:=(l1 62 0 _).trans (by kernel_rfl)
def aie (kH:ae gu)(p:Int)(x:bX):Option (Int):=
 kH p x 0
theorem L4 (p x):se p x=aie gu p x:=(e1 62 _).trans (by kernel_rfl)
def rL (rM:ae ij)(x:bX)(i:Int)(out:List Int)(c:Int)(c2:tB):Option (List Int):=
 bif (decide (i<(x.length:Int))) then
  (idx x i).bind fun v0=>
  (idx c2 v0.1).bind fun v1=>
  rM x i v1.2.2.1 0 out c c2
 else
  some out
theorem zi (x i out c c2):fD x i out c c2=rL ij x i out c c2:=(l1 63 0 _).trans (by kernel_rfl)
def rN (rM:ae ij)(rO:ae fD)(x:bX)(i:Int)(b:bX)(k:Int)(out:List Int)(c:Int)(c2:tB):Option (List Int):=
 bif (decide (k<(b.length:Int))) then
  (idx b k).bind fun v0=>
  (idx b k).bind fun v1=>
  (idx out v1.1).bind fun _=>
  (out[v1.1.toNat]?).bind fun v2=>
  (idx x i).bind fun v3=>
  (idx b k).bind fun v4=>
  let e5:Int:=(IntKind.wrap .i64 (v2+(IntKind.wrap .i64 (v3.2.1*v4.2.1))))
  bif (!(c==0)) then
  (idx out v0.1).bind fun _=>
  (out[v0.1.toNat]?).bind fun v6=>
  rM x i b (IntKind.wrap .i64 (k+1)) (out.set v0.1.toNat (e5.tmod c)) c c2
  else none
 else
  rO x (IntKind.wrap .i64 (i+1)) out c c2
theorem zj (x i b k out c c2):ij x i b k out c c2=rN ij fD x i b k out c c2:=(l1 63 1 _).trans (by kernel_rfl)
def Fe (rO:ae fD)(c:gi)(x:bX):Option (List Int):=
 bif (gK 8 (c.2.1.length:Int) (c.2.1.length:Int)) then
 let e0:List Int:=(List.replicate (c.2.1.length:Int).toNat 0)
 rO x 0 e0 c.1 c.2.1
 else none
theorem NJ (c x):tL c x=Fe fD c x:=(e1 63 _).trans (by kernel_rfl)
def lB (lC:ae aaO)(x:bX)(i:Int)(out:List Int):Option (List Int):=
 bif (decide (i<(x.length:Int))) then
  (idx x i).bind fun v0=>
  (idx x i).bind fun v1=>
  (idx out v0.1).bind fun _=>
  (out[v0.1.toNat]?).bind fun v2=>
  lC x (IntKind.wrap .i64 (i+1)) (out.set v0.1.toNat v1.2.1)
 else
  some out
theorem sq (x i out):aaO x i out=lB aaO x i out:=(l1 101038 0 _).trans (by kernel_rfl)
def xG (lC:ae aaO)(x:bX)(n:Int):Option (List Int):=
 bif (gK 8 n n) then
 lC x 0 (List.replicate n.toNat 0)
 else none
theorem Hj (x n):lM x n=xG aaO x n:=(e1 101038 _).trans (by kernel_rfl)
def lD (lE:ae aa0)(x:bX)(out:Nat)(i:Int)(aH:H4):Option ((Nat)×H4):=
 bif (decide (i<(x.length:Int))) then
  (idx x i).bind fun v0=>
  (idx x i).bind fun v1=>
  (af aH out).bind fun v2=>
  (idx v2 v0.1).bind fun _=>
  (af aH out).bind fun v3=>
  (v3[v0.1.toNat]?).bind fun v4=>
  lE x out (IntKind.wrap .i64 (i+1)) (b9 aH out (v3.set v0.1.toNat v1.2.1))
 else
  some (out,aH)
theorem sr (x out i aH):aa0 x out i aH=lD aa0 x out i aH:=(l1 102038 0 _).trans (by kernel_rfl)
def xH (lE:ae aa0)(x:bX)(n:Int)(aH:H4):Option ((Nat)×H4):=
 bif (gK 8 n n) then
 let e0:H4:=(aH++[some (List.replicate n.toNat 0)])
 lE x (aH.length+1:Nat) 0 e0
 else none
theorem Hk (x n aH):lN x n aH=xH aa0 x n aH:=(e1 102038 _).trans (by kernel_rfl)
def iK (iL:ae cB)(v:Nat)(i:Int)(out:bX)(aH:H4):Option bX:=
 (af aH v).bind fun v0=>
 bif (decide (i<(v0.length:Int))) then
  (af aH v).bind fun v1=>
  (idx v1 i).bind fun _=>
  (af aH v).bind fun v2=>
  (v2[i.toNat]?).bind fun v3=>
  bif (v3 != 0) then
   (af aH v).bind fun v4=>
   (idx v4 i).bind fun _=>
   (af aH v).bind fun v5=>
   (v5[i.toNat]?).bind fun v6=>
   bif (aP 16 2 out.length 1) then
   let e7:bX:=(out++([(i,(v6,()))]:bX))
   iL v (IntKind.wrap .i64 (i+1)) e7 aH
   else none
  else
   iL v (IntKind.wrap .i64 (i+1)) out aH
 else
  some out
theorem lF (v i out aH):cB v i out aH=iK cB v i out aH:=(l1 100040 0 _).trans (by kernel_rfl)
def qe (iL:ae cB)(v:Nat)(aH:H4):Option bX:=
 iL v 0 ([]:bX) aH
theorem xI (v aH):bo v aH=qe cB v aH:=(e1 100040 _).trans (by kernel_rfl)
end
end Go.Proofs.YtofjebmoebhiiaaGreatDoor.Ev
namespace Go.Proofs.YtofjebmoebhiiaaGreatDoor.Ev
open Go.Abs
noncomputable section
def iM (mJ:ae cA)(a:bX)(b:bX)(i:Int):Option (Bool):=
 bif (decide (i<(a.length:Int))) then
  (idx a i).bind fun v0=>
  (idx b i).bind fun v1=>
  bif (!(zP yT (v0.1,(v0.2.1,())) (v1.1,(v1.2.1,())))) then
   some false
  else
   mJ a b (IntKind.wrap .i64 (i+1))
 else
  some true
theorem lG (a b i):cA a b i=iM cA a b i:=(l1 23 0 _).trans (by kernel_rfl)
def qf (mJ:ae cA)(a:bX)(b:bX):Option (Bool):=
 bif ((a.length:Int) != (b.length:Int)) then
  some false
 else
  mJ a b 0
theorem xJ (a b):dA a b=qf cA a b:=(e1 23 _).trans (by kernel_rfl)
end
end Go.Proofs.YtofjebmoebhiiaaGreatDoor.Ev
namespace Go.Proofs.YtofjebmoebhiiaaGreatDoor.Ev
open Go.Abs
noncomputable section
def af6 (af7:ae ac2)(n:Int)(j:Int)(c:Int)(c2:tB)(t:Int)(t2:Nat)(out:Int)(ax:Nat)(mL:H0)(aH:H4):Option gi:=
 bif (decide (j<n)) then
  let e0:Int:=(IntKind.wrap .i64 ((IntKind.wrap .i64 (n - 1)) - j))
  (idx c2 e0).bind fun v1=>
  bif (gK 8 n n) then
  let e2:H4:=(aH++[some (List.replicate n.toNat 0)])
  af7 n j (aH.length+1:Nat) 0 c c2 t t2 out ax v1.1 v1.2.1 v1.2.2.1 mL e2
  else none
 else
  (typed (hs mL [] [] [] aH [] [] [] [] []) yH (.rv (.agg [⟨.int .i64,out⟩,⟨.ref 0,ax⟩]))).bind fun v3=>
  some v3
theorem ahW (n j c c2 t t2 out ax mL aH):adr n j c c2 t t2 out ax mL aH=af6 ac2 n j c c2 t t2 out ax mL aH:=(l1 17 0 _).trans (by kernel_rfl)
def agk (af7:ae ac2)(akq:ae adr)(Fb:ae tG)(akN:ae adw)(dL:ae bo)(n:Int)(j:Int)(v:Nat)(i:Int)(c:Int)(c2:tB)(t:Int)(t2:Nat)(out:Int)(ax:Nat)(x:Int)(x2:ByteArray)(x3:bX)(mL:H0)(aH:H4):Option gi:=
 bif (decide (i<n)) then
  let e0:Int:=(IntKind.wrap .i64 ((IntKind.wrap .i64 (n - 1)) - i))
  (idx c2 e0).bind fun v1=>
  (Fb v1.2.2.1 n).bind fun r2=>
  let e3:Int:=(IntKind.wrap .i64 ((IntKind.wrap .i64 (n - 1)) - j))
  (idx r2 e3).bind fun v4=>
  (af aH v).bind fun v5=>
  (idx v5 i).bind fun _=>
  (af aH v).bind fun v6=>
  (v6[i.toNat]?).bind fun v7=>
  af7 n j v (IntKind.wrap .i64 (i+1)) c c2 t t2 out ax x x2 x3 mL (b9 aH v (v6.set i.toNat v4))
 else
  (akN x2).bind fun r8=>
  (dL v aH).bind fun r9=>
  let ZD:tB:=([((IntKind.wrap .i64 (4 - x)),(r8,(r9,())))]:tB)
  (af mL ax).bind fun v11=>
  bif (aP 48 3 v11.length 1) then
  akq n (IntKind.wrap .i64 (j+1)) c c2 t t2 out ((ix mL ax).length+1:Nat) ((ix mL ax)++[some (v11++ZD)]) aH
  else none
theorem ah3 (n j v i c c2 t t2 out ax x x2 x3 mL aH):ac2 n j v i c c2 t t2 out ax x x2 x3 mL aH=agk ac2 adr tG adw bo n j v i c c2 t t2 out ax x x2 x3 mL aH:=(l1 17 1 _).trans (by kernel_rfl)
def aiM (akO:ae aho)(c:gi):Option gi:=
 akO (c.2.1.length:Int) 0 c.1 c.2.1 0 (0:Nat) c.1 (0:Nat)
theorem ak2 (c):ahg c=aiM aho c:=(e1 17 _).trans (by kernel_rfl)
def agm (ada:ae ac9)(FO:ae oh)(e:Nat)(d:Int)(c:Int)(c2:tB)(aH:H4)(qI:List (Option (List (gi×Nat×Nat×Nat×Int×Int×Unit))))(sA:List (Option H4))(uA:H7):Option (bX×Int×Int):=
 bif (decide (d≥0)) then
  ada e d 0 c c2 aH qI sA uA
 else
  (FO e qI sA aH uA).bind fun r0=>
  bif (!(Nat.beq e 0)) then
  bif (!(Nat.beq e 0)) then
  (af qI e).bind fun v1=>
  (v1[0]?).bind fun v2=>
  bif (!(Nat.beq e 0)) then
  bif (!(Nat.beq e 0)) then
  (af qI e).bind fun v3=>
  (v3[0]?).bind fun v4=>
  some (r0,v2.2.2.2.2.1,v4.2.2.2.2.2.1)
  else none
  else none
  else none
  else none
theorem ah4 (e d c c2 aH qI sA uA):ac3 e d c c2 aH qI sA uA=agm ac9 oh e d c c2 aH qI sA uA:=(l1 25 0 _).trans (by kernel_rfl)
def agr (ada:ae ac9)(ags:ae ac3)(Ff:ae fV)(e:Nat)(d:Int)(j:Int)(c:Int)(c2:tB)(aH:H4)(qI:List (Option (List (gi×Nat×Nat×Nat×Int×Int×Unit))))(sA:List (Option H4))(uA:H7):Option (bX×Int×Int):=
 bif (decide (j<(c2.length:Int))) then
  (idx c2 j).bind fun v0=>
  bif (v0.1 != d) then
   ada e d (IntKind.wrap .i64 (j+1)) c c2 aH qI sA uA
  else
   bif (!(Nat.beq e 0)) then
   bif (!(Nat.beq e 0)) then
   (af qI e).bind fun v1=>
   (v1[0]?).bind fun v2=>
   (af sA v2.2.1).bind fun v3=>
   (idx v3 j).bind fun _=>
   (af sA v2.2.1).bind fun v4=>
   (v4[j.toNat]?).bind fun v5=>
   bif (!(Option.isNone v5)) then
    bif (!(Nat.beq e 0)) then
    bif (!(Nat.beq e 0)) then
    (af qI e).bind fun v6=>
    (v6[0]?).bind fun v7=>
    bif (!(Nat.beq e 0)) then
    bif (!(Nat.beq e 0)) then
    (af qI e).bind fun v8=>
    (v8[0]?).bind fun v9=>
    let ZD:List (Option (List (gi×Nat×Nat×Nat×Int×Int×Unit))):=(b9 qI e (v8.set 0 ((v9.1.1,(v9.1.2.1,())),(v9.2.1,(v9.2.2.1,(v9.2.2.2.1,(v9.2.2.2.2.1,((IntKind.wrap .i64 (v7.2.2.2.2.2.1+1)),()))))))))
    ada e d (IntKind.wrap .i64 (j+1)) c c2 aH ZD sA uA
    else none
    else none
    else none
    else none
   else
    (Ff e j qI sA aH uA).bind fun r11=>
    ada e d (IntKind.wrap .i64 (j+1)) c c2 r11.2.2.2.1 r11.2.1 r11.2.2.1 r11.2.2.2.2
   else none
   else none
 else
  ags e (IntKind.wrap .i64 (d - 1)) c c2 aH qI sA uA
theorem ah5 (e d j c c2 aH qI sA uA):ac9 e d j c c2 aH qI sA uA=agr ac9 ac3 fV e d j c c2 aH qI sA uA:=(l1 25 1 _).trans (by kernel_rfl)
def aij (ags:ae ac3)(PK:ae tH)(c:gi):Option (bX×Int×Int):=
 (PK (c.1,(c.2.1,())) ([]:List (Option (List (gi×Nat×Nat×Nat×Int×Int×Unit)))) ([]:List (Option H4)) ([]:H4) ([]:H7)).bind fun r0=>
 ags r0.1 4 c.1 c.2.1 r0.2.2.2.1 r0.2.1 r0.2.2.1 r0.2.2.2.2
theorem akW (c):ahd c=aij ac3 tH c:=(e1 25 _).trans (by kernel_rfl)
def adY (adZ:ae aaN)(ac7:ae aaL)(n:Int)(l:bX)(added:Int)(cleared:Int)(i:Int)(adg:List Int):Option (bX×Int×Int):=
 bif (decide (i<n)) then
  (idx adg i).bind fun _=>
  (adg[i.toNat]?).bind fun v0=>
  adZ n l added cleared (IntKind.wrap .i64 (i+1)) (adg.set i.toNat (-2))
 else
  ac7 n l added cleared 0 adg
theorem agv (n l added cleared i adg):aaN n l added cleared i adg=adY aaN aaL n l added cleared i adg:=(l1 27 0 _).trans (by kernel_rfl)
def ad0 (ac7:ae aaL)(ac8:ae aaM)(n:Int)(l:bX)(added:Int)(cleared:Int)(k:Int)(adg:List Int):Option (bX×Int×Int):=
 bif (decide (k<(l.length:Int))) then
  (idx l k).bind fun v0=>
  bif (decide (v0.2.1<0)) then
   (idx l k).bind fun v1=>
   let e2:Int:=(IntKind.wrap .i64 ((IntKind.wrap .i64 (n - 1)) - v1.1))
   (idx adg e2).bind fun _=>
   (adg[e2.toNat]?).bind fun v3=>
   ac7 n l added cleared (IntKind.wrap .i64 (k+1)) (adg.set e2.toNat (-1))
  else
   (idx l k).bind fun v4=>
   let e5:Int:=(IntKind.wrap .i64 ((IntKind.wrap .i64 (n - 1)) - v4.2.1))
   (idx l k).bind fun v6=>
   let e7:Int:=(IntKind.wrap .i64 ((IntKind.wrap .i64 (n - 1)) - v6.1))
   (idx adg e5).bind fun _=>
   (adg[e5.toNat]?).bind fun v8=>
   ac7 n l added cleared (IntKind.wrap .i64 (k+1)) (adg.set e5.toNat e7)
 else
  ac8 n added cleared 0 adg ([]:bX)
theorem ag8 (n l added cleared k adg):aaL n l added cleared k adg=ad0 aaL aaM n l added cleared k adg:=(l1 27 1 _).trans (by kernel_rfl)
def aeL (ac8:ae aaM)(n:Int)(added:Int)(cleared:Int)(i:Int)(adg:List Int)(out:bX):Option (bX×Int×Int):=
 bif (decide (i<n)) then
  (idx adg i).bind fun _=>
  (adg[i.toNat]?).bind fun v0=>
  bif (decide (v0>(-2))) then
   (idx adg i).bind fun _=>
   (adg[i.toNat]?).bind fun v1=>
   bif (aP 16 2 out.length 1) then
   let e2:bX:=(out++([(i,(v1,()))]:bX))
   ac8 n added cleared (IntKind.wrap .i64 (i+1)) adg e2
   else none
  else
   ac8 n added cleared (IntKind.wrap .i64 (i+1)) adg out
 else
  some (out,added,cleared)
theorem ahb (n added cleared i adg out):aaM n added cleared i adg out=aeL aaM n added cleared i adg out:=(l1 27 2 _).trans (by kernel_rfl)
def ahG (adZ:ae aaN)(ak4:ae ahg)(ak3:ae ahd)(c:gi):Option (bX×Int×Int):=
 (ak4 (c.1,(c.2.1,()))).bind fun r0=>
 (ak3 (r0.1,(r0.2.1,()))).bind fun r1=>
 bif (gK 8 (c.2.1.length:Int) (c.2.1.length:Int)) then
 let e2:List Int:=(List.replicate (c.2.1.length:Int).toNat 0)
 adZ (c.2.1.length:Int) r1.1 r1.2.1 r1.2.2 0 e2
 else none
theorem ajJ (c):ae6 c=ahG aaN ahg ahd c:=(e1 27 _).trans (by kernel_rfl)
def Fg (c:gi)(qI:List (Option (List (gi×Nat×Nat×Nat×Int×Int×Unit))))(sA:List (Option H4))(aH:H4)(uA:H7):Option ((Nat)×(List (Option (List (gi×Nat×Nat×Nat×Int×Int×Unit))))×(List (Option H4))×H4×H7):=
 bif (gK 24 (c.2.1.length:Int) (c.2.1.length:Int)) then
 let e0:List (Option H4):=(sA++[some (List.replicate (c.2.1.length:Int).toNat (none:Option (List Int)))])
 bif (gK 8 (c.2.1.length:Int) (c.2.1.length:Int)) then
 let e1:H4:=(aH++[some (List.replicate (c.2.1.length:Int).toNat 0)])
 bif (gK 1 (c.2.1.length:Int) (c.2.1.length:Int)) then
 let e2:H7:=(uA++[some (List.replicate (c.2.1.length:Int).toNat false)])
 let e3:List (Option (List (gi×Nat×Nat×Nat×Int×Int×Unit))):=(qI++[some [((c.1,(c.2.1,())),((sA.length+1:Nat),((aH.length+1:Nat),((uA.length+1:Nat),(0,(0,()))))))]])
 some ((qI.length+1:Nat),(e3,e0,e1,e2))
 else none
 else none
 else none
theorem NK (c qI sA aH uA):tH c qI sA aH uA=Fg c qI sA aH uA:=(e1 47 _).trans (by kernel_rfl)
def jK (jL:ae c7)(dx:ae sM)(ti:ae i6)(e:Nat)(j:Int)(p:Int)(x:List Int)(aH:H4)(qI:List (Option (List (gi×Nat×Nat×Nat×Int×Int×Unit))))(sA:List (Option H4))(uA:H7):Option ((Unit)×(List (Option (List (gi×Nat×Nat×Nat×Int×Int×Unit))))×(List (Option H4))×H4×H7):=
 (dx x).bind fun r0=>
 bif (decide (r0≥0)) then
  bif (!(Nat.beq e 0)) then
  bif (!(Nat.beq e 0)) then
  (af qI e).bind fun v1=>
  (v1[0]?).bind fun v2=>
  (dx x).bind fun r3=>
  (af sA v2.2.1).bind fun v4=>
  (idx v4 r3).bind fun _=>
  (af sA v2.2.1).bind fun v5=>
  (v5[r3.toNat]?).bind fun v6=>
  bif (!(Option.isNone v6)) then
   bif (!(Nat.beq e 0)) then
   bif (!(Nat.beq e 0)) then
   (af qI e).bind fun v7=>
   (v7[0]?).bind fun v8=>
   (dx x).bind fun r9=>
   (af sA v8.2.1).bind fun v10=>
   (idx v10 r9).bind fun _=>
   (af sA v8.2.1).bind fun v11=>
   (v11[r9.toNat]?).bind fun v12=>
   (dx x).bind fun r13=>
   (idx x r13).bind fun _=>
   (x[r13.toNat]?).bind fun I3=>
   (dx x).bind fun TO=>
   (idx (lst v12) TO).bind fun v16=>
   (ti p v16).bind fun r17=>
   let e18:Int:=(IntKind.wrap .i64 ((IntKind.wrap .i64 (p - I3))*r17))
   bif (!(p==0)) then
   jL e j p (lst v12) (e18.tmod p) 0 x aH qI sA uA
   else none
   else none
   else none
  else
   (dx x).bind fun r19=>
   bif (decide (r19<0)) then
    bif (!(Nat.beq e 0)) then
    bif (!(Nat.beq e 0)) then
    (af qI e).bind fun v20=>
    (v20[0]?).bind fun v21=>
    (af uA v21.2.2.2.1).bind fun v22=>
    (idx v22 j).bind fun _=>
    (af uA v21.2.2.2.1).bind fun v23=>
    (v23[j.toNat]?).bind fun v24=>
    some ((),(qI,sA,aH,(b9 uA v21.2.2.2.1 (v23.set j.toNat true))))
    else none
    else none
   else
    bif (!(Nat.beq e 0)) then
    bif (!(Nat.beq e 0)) then
    (af qI e).bind fun v25=>
    (v25[0]?).bind fun v26=>
    (dx x).bind fun r27=>
    (af sA v26.2.1).bind fun v28=>
    (idx v28 r27).bind fun _=>
    (af sA v26.2.1).bind fun v29=>
    (v29[r27.toNat]?).bind fun v30=>
    (va [] (.pg (.int .i64)) [⟨.slice (.int .i64),x⟩]).bind fun v31=>
    bif (!(Nat.beq e 0)) then
    bif (!(Nat.beq e 0)) then
    (af qI e).bind fun v32=>
    (v32[0]?).bind fun v33=>
    (dx x).bind fun r34=>
    (af aH v33.2.2.1).bind fun v35=>
    (idx v35 r34).bind fun _=>
    (af aH v33.2.2.1).bind fun v36=>
    (v36[r34.toNat]?).bind fun v37=>
    some ((),(qI,(b9 sA v26.2.1 (v29.set r27.toNat v31)),(b9 aH v33.2.2.1 (v36.set r34.toNat j)),uA))
    else none
    else none
    else none
    else none
  else none
  else none
 else
  (dx x).bind fun r38=>
  bif (decide (r38<0)) then
   bif (!(Nat.beq e 0)) then
   bif (!(Nat.beq e 0)) then
   (af qI e).bind fun v39=>
   (v39[0]?).bind fun v40=>
   (af uA v40.2.2.2.1).bind fun v41=>
   (idx v41 j).bind fun _=>
   (af uA v40.2.2.2.1).bind fun v42=>
   (v42[j.toNat]?).bind fun v43=>
   some ((),(qI,sA,aH,(b9 uA v40.2.2.2.1 (v42.set j.toNat true))))
   else none
   else none
  else
   bif (!(Nat.beq e 0)) then
   bif (!(Nat.beq e 0)) then
   (af qI e).bind fun v44=>
   (v44[0]?).bind fun v45=>
   (dx x).bind fun r46=>
   (af sA v45.2.1).bind fun v47=>
   (idx v47 r46).bind fun _=>
   (af sA v45.2.1).bind fun v48=>
   (v48[r46.toNat]?).bind fun v49=>
   (va [] (.pg (.int .i64)) [⟨.slice (.int .i64),x⟩]).bind fun v50=>
   bif (!(Nat.beq e 0)) then
   bif (!(Nat.beq e 0)) then
   (af qI e).bind fun v51=>
   (v51[0]?).bind fun v52=>
   (dx x).bind fun r53=>
   (af aH v52.2.2.1).bind fun v54=>
   (idx v54 r53).bind fun _=>
   (af aH v52.2.2.1).bind fun v55=>
   (v55[r53.toNat]?).bind fun v56=>
   some ((),(qI,(b9 sA v45.2.1 (v48.set r46.toNat v50)),(b9 aH v52.2.2.1 (v55.set r53.toNat j)),uA))
   else none
   else none
   else none
   else none
theorem oP (e j p x aH qI sA uA):bA e j p x aH qI sA uA=jK c7 sM i6 e j p x aH qI sA uA:=(l1 48 0 _).trans (by kernel_rfl)
def jM (jL:ae c7)(jN:ae bA)(e:Nat)(j:Int)(p:Int)(y:List Int)(k:Int)(i:Int)(x:List Int)(aH:H4)(qI:List (Option (List (gi×Nat×Nat×Nat×Int×Int×Unit))))(sA:List (Option H4))(uA:H7):Option ((Unit)×(List (Option (List (gi×Nat×Nat×Nat×Int×Int×Unit))))×(List (Option H4))×H4×H7):=
 bif (decide (i<(x.length:Int))) then
  (idx x i).bind fun _=>
  (x[i.toNat]?).bind fun v0=>
  (idx y i).bind fun v1=>
  let e2:Int:=(IntKind.wrap .i64 (v0+(IntKind.wrap .i64 (k*v1))))
  bif (!(p==0)) then
  (idx x i).bind fun _=>
  (x[i.toNat]?).bind fun v3=>
  jL e j p y k (IntKind.wrap .i64 (i+1)) (x.set i.toNat (e2.tmod p)) aH qI sA uA
  else none
 else
  bif (!(Nat.beq e 0)) then
  bif (!(Nat.beq e 0)) then
  (af qI e).bind fun v4=>
  (v4[0]?).bind fun v5=>
  bif (!(Nat.beq e 0)) then
  bif (!(Nat.beq e 0)) then
  (af qI e).bind fun v6=>
  (v6[0]?).bind fun v7=>
  let e8:List (Option (List (gi×Nat×Nat×Nat×Int×Int×Unit))):=(b9 qI e (v6.set 0 ((v7.1.1,(v7.1.2.1,())),(v7.2.1,(v7.2.2.1,(v7.2.2.2.1,((IntKind.wrap .i64 (v5.2.2.2.2.1+1)),(v7.2.2.2.2.2.1,()))))))))
  jN e j p x aH e8 sA uA
  else none
  else none
  else none
  else none
theorem oQ (e j p y k i x aH qI sA uA):c7 e j p y k i x aH qI sA uA=jM c7 bA e j p y k i x aH qI sA uA:=(l1 48 1 _).trans (by kernel_rfl)
def tj (jN:ae bA)(Iv:ae lM)(e:Nat)(j:Int)(qI:List (Option (List (gi×Nat×Nat×Nat×Int×Int×Unit))))(sA:List (Option H4))(aH:H4)(uA:H7):Option ((Unit)×(List (Option (List (gi×Nat×Nat×Nat×Int×Int×Unit))))×(List (Option H4))×H4×H7):=
 bif (!(Nat.beq e 0)) then
 bif (!(Nat.beq e 0)) then
 (af qI e).bind fun v0=>
 (v0[0]?).bind fun v1=>
 bif (!(Nat.beq e 0)) then
 bif (!(Nat.beq e 0)) then
 (af qI e).bind fun v2=>
 (v2[0]?).bind fun v3=>
 (idx v3.1.2.1 j).bind fun v4=>
 bif (!(Nat.beq e 0)) then
 bif (!(Nat.beq e 0)) then
 (af qI e).bind fun v5=>
 (v5[0]?).bind fun v6=>
 (Iv v4.2.2.1 (v6.1.2.1.length:Int)).bind fun r7=>
 jN e j v1.1.1 r7 aH qI sA uA
 else none
 else none
 else none
 else none
 else none
 else none
theorem aih (e j qI sA aH uA):fV e j qI sA aH uA=tj bA lM e j qI sA aH uA:=(e1 48 _).trans (by kernel_rfl)
def kf (dS:ae dn)(e:Nat)(i:Int)(out:bX)(aH:H4)(qI:List (Option (List (gi×Nat×Nat×Nat×Int×Int×Unit))))(sA:List (Option H4))(uA:H7):Option bX:=
 bif (!(Nat.beq e 0)) then
 bif (!(Nat.beq e 0)) then
 (af qI e).bind fun v0=>
 (v0[0]?).bind fun v1=>
 (af sA v1.2.1).bind fun v2=>
 bif (decide (i<(v2.length:Int))) then
  bif (!(Nat.beq e 0)) then
  bif (!(Nat.beq e 0)) then
  (af qI e).bind fun v3=>
  (v3[0]?).bind fun v4=>
  (af sA v4.2.1).bind fun v5=>
  (idx v5 i).bind fun _=>
  (af sA v4.2.1).bind fun v6=>
  (v6[i.toNat]?).bind fun v7=>
  bif (!(Option.isNone v7)) then
   bif (!(Nat.beq e 0)) then
   bif (!(Nat.beq e 0)) then
   (af qI e).bind fun v8=>
   (v8[0]?).bind fun v9=>
   (af aH v9.2.2.1).bind fun v10=>
   (idx v10 i).bind fun _=>
   (af aH v9.2.2.1).bind fun v11=>
   (v11[i.toNat]?).bind fun v12=>
   bif (aP 16 2 out.length 1) then
   let O8:bX:=(out++([(i,(v12,()))]:bX))
   dS e (IntKind.wrap .i64 (i+1)) O8 aH qI sA uA
   else none
   else none
   else none
  else
   bif (!(Nat.beq e 0)) then
   bif (!(Nat.beq e 0)) then
   (af qI e).bind fun I3=>
   (I3[0]?).bind fun ZL=>
   (af uA ZL.2.2.2.1).bind fun v16=>
   (idx v16 i).bind fun _=>
   (af uA ZL.2.2.2.1).bind fun v17=>
   (v17[i.toNat]?).bind fun J9=>
   bif J9 then
    let e19:bX:=([(i,((-1),()))]:bX)
    bif (aP 16 2 out.length 1) then
    dS e (IntKind.wrap .i64 (i+1)) (out++e19) aH qI sA uA
    else none
   else
    dS e (IntKind.wrap .i64 (i+1)) out aH qI sA uA
   else none
   else none
  else none
  else none
 else
  some out
 else none
 else none
theorem o9 (e i out aH qI sA uA):dn e i out aH qI sA uA=kf dn e i out aH qI sA uA:=(l1 49 0 _).trans (by kernel_rfl)
def uk (dS:ae dn)(e:Nat)(qI:List (Option (List (gi×Nat×Nat×Nat×Int×Int×Unit))))(sA:List (Option H4))(aH:H4)(uA:H7):Option bX:=
 dS e 0 ([]:bX) aH qI sA uA
theorem Fh (e qI sA aH uA):oh e qI sA aH uA=uk dn e qI sA aH uA:=(e1 49 _).trans (by kernel_rfl)
def uW (uX:ae jP)(v:List Int)(i:Int):Option (Int):=
 bif (decide (i≥0)) then
  (idx v i).bind fun v0=>
  bif (v0 != 0) then
   some i
  else
   uX v (IntKind.wrap .i64 (i - 1))
 else
  some (-1)
theorem B4 (v i):jP v i=uW jP v i:=(l1 89 0 _).trans (by kernel_rfl)
def Iw (uX:ae jP)(v:List Int):Option (Int):=
 let e0:Int:=(IntKind.wrap .i64 ((v.length:Int) - 1))
 uX v e0
theorem Rc (v):sM v=Iw jP v:=(e1 89 _).trans (by kernel_rfl)
end
end Go.Proofs.YtofjebmoebhiiaaGreatDoor.Ev
